/- bytes.Count at one byte, bytes.LastIndexByte, diag.New, walked. (and what follows of it). The conditions stand at each lemma. -/
import Derived.Test.YtioffpjajhalaaaGreatDoorJaa
import Derived.Test.YtioffpjajhalaaaGreatDoorJac
import Derived.Shelf.Bytes.SlCountOne
import Derived.IntWalk
import Derived.Test.YtioffpjajhalaaaGreatDoorJad
import Derived.Lib.Builder
import Derived.Lib.AppendStr
import Derived.Lib.UnsafeStr
import Derived.Laws.Externs
import Derived.Test.YtioffpjajhalaaaGreatDoorJab
import Derived.Deep.Slices
import Derived.Deep.Fields
import Derived.ChangeSame
import Derived.OpenShut
import Derived.ShutString
import Derived.ChangeOld
set_option linter.unusedVariables false
set_option linter.unusedSimpArgs false
set_option maxRecDepth 100000
set_option maxHeartbeats 16000000
namespace Go.Proofs.YtioffpjajhalaaaGreatDoor
open Go Go.RowKit
theorem zRh {w:World}{a:Addr}{l:Bs}(h:Cells w (some a) (xO l)):∀i,i<l.length→w.cell? (a.add i)=some (.int .u8 ((zDf l).getD i 0)):=by
 intro i hi;obtain⟨b,AA,e,hb,hc⟩:=h.at_ (by rw[jU]; omega);injection e with e;subst e
 rw[zI3 l i hi,show(⟨b,AA,none⟩:Addr).add i=⟨b,AA+i,none⟩ from by unfold Addr.add; split <;> simp_all,hc i (by rw[jU]; exact hi),zAc l i hi]
theorem zRB {w:World}{A:Option Addr}{l:Bs}{n c:Nat}(hn:n=l.length)(h:Cells w A (xO l)) :
  (Extern.BytealgCount.count #[.slice A n c,.int .u8 10]).run Tryz.prog w=.ok (.int .i64 ((l.count 10:Nat):Int)) w:=by
 subst hn
 cases A with
 | none=>
  have h0:l=[]:=by
   rcases h with h | ⟨b,AA,e,_⟩
   ·have:(xO l).length=0:=by rw[h]; rfl
    rw[jU] at this;exact List.eq_nil_of_length_eq_zero this
   ·cases e
  subst h0;exact Lib.run_countNil w _ c 10
 | some a=>
  have h1:=Lib.run_countAt (P:=Tryz.prog) w a l.length c (zDf l) (zGE l) (zRh h) 10;rw[zBG] at h1;exact h1
theorem zQ4 (A:Option Addr)(l:Bs)(n c g d:Nat)(w:World)(hn:n=l.length)(h:Cells w A (xO l))(hg:w.cell? ⟨g,0,none⟩=some (.int .u8 10)) :
  Calls Tryz.prog 65 #[.slice A n c,.slice (some ⟨g,0,none⟩) 1 d] w fun e w'=>e=.returned (.int .i64 ((l.count 10:Nat):Int))∧w'=w:=by
 have hr:=zRB (n:=n) (c:=c) hn h;clear h hn;generalize ((l.count 10:Nat):Int)=z at *
 go_enter Tryz.func65,Tryz.ntmps65
 go_wp2
 rw[run_callFunc_extern Tryz.func110 (by kernel_rfl) (by kernel_rfl) (by kernel_rfl) (e:=Extern.BytealgCount.count) (by kernel_rfl),hr];simp only[Result.andThen];rw[Oper.upon_value]
 go_wp2
 go_ret;exact⟨rfl,rfl⟩
def zB0 (l:Bs):Nat→Int
 | 0=>-1
 | k+1=>if l.getD k 0==10 then (k:Int) else zB0 l k
theorem zKY (l:Bs):∀k:Nat,-1≤zB0 l k∧zB0 l k<k
 | 0=>by simp[zB0]
 | k+1=>by
  unfold zB0
  have:=zKY l k
  split <;> omega
theorem zPh (A:Option Addr)(l:Bs)(n c:Nat)(w:World)(hn:n=l.length)(hbig:l.length≤140737488355328)(h:Cells w A (xO l))(z:Int)(hz:Hid (zB0 l l.length=z)) :
  Calls Tryz.prog 112 #[.slice A n c,.int .u8 10] w fun e w'=>e=.returned (.int .i64 z)∧w'=w:=by
 subst hn;have HC:=yD h;clear h
 go_enter Tryz.func112,Tryz.ntmps112
 go_wp2_with fail
 go_loop [5] (fun i=>∃k:Nat,k≤l.length∧i=.int .i64 ((k:Int)-1)∧Hid (zB0 l k=z)) (fun i=>(intOf i+1).toNat)
 case atStart=>exact⟨l.length,zU _,rfl,hz⟩
 case round=>
  obtain⟨k,hk,rfl,HZ⟩:=hrel
  cases k with
  | zero=>
   have HE:Hid (z=-1):=yD (by rw[←HZ.out]; rfl)
   go_wp2_with fail
   go_ret;exact⟨zFW HE.out.symm,rfl⟩
  | succ k=>
   rw[show(((k+1:Nat):Int)-1)=(k:Int) from by omega]
   have AD:k<l.length:=by omega
   obtain⟨b,AB,hA,hb,AE⟩:=HC.out.at_ (by rw[jU]; omega);subst hA
   have e0:w.cell? ⟨b,AB+k,none⟩=some (.int .u8 (l[k].toNat:Int)):=by rw[AE k (by rw[jU]; omega),zAc l k AD]
   have AA:=HZ.out;unfold zB0 at AA;rw[show l.getD k 0=l[k] from by simp[AD]] at AA;have AC:=yD AA;clear AE AA HZ
   have q0:(k:Int)<(l.length:Int):=by omega
   generalize l[k]=x at *
   by_cases hx:x=10
   ·subst hx;have AF:w.cell? ⟨b,AB+k,none⟩=some (.int .u8 10):=e0;clear e0;have HE:Hid (z=(k:Int)):=yD (by rw[←AC.out]; rfl)
    go_wp2_with fail
    go_ret;exact⟨zFW HE.out.symm,rfl⟩
   ·have d1:((x.toNat:Int)==10)=false:=by
     rw[yF];intro h;apply hx
     have:x.toNat=10:=by omega
     exact UInt8.toNat_inj.1 this
    have HE:Hid (zB0 l k=z):=yD (by rw[←AC.out,if_neg (by simpa using hx)])
    go_wp2_with fail
    go_round
    case rel=>exact⟨k,by omega,rfl,HE⟩
    case measure=>simp[intOf]
theorem zSN (A:Option Addr)(l:Bs)(n c:Nat)(w:World)(hn:n=l.length)(hbig:l.length≤140737488355328)(h:Cells w A (xO l))(z:Int)(hz:Hid (zB0 l l.length=z)) :
  Calls Tryz.prog 66 #[.slice A n c,.int .u8 10] w fun e w'=>e=.returned (.int .i64 z)∧w'=w:=by
 have H:=yD (zPh A l n c w hn hbig h z hz);clear h hn hz
 go_enter Tryz.func66,Tryz.ntmps66
 go_wp2_with fail
 refine H.out.mono ?_;rintro e w' ⟨rfl,rfl⟩
 go_wp2_with fail
 go_ret;exact⟨rfl,rfl⟩
theorem Blk.zWA {w:World}{t:TypeId}{cs:Array Value}{g:Nat}(hg:w.heap.size=g):Blk (w.alloc (.cells cs t)) g t cs:=by subst hg; exact Blk.new _ _ _
def atN (at_:Int)(n:Nat):Nat:=(max 0 (min at_ (n:Int))).toNat
theorem zVQ (at_:Int)(n:Nat):atN at_ n≤n:=by unfold atN; omega
def zJm (l:Bs)(k:Nat):Int:=((l.take k).count 10:Nat)+1
def zOB (l:Bs)(k:Nat):Int:=(k:Int)-zB0 (l.take k) k
theorem zMq (A:Option Addr)(l:Bs)(n c:Nat)(at_ er:Int)(w:World)(hn:n=l.length)(hbig:l.length≤140737488355328)(hcap:l.length≤c)(hat1:-9223372036854775808≤at_)(hat2:at_≤9223372036854775807)(h:Cells w A (xO l))(her:er≠0) :
  Calls Tryz.prog 30 #[.slice A n c,.int .i64 at_,.int .i64 er] w fun e w'=>∃g,e=.returned (.iface 107 (.pointer (some ⟨g,0,none⟩)))∧w.heap.size≤g∧Blk w' g 110 #[.int .i64 (atN at_ l.length:Int),.int .i64 (zJm l (atN at_ l.length)),.int .i64 (zOB l (atN at_ l.length)),.int .i64 er]∧Ext w w':=by
 subst hn;have HC:=yD h;clear h
 have d0:(er==0)=false:=by rw[yF]; exact her
 go_enter Tryz.func30,Tryz.ntmps30
 go_wp2_with fail
 have hq:max 0 (min at_ (l.length:Int))=((atN at_ l.length:Nat):Int):=by unfold atN; omega
 have AH:=zVQ at_ l.length;rw[hq,zH];clear hq;generalize hqe:atN at_ l.length=q at *;have AF:=yD hqe;clear hqe
 have AC:Cells w A (xO (l.take q)):=by
  have h:=zDe HC.out hcap 0 q;rw[List.drop_zero] at h;unfold zGQ at h
  split at h
  ·exact h
  ·cases A with
   | none=>exact h
   | some x=>exact h
 have AD:(l.take q).length=q:=by simp; omega
 have AA:=yD AD;have AE:=yD (AC.ext (Ext.alloc w (.cells #[.int .u8 10] 5)));obtain⟨cn,AB⟩:∃cn:Nat,Hid ((l.take q).count 10=cn):=⟨_,yD rfl⟩
 have AG:cn≤140737488355328:=by
  have:=List.count_le_length (a:=(10:UInt8)) (l:=l.take q)
  rw[AB.out] at this;omega
 obtain⟨z,HZ⟩:∃z,Hid (zB0 (l.take q) q=z):=⟨_,yD rfl⟩;have hz:=zKY (l.take q) q;rw[HZ.out] at hz;obtain⟨AJ,AI⟩:=hz;clear AC AD;refine(zQ4 A (l.take q) q c w.heap.size 1 _ (by rw[AA.out]) AE.out (by simp)).mono ?_;rintro e w' ⟨rfl,rfl⟩;rw[AB.out]
 go_wp2_with fail
 refine(zSN A (l.take q) q c _ (by rw[AA.out]) (by rw[AA.out]; omega) AE.out z (by rw[AA.out]; exact HZ)).mono ?_;rintro e w' ⟨rfl,rfl⟩
 go_wp2_with fail
 go_ret
 have h1:zJm l q=(cn:Int)+1:=by unfold zJm; rw[AB.out]
 have h2:zOB l q=(q:Int)-z:=by unfold zOB; rw[HZ.out]
 rw[AF.out,h1,h2];exact⟨_,rfl,by simp,Blk.zWA (by simp),(Ext.alloc _ _).trans (Ext.alloc _ _)⟩
def YC (t:Tok):List Value:=[.int .u8 (t.kind:Int),.int .i64 (t.at_:Int),.int .i64 (t.en:Int),.string (yX t.text),.int .i64 t.n]
def xL (l:List Tok):List Value:=l.flatMap YC
theorem zFz (l:List Tok):(xL l).length=l.length*5:=by
 unfold xL
 induction l with
 | nil=>rfl
 | cons t l ih=>rw[List.flatMap_cons,yM,ih,zJ]; show 5+_=_; omega
theorem zHA (l:List Tok)(t:Tok):xL (l++[t])=xL l++YC t:=by simp[xL]
def zDS (l:Bs):zAv:=if 65536<l.length then .err 0 3 else VJ 0 l
def zMb (l:Bs)(w:World)(r:zAv)(e:Ending)(w':World):Prop:=Ext w w'∧match r with
 | .ok ts=>∃A' c',e=.returned (.tuple #[.slice A' ts.length c',.nilIface])∧(A'=none→c'=0)∧w'.ownsRow w.heap.size 29 5 (.slice A' ts.length c') ts.length (xL ts)
 | .err a er=>∃g,e=.returned (.tuple #[.slice none 0 0,.iface 107 (.pointer (some ⟨g,0,none⟩))])∧w.heap.size≤g∧Blk w' g 110 #[.int .i64 (a:Int),.int .i64 (zJm l a),.int .i64 (zOB l a),.int .i64 er]
theorem zRK:(Tryz.prog.info? 29).map (fun i=>(i.zero,i.size,i.bytes))=some (some (.agg #[.int .u8 0,.int .i64 0,.int .i64 0,.string ⟨#[]⟩,.int .i64 0]),5,48):=by kernel_rfl
theorem zN9 {w:World}{A:Option Addr}{cs:List Value}(h:Cells w A cs)(h0:0<cs.length)(b off:Nat)(e:A=some ⟨b,off,none⟩):b<w.heap.size:=by
 obtain⟨b',AA,e',hb,_⟩:=h.at_ h0;rw[e] at e';injection e' with e';injection e' with e';subst e';exact hb
theorem zVm {t:Tok}:∀u ∈ YC t,u.oneCell'=true:=by
 intro u hu;simp only[YC,zR,List.not_mem_nil,or_false] at hu
 rcases hu with rfl | rfl | rfl | rfl | rfl <;> rfl
theorem Cells.newAt {w:World}{t:TypeId}{cs:Array Value}{g:Nat}{l:List Value}(hg:w.heap.size=g)(hl:cs.toList=l:=by rfl):Cells (w.alloc (.cells cs t)) (some ⟨g,0,none⟩) l:=by subst hg hl; exact Cells.new _ _ _
theorem zU3 (k n:Nat)(h:k≤n):atN (k:Int) n=k:=by unfold atN; omega
theorem zQw (A:Option Addr)(l:Bs)(n c:Nat)(w:World)(hn:n=l.length)(hbig:l.length≤140737488355328)(hcap:l.length≤c)(h:Cells w A (xO l))(hlim:65536<l.length) :
  Calls Tryz.prog 9 #[.slice A n c] w (zMb l w (zDS l)):=by
 subst hn;have HC:=yD h;clear h;have HS:Hid (zDS l=.err 0 3):=yD (by unfold zDS; rw[if_pos hlim])
 go_enter Tryz.func9,Tryz.ntmps9
 go_wp2_with fail
 refine(zMq A l l.length c 0 3 w rfl hbig hcap (by omega) (by omega) HC.out (by decide)).mono ?_;rintro e w' ⟨g,rfl,hg,hb,hx⟩;rw[show atN 0 l.length=0 from by unfold atN; omega] at hb
 go_wp2_with fail
 go_ret2;rw[HS.out];exact⟨hx,g,rfl,hg,hb⟩
theorem zWi (A:Option Addr)(l:Bs)(n c:Nat)(w:World)(hn:n=l.length)(hcap:l.length≤c)(hnil:A=none→c=0)(h:Cells w A (xO l))(hlim:l.length≤65536) :
  Calls Tryz.prog 9 #[.slice A n c] w (zMb l w (zDS l)):=by
 subst hn;obtain⟨i0,hi,Ab,AX,Ah⟩:=info_parts zRK;have HC:=yD h;have HN:=yD hnil;have HS:Hid (zDS l=VJ 0 l):=yD (by unfold zDS; rw[if_neg (by omega)]);have AY:Hid (Ext w (w.alloc (.cells #[.slice A l.length c,.int .i64 0] 65))):=yD (Ext.alloc _ _)
 have Aj:Hid (Rd (w.alloc (.cells #[.slice A l.length c,.int .i64 0] 65)) w.heap.size A l c 0):=yD ⟨Blk.new _ _ _,h.ext (Ext.alloc _ _),fun h0 b Am e=>by
  have:=zN9 h (by rw[jU]; exact h0) b Am e
  omega,zT _,hcap,hnil,by omega⟩
 clear h hnil
 go_enter Tryz.func9,Tryz.ntmps9
 go_wp2_with fail
 refine(zMR w.heap.size A l c 0 _ Aj.out).mono ?_;rintro e w1 ⟨rfl,k1,_,Aa,AV,AJ,Ai⟩;rw[List.drop_zero] at AJ;have Ao:=yD (Aa.ext AY.out (zU _));have AN:=yD AV;have Ar:=yD AJ;have An:=yD Ai;clear AY Aj Aa AV AJ Ai;obtain⟨g,hg⟩:∃g,w.heap.size=g:=⟨_,rfl⟩;rw[hg] at AN ⊢;have HG:=yD hg;clear hg
 go_wp2_with fail
 go_loopg [5] (l.length-k1) (fun gk out wr=>∃(k:Nat) (lo:List Tok) (A':Option Addr) (c':Nat),k≤l.length∧gk=l.length-k∧lo.length≤k∧out=.slice A' lo.length c'∧Hid ((A'=none→c'=0)∧wr.ownsRow w.heap.size 29 5 (.slice A' lo.length c') lo.length (xL lo)∧Rd wr g A l c k∧Ext w wr∧VJ 0 l=(VJ k (l.drop k)).pre lo∧∀x,(l.drop k).head?=some x→YF x=false∧(x==35)=false))
 case atStart=>exact⟨k1,[],none,0,AN.out.le,rfl,zT _,rfl,yD ⟨fun _=>rfl,zP _ _ _ _,AN.out,Ao.out,by rw[zL2]; exact Ar.out,An.out⟩⟩
 case round=>
  obtain⟨k,lo,A',c',hk,rfl,A0,rfl,HW⟩:=hrel;obtain⟨wa,rfl⟩:∃wa:World,wa=wr:=⟨_,rfl⟩;have b1:wa.cell? ⟨g,1,none⟩=some (.int .i64 (k:Int)):=HW.out.2.2.1.blk.cell 1
  by_cases AW:k<l.length
  ·have d0:decide ((k:Int)<(l.length:Int))=true:=yP (by omega);have AT:=HW.out.2.2.2.2.2 l[k] (by rw[List.drop_eq_getElem_cons AW]; rfl)
   go_wp2_with fail
   refine(zSh g A l c k wa HW.out.2.2.1 AW AT.1 AT.2).mono ?_;rintro e w2 ⟨hm,⟨kd,j,n,AE,rfl,AM⟩ | ⟨er,kd,en,x,n,AE,Ak,rfl⟩⟩
   ·have AI:=yD (zNF (p:=k) AE)
    have hj:1≤j:=by
     have hw:=zCs (l.drop k);rw[AE] at hw;exact hw.1
    have AD:=yD (hm.own HW.out.2.1 (XW HW.out.2.1 HW.out.2.2.1.blk (by decide)));have AC:=yD (hm.ext HW.out.2.2.2.1 (by rw[HG.out]; exact zU _));have AF:=yD AM;have Ax:=yD HW.out.1;have AP:=yD HW.out.2.2.2.2.1;have Ad:=AM.le;obtain⟨tx,Ae⟩:∃tx,Hid ((l.drop k).take j=tx):=⟨_,yD rfl⟩;rw[Ae.out] at AI;rw[Ae.out];dsimp only[zD1];obtain⟨en,AR⟩:∃en,Hid (k+j=en):=⟨_,yD rfl⟩
    have Az:k+1≤en:=by have:=AR.out; omega
    rw[AR.out] at AI AF Ad ⊢;clear AE hm AM HW b1 AT
    go_wp2_with (at_builtin; refine zBI rfl (.tmp 39) (.tmp 41) 23 rfl w.heap.size 29 i0 _ 5 48 Tryz.underlying23 hi Ab AX Ah rfl (by decide) _ _ _ rfl ((AD.out.alloc _).alloc _) _ 1 1 (YC ⟨kd,k,en,tx,n⟩) rfl (by simp) rfl (by exact(Cells.newAt (by simp))) zVm (by unfold maxLen; omega) (by omega) (by have:=AC.out.size; simp; omega) ?_; intro A4 c4 w4 z4 AB AG)
    have AA:w4.ownsRow w.heap.size 29 5 (.slice A4 (lo++[(⟨kd,k,en,tx,n⟩:Tok)]).length c4) (lo++[(⟨kd,k,en,tx,n⟩:Tok)]).length (xL (lo++[(⟨kd,k,en,tx,n⟩:Tok)])):=by rw[zHA,yM]; exact AB
    have AL:Ext w w4:=Below.grown ((AC.out.trans (Ext.alloc _ _)).trans (Ext.alloc _ _)) AG (by have:=AC.out.size; simp; omega) (fun q hq=>(AD.out.lt q hq).1);have Ac:Blk w4 g 65 #[.slice A l.length c,.int .i64 (en:Int)]:=(((AF.out.blk.alloc _).alloc _)).grown AG (fun e=>XW AD.out AF.out.blk (by decide) e.symm);have AU:Hid (Rd w4 g A l c en):=yD ⟨Ac,HC.out.ext AL,AF.out.far,Ad,hcap,AF.out.zJZ,by omega⟩;have AH:=yD AA;have AQ:=yD AL;clear AB AA AL Ac AG AD AC AF
    go_wp2_with fail
    refine(zMR g A l c en w4 AU.out).mono ?_;rintro e w5 ⟨rfl,k3,Ay,AO,AS,AZ,Af⟩;have Ap:=yD (AO.own AH.out (XW AH.out AU.out.blk (by decide)));have Aq:=yD (AO.ext AQ.out (by rw[HG.out]; exact zU _));have Au:=yD AS;have As:=yD AZ;have At:=yD Af;have Al:=AS.le;clear AO AS AZ Af
    go_wp2_with fail
    go_roundg (l.length-k3)
    case measure=>omega
    case rel=>
     refine⟨k3,lo++[⟨kd,k,en,tx,n⟩],A4,c4,Al,rfl,by simp; omega,by simp,yD ⟨z4,Ap.out,Au.out,Aq.out,?_,At.out⟩⟩;rw[AP.out,AI.out,zTv,List.drop_drop,AR.out,As.out]
   ·have HR:=yD (zSa (p:=k) AE);dsimp only[zD1]
    have d1:(er != 0)=true:=by rw[zD]; exact Ak
    have AC:=yD (hm.ext HW.out.2.2.2.1 (by rw[HG.out]; exact zU _));have AK:Hid (Ext w (w2.alloc (.cells #[.int .u8 (kd:Int),.int .i64 (k:Int),.int .i64 (en:Int),.string (yX x),.int .i64 n] 29))):=yD (AC.out.trans (Ext.alloc _ _));clear AE Ak hm
    go_wp2_with fail
    refine(zMq A l l.length c (k:Int) er _ rfl (by omega) hcap (by omega) (by omega) (HC.out.ext AK.out) (by simpa using d1)).mono ?_;rintro e w' ⟨g2,rfl,Av,Ag,Aw⟩;rw[zU3 k _ hk] at Ag
    go_wp2_with fail
    go_ret2;rw[HS.out,HW.out.2.2.2.2.1,HR.out];exact⟨AK.out.trans Aw,g2,rfl,Nat.le_trans AK.out.size Av,Ag⟩
  ·obtain rfl:k=l.length:=by omega
   have d0:decide ((l.length:Int)<(l.length:Int))=false:=by simp
   have AD:=yD HW.out.2.1;have AC:=yD HW.out.2.2.2.1;have AP:=yD HW.out.2.2.2.2.1;clear HW
   go_wp2_with (at_builtin; refine zBI rfl (.tmp 43) (.tmp 49) 23 rfl w.heap.size 29 i0 _ 5 48 Tryz.underlying23 hi Ab AX Ah rfl (by decide) _ _ _ rfl (AD.out.alloc _) _ 1 1 (YC ⟨4,l.length,l.length,[],0⟩) rfl (by simp) rfl (by exact(Cells.newAt rfl)) zVm (by unfold maxLen; omega) (by omega) (by have:=AC.out.size; simp; omega) ?_; intro A4 c4 w4 z4 AB AG)
   have AA:w4.ownsRow w.heap.size 29 5 (.slice A4 (lo++[(⟨4,l.length,l.length,[],0⟩:Tok)]).length c4) (lo++[(⟨4,l.length,l.length,[],0⟩:Tok)]).length (xL (lo++[(⟨4,l.length,l.length,[],0⟩:Tok)])):=by rw[zHA,yM]; exact AB
   have AQ:Hid (Ext w w4):=yD (Below.grown (AC.out.trans (Ext.alloc _ _)) AG (by have:=AC.out.size; simp; omega) (fun q hq=>(AD.out.lt q hq).1));have AH:=yD AA;clear AB AA AG
   go_wp2_with fail
   go_ret2;rw[HS.out,AP.out,List.drop_eq_nil_of_le (zU _),zJO];exact⟨AQ.out,A4,c4,by simp,z4,AH.out⟩
theorem zPF (A:Option Addr)(l:Bs)(n c:Nat)(w:World)(hn:n=l.length)(hbig:l.length≤140737488355328)(hcap:l.length≤c)(hnil:A=none→c=0)(h:Cells w A (xO l)) :
  Calls Tryz.prog 9 #[.slice A n c] w (zMb l w (zDS l)):=by
 by_cases AA:65536<l.length
 ·exact zQw A l n c w hn hbig hcap h AA
 ·exact zWi A l n c w hn hcap hnil h (by omega)
structure PrS (w:World)(B g:Nat)(A:Option Addr)(n c:Nat)(v:Value)(bs:Bs)(d:Nat):Prop where
 lo:B≤g
 blk:Blk w g 82 #[.slice A n c,.pointer none,v,.int .i64 d]∨Blk w g 82 #[.slice A n c,.pointer (some ⟨g,1,none⟩),v,.int .i64 d]
 own:w.ownsRow B 5 1 v bs.length (xO bs)
structure vU (w w':World)(B g:Nat):Prop where
 os:w'.os=w.os
 tape:w'.tape=w.tape
 output:w'.output=w.output
 size:w.heap.size≤w'.heap.size
 zAf:∀b,b<w.heap.size→b≠g→(b<B∨∀cs,¬Blk w b 5 cs)→w'.heap[b]?=w.heap[b]?
theorem vU.refl (w:World)(B g:Nat):vU w w B g:=⟨rfl,rfl,rfl,zU _,fun _ _ _ _=>rfl⟩
theorem vU.trans {w w1 w2:World}{B g:Nat}(h:vU w w1 B g)(k:vU w1 w2 B g):vU w w2 B g:=by
 refine⟨k.os.trans h.os,k.tape.trans h.tape,k.output.trans h.output,Nat.le_trans h.size k.size,fun b hb hg hM=>?_⟩;have h1:=h.zAf b hb hg hM;rw[←h1];exact k.zAf b (yR hb h.size) hg (hM.imp id fun hc cs AA=>hc cs (h1.symm.trans AA))
theorem vU.ext {w w':World}{B g:Nat}(h:Ext w w'):vU w w' B g:=⟨h.os,h.tape,h.output,h.size,fun b hb _ _=>h.block b hb⟩
theorem vU.blk {w w':World}{B g:Nat}(h:vU w w' B g){b:Nat}{t:TypeId}{cs:Array Value}(hb:Blk w b t cs)(hg:b≠g)(ht:t≠5):Blk w' b t cs:=
 (h.zAf b hb.lt hg (.inr fun AA hc=>Blk.differ hb hc ht rfl)).trans hb
theorem vU.below {w w':World}{B g:Nat}(h:vU w w' B g)(hg:B≤g)(hB:B≤w.heap.size):Below B w w':=⟨h.os,h.tape,h.output,h.size,fun b hb=>h.zAf b (by omega) (by omega) (.inl hb)⟩
theorem zIU {w:World}{B:Nat}{t:TypeId}{s n:Nat}{v:Value}{xs:List Value}(h:w.ownsRow B t s v n xs){b:Nat}(e:v.ownBlock=some b):B≤b∧b<w.heap.size∧∃cur,Blk w b t cur:=by
 rcases h.2 with ⟨hv,_⟩ | ⟨g,AA,cur,hv,hb,hh,_⟩
 ·rw[hv] at e; cases e
 ·rw[hv] at e
  have:g=b:=by simpa [Value.ownBlock] using e
  subst this;exact⟨hb,(Array.getElem?_eq_some_iff.1 hh).1,cur,hh⟩
theorem PrS.any {w:World}{B g:Nat}{A:Option Addr}{n c:Nat}{v:Value}{bs:Bs}{d:Nat}(h:PrS w B g A n c v bs d):∃ad,Blk w g 82 #[.slice A n c,ad,v,.int .i64 d]:=by
 rcases h.blk with h | h
 ·exact⟨_,h⟩
 ·exact⟨_,h⟩
theorem PrS.ne {w:World}{B g:Nat}{A:Option Addr}{n c:Nat}{v:Value}{bs:Bs}{d:Nat}(h:PrS w B g A n c v bs d):v.ownBlock≠some g:=fun e=>by
 obtain⟨_,_,AA,hc⟩:=zIU h.own e;obtain⟨ad,ha⟩:=h.any;exact Blk.differ ha hc (by decide) rfl
theorem zP6:(Tryz.prog.info? 80).map (·.size)=some 2:=by kernel_rfl
theorem zUn:liesAt Tryz.prog Tryz.prog.depth 82 (4 / Tryz.prog.cellsOf 82) 1 80 1=true:=by kernel_rfl
theorem Blk.shape {w:World}{g:Nat}{t:TypeId}{cs:Array Value}(h:Blk w g t cs):w.shape? g=some (t,cs.size):=by
 unfold Blk at h;simp[World.shape?,h]
theorem zI9 (g:Nat)(w:World)(h0:w.cell? ⟨g,1,none⟩=some (.pointer (some ⟨g,1,none⟩))) :
  Calls Tryz.prog 136 #[.pointer (some ⟨g,1,none⟩)] w fun e w'=>e=.returned (.tuple #[])∧w'=w:=by
 obtain⟨j,hj,_⟩:=Option.map_eq_some_iff.1 zP6
 go_enter Tryz.func136,Tryz.ntmps136
 go_wp2
 rw[Lib.run_neq_ptr_same w _ Tryz.underlying78 hj]
 go_wp2
 go_end0;exact⟨rfl,rfl⟩
theorem zHW (g:Nat)(w:World)(cs:Array Value)(hb:Blk w g 82 cs)(hs:cs.size=4)(h0:cs[1]?=some (.pointer none)) :
  Calls Tryz.prog 136 #[.pointer (some ⟨g,1,none⟩)] w fun e w'=>e=.returned (.tuple #[])∧w'=w.setCell ⟨g,1,none⟩ (.pointer (some ⟨g,1,none⟩)):=by
 obtain⟨j,hj,AB⟩:=Option.map_eq_some_iff.1 zP6;have c0:w.cell? ⟨g,1,none⟩=some (.pointer none):=(hb.cell 1).trans h0;have AC:=hb.frozen 1
 have AA:w.shape? g=some (82,4):=by rw[hb.shape,hs]
 clear hb h0
 go_enter Tryz.func136,Tryz.ntmps136
 go_wp2
 rw[Lib.run_to_unsafe w ⟨g,1,none⟩ Tryz.underlying78 Tryz.underlying155 hj (by rw[AB]; decide) AA (show 1<4 by decide)];simp only[Result.andThen];rw[Oper.upon_value]
 go_wp2
 rw[run_callFunc_extern Tryz.func166 (by kernel_rfl) (by kernel_rfl) (by kernel_rfl) (e:=Extern.AbiNoEscape.same) (by kernel_rfl)];rw[Lib.run_noEscape];simp only[Result.andThen];rw[Oper.upon_value]
 go_wp2
 rw[Lib.run_from_unsafe w ⟨g,1,none⟩ Tryz.underlying155 Tryz.underlying78 hj AA zUn];simp only[Result.andThen];rw[Oper.upon_value]
 go_wp2
 go_end0;exact⟨rfl,rfl⟩
def PrU (w:World)(B g:Nat)(A:Option Addr)(n c:Nat)(v:Value)(bs:Bs)(d:Nat):Prop:=Blk w g 82 #[.slice A n c,.pointer (some ⟨g,1,none⟩),v,.int .i64 d]∧w.ownsRow B 5 1 v bs.length (xO bs)
theorem PrU.prS {w:World}{B g:Nat}{A:Option Addr}{n c:Nat}{v:Value}{bs:Bs}{d:Nat}(h:PrU w B g A n c v bs d)(hB:B≤g):PrS w B g A n c v bs d:=⟨hB,.inr h.1,h.2⟩
theorem zF2 {w w':World}{B:Nat}{t:TypeId}{s n:Nat}{v:Value}{xs:List Value}(h:w.ownsRow B t s v n xs)(hk:∀b,v.ownBlock=some b→w'.heap[b]?=w.heap[b]?):w'.ownsRow B t s v n xs:=by
 refine⟨h.1,?_⟩
 rcases h.2 with hn | ⟨g',AB,AA,hv,hB,hh,r⟩
 ·exact .inl hn
 ·exact .inr ⟨g',AB,AA,hv,hB,(hk g' (by rw[hv]; rfl)).trans hh,r⟩
theorem zFe (w:World)(B g:Nat)(A:Option Addr)(n c:Nat)(v:Value)(bs:Bs)(d:Nat)(h:PrS w B g A n c v bs d) :
  Calls Tryz.prog 136 #[.pointer (some ⟨g,1,none⟩)] w fun e w'=>e=.returned (.tuple #[])∧PrU w' B g A n c v bs d∧vU w w' B g:=by
 have AB:=h.ne
 rcases h.blk with hb | hb
 ·refine(zHW g w _ hb rfl rfl).mono ?_;rintro e w' ⟨rfl,rfl⟩;have hk:∀b,b≠g→(w.setCell ⟨g,1,none⟩ (.pointer (some ⟨g,1,none⟩))).heap[b]?=w.heap[b]?:=fun b AA=>zQ _ _ _ _ AA;refine⟨rfl,⟨hb.put 1 _,zF2 h.own fun b hb=>hk b fun e=>AB (by rw[hb,e])⟩,⟨rfl,rfl,rfl,by simp[World.setCell],fun b _ hM _=>hk b hM⟩⟩
 ·refine(zI9 g w (hb.cell 1)).mono ?_;rintro e w' ⟨rfl,rfl⟩;exact⟨rfl,⟨hb,h.own⟩,vU.refl _ _ _⟩
def zN7 (w:World)(B g:Nat)(A:Option Addr)(n c:Nat)(bs:Bs)(d:Nat)(w':World):Prop:=(∃v,PrU w' B g A n c v bs d)∧vU w w' B g
theorem zSP:(Tryz.prog.info? 5).map (fun i=>(i.zero,i.size,i.bytes))=some (some (.int .u8 0),1,1):=by kernel_rfl
theorem zEI {w w':World}{B g:Nat}{v:Value}{m:Nat}{xs:List Value}(h:w.grownBy w' v.ownBlock)(ho:w.ownsRow B 5 1 v m xs):vU w w' B g:=by
 refine⟨h.os,h.tape,h.output,h.size,fun b hb _ hM=>h.block b hb fun e=>?_⟩;obtain⟨h1,_,AA,hc⟩:=zIU ho e.symm
 rcases hM with h2 | h2
 ·omega
 ·exact h2 AA hc
theorem zFb (w:World)(B g:Nat)(A:Option Addr)(n c:Nat)(v:Value)(bs:Bs)(d:Nat)(x:UInt8)(h:PrS w B g A n c v bs d)(hlen:bs.length+1≤140737488355328)(hBw:B≤w.heap.size) :
  Calls Tryz.prog 86 #[.pointer (some ⟨g,1,none⟩),.int .u8 (x.toNat:Int)] w fun e w'=>e=.returned .nilIface∧zN7 w B g A n c (bs++[x]) d w':=by
 obtain⟨i0,hi,AT,AM,AP⟩:=info_parts zSP;have AV:=yD h.lo;have AA:=yD hlen;have AO:=yD hBw;have HC:=yD (zFe w B g A n c v bs d h);clear h hlen hBw
 go_enter Tryz.func86,Tryz.ntmps86
 go_wp2_with fail
 refine HC.out.mono ?_;rintro e w1 ⟨rfl,⟨AC,AH⟩,AG⟩;have AN:=yD AC;have AD:=yD AH;have AK:=yD AG;have c2:w1.cell? ⟨g,2,none⟩=some v:=AC.cell 2;clear AC AH AG HC
 go_wp2_with (at_builtin; refine zBI rfl _ _ 22 rfl B 5 i0 (.int .u8 0) 1 1 Tryz.underlying22 hi AT AM AP rfl (by decide) v bs.length (xO bs) rfl (AD.out.alloc _) (some ⟨w1.heap.size,0,none⟩) 1 1 [.int .u8 (x.toNat:Int)] rfl (fun h=>by cases h) rfl ?c1 ?c2 ?c3 ?c4 ?c5 ?_)
 case c1=>exact Cells.new w1 5 #[.int .u8 (x.toNat:Int)]
 case c2=>intro u hu; simp at hu; subst hu; rfl
 case c3=>have:=AA.out; unfold maxLen; omega
 case c4=>have:=AA.out; omega
 case c5=>have:=AK.out.size; have:=AO.out; simp; omega
 intro A2 k2 w2 AQ AJ AE;have AI:=yD AJ;have AR:Hid (vU w w2 B g):=yD (AK.out.trans ((vU.ext (Ext.alloc w1 _)).trans (zEI AE (AD.out.alloc _))));have AB:Blk w2 g 82 #[.slice A n c,.pointer (some ⟨g,1,none⟩),v,.int .i64 d]:=((vU.ext (B:=B) (g:=g+1) (Ext.alloc w1 _)).trans (zEI AE (AD.out.alloc _))).blk AN.out (by omega) (by decide);have AF:=yD AB;have e2:w2.cell? ⟨g,2,none⟩=some v:=AB.cell 2;have f2:=AB.frozen 2;clear AQ AJ AE AB c2
 go_wp2_with fail
 go_ret
 have AL:∀b,(Value.slice A2 (bs.length+1) k2).ownBlock=some b→b≠g:=fun b hb e=>by
  obtain⟨_,_,AU,hc⟩:=zIU AI.out hb;subst e;exact Blk.differ AF.out hc (by decide) rfl
 have hk:∀b,b≠g→(w2.setCell ⟨g,2,none⟩ (.slice A2 (bs.length+1) k2)).heap[b]?=w2.heap[b]?:=fun b AS=>zQ _ _ _ _ AS;refine⟨rfl,⟨.slice A2 (bs.length+1) k2,AF.out.put 2 _,?_⟩,AR.out.trans ⟨rfl,rfl,rfl,by simp[World.setCell],fun b _ hM _=>hk b hM⟩⟩
 have:=zF2 AI.out fun b hb=>hk b (AL b hb)
 simpa [xO] using this
theorem zPv (l:Bs):(yX l).size=l.length:=by simp[yX,ByteArray.size]
theorem zOo (a b:Bs):xO (a++b)=xO a++xO b:=by simp[xO]
theorem zHQ (w:World)(B g:Nat)(A:Option Addr)(n c:Nat)(v:Value)(bs:Bs)(d:Nat)(s:Bs)(h:PrS w B g A n c v bs d)(hlen:bs.length+s.length≤140737488355328)(hBw:B≤w.heap.size) :
  Calls Tryz.prog 87 #[.pointer (some ⟨g,1,none⟩),.string (yX s)] w fun e w'=>e=.returned (.tuple #[.int .i64 (s.length:Int),.nilIface])∧zN7 w B g A n c (bs++s) d w':=by
 obtain⟨i0,hi,AV,AO,AR⟩:=info_parts zSP;have AX:=yD h.lo;have AB:=yD hlen;have AQ:=yD hBw;have HC:=yD (zFe w B g A n c v bs d h);have AD:=zPv s;clear h hlen hBw
 go_enter Tryz.func87,Tryz.ntmps87
 go_wp2_with fail
 refine HC.out.mono ?_;rintro e w1 ⟨rfl,⟨AF,AL⟩,AJ⟩;have AP:=yD AF;have AG:=yD AL;have AM:=yD AJ;have c2:w1.cell? ⟨g,2,none⟩=some v:=AF.cell 2;have AA:=yD AD;clear AF AL AJ HC AD
 go_wp2_with (at_builtin; refine Lib.wpList_append_own_string _ rfl _ _ 22 9 rfl B 5 i0 Tryz.underlying22 Tryz.underlying9 hi AV AO AR _ _ _ rfl AG.out (yX s) rfl ?c3 ?c4 ?c5 ?_)
 case c3=>rw[AA.out]; have:=AB.out; unfold maxLen; omega
 case c4=>rw[AA.out]; have:=AB.out; omega
 case c5=>have:=AM.out.size; have:=AQ.out; omega
 intro v2 w2 AE AH _
 obtain⟨A2,k2,rfl⟩:∃A2 k2,v2=.slice A2 (bs.length+s.length) k2:=by
  rcases AE.2 with ⟨hv,h0⟩ | ⟨g',AW,AT,hv,_⟩
  ·rw[AA.out] at h0;exact⟨none,0,by rw[hv,h0]⟩
  ·rw[AA.out] at hv;exact⟨_,_,hv⟩
 rw[AA.out] at AE;have AK:=yD AE;have AS:Hid (vU w w2 B g):=yD (AM.out.trans (zEI AH AG.out));have AC:Blk w2 g 82 #[.slice A n c,.pointer (some ⟨g,1,none⟩),v,.int .i64 d]:=(zEI (g:=g+1) AH AG.out).blk AP.out (by omega) (by decide);have AI:=yD AC;have e2:w2.cell? ⟨g,2,none⟩=some v:=AC.cell 2;have f2:=AC.frozen 2;have AD:=AA.out;clear AE AH AC c2
 go_wp2_with fail
 go_ret2
 have AN:∀b,(Value.slice A2 (bs.length+s.length) k2).ownBlock=some b→b≠g:=fun b hb e=>by
  obtain⟨_,_,AT,hc⟩:=zIU AK.out hb;subst e;exact Blk.differ AI.out hc (by decide) rfl
 have hk:∀b,b≠g→(w2.setCell ⟨g,2,none⟩ (.slice A2 (bs.length+s.length) k2)).heap[b]?=w2.heap[b]?:=fun b AU=>zQ _ _ _ _ AU;refine⟨by first | rfl | simp[AD],⟨.slice A2 (bs.length+s.length) k2,AI.out.put 2 _,?_⟩,AS.out.trans ⟨rfl,rfl,rfl,by simp[World.setCell],fun b _ hM _=>hk b hM⟩⟩
 have:=zF2 AK.out fun b hb=>hk b (AN b hb)
 rw[yM,zOo];exact this
def xR (d:Nat)(ps:List Bs):Bs:=List.replicate d 9++(ps.flatten++[10])
def VS (ps:List Bs):Array Value:=(ps.map fun s=>Value.string (yX s)).toArray
theorem ZK (w:World)(B g:Nat)(A:Option Addr)(n c:Nat)(v:Value)(bs:Bs)(d:Nat)(ps:List Bs)(pb k0:Nat)(h:PrS w B g A n c v bs d)(hk0:k0=ps.length)(hd:d≤1000000)(hps:ps.length≤1000)(hpb:Blk w pb 9 (VS ps))(hpg:pb≠g)(hlen:(bs++xR d ps).length≤140737488355328)(hBw:B≤w.heap.size) :
  Calls Tryz.prog 41 #[.pointer (some ⟨g,0,none⟩),.slice (some ⟨pb,0,none⟩) k0 k0] w fun e w'=>e=.returned (.tuple #[])∧zN7 w B g A n c (bs++xR d ps) d w':=by
 subst hk0;have AG:=yD h.lo;have HS:=yD h;have AL:=yD hpb;have AD:=yD hBw;have AI:=yD hps;have AK:=yD hd;have AE:Hid (bs.length+d+ps.flatten.length+1≤140737488355328):=yD (by unfold xR at hlen; simp only[yM,zC,zJ,zK] at hlen; omega)
 have x3:w.cell? ⟨g,3,none⟩=some (.int .i64 d):=by obtain⟨ad,hb⟩:=h.any; exact hb.cell 3
 clear h hpb hBw hlen hd hps
 go_enter Tryz.func41,Tryz.ntmps41
 go_wp2_with fail
 clear x3
 go_loopw [10] (fun i wr=>∃(k:Nat) (v:Value),k≤d∧i=.int .i64 k∧Hid (PrS wr B g A n c v (bs++List.replicate k 9) d)∧Hid (vU w wr B g)) (fun i _=>d-(intOf i).toNat)
 case atStart=>exact⟨0,v,zT _,rfl,yD (by simpa using HS.out),yD (vU.refl _ _ _)⟩
 case round=>
  obtain⟨k,v1,hk,rfl,HP,HM⟩:=hrel;obtain⟨wa,rfl⟩:∃wa:World,wa=wr:=⟨_,rfl⟩;have AM:=AK.out
  by_cases AA:k<d
  ·have d0:decide ((k:Int)<(d:Int))=true:=yP (by omega);have d1:decide (k<d)=true:=yP AA;have HW:=yD (zFb wa B g A n c v1 (bs++List.replicate k 9) d 9 HP.out (by have:=AE.out; simp; omega) (Nat.le_trans AD.out HM.out.size))
   go_wp2_with fail
   refine HW.out.mono ?_;rintro e w2 ⟨rfl,⟨v2,hu⟩,hm⟩
   have HU:Hid (PrS w2 B g A n c v2 (bs++List.replicate (k+1) 9) d):=yD (by
    have:=hu.prS AG.out
    rw[List.append_assoc,←List.replicate_succ'] at this
    exact this)
   have AB:=yD (HM.out.trans hm);clear hu hm HW
   go_wp2_with fail
   go_roundw
   case rel=>exact⟨k+1,v2,by omega,by go_num,HU,AB⟩
   case measure=>simp[intOf]; omega
  ·obtain rfl:k=d:=by omega
   have d0:decide ((k:Int)<(k:Int))=false:=by simp
   have d1:decide (k<k)=false:=by simp
   clear AA hk
   go_wp2_with fail
   clear d0 d1
   go_loopw [19] (fun i wr=>∃(j:Nat) (v:Value),j≤ps.length∧i=.int .i64 j∧Hid (PrS wr B g A n c v (bs++(List.replicate k 9++(ps.take j).flatten)) k)∧Hid (vU w wr B g)) (fun i _=>ps.length-(intOf i).toNat)
   case atStart=>exact⟨0,v1,zT _,rfl,yD (by simpa using HP.out),HM⟩
   case round=>
    clear HP HM;obtain⟨j,v2,hj,rfl,HP,HM⟩:=hrel;obtain⟨w3,rfl⟩:∃w3:World,w3=wr:=⟨_,rfl⟩;have AN:=AI.out
    by_cases AA:j<ps.length
    ·have d0:decide ((j:Int)<(ps.length:Int))=true:=yP (by omega);have d1:decide (j<ps.length)=true:=yP AA
     have q0:(j:Int)<(ps.length:Int):=by omega
     have AJ:w3.cell? ⟨pb,j,none⟩=some (.string (yX ps[j])):=by
      rw[(HM.out.blk AL.out hpg (by decide)).cell j];simp[VS,AA]
     have AC:(ps.take (j+1)).flatten=(ps.take j).flatten++ps[j]:=by
      rw[List.take_add_one,yG AA,List.flatten_append]
      simp
     have AF:(ps.take (j+1)).flatten.length≤ps.flatten.length:=by
      conv=>rhs; rw[←List.take_append_drop (j+1) ps]
      rw[List.flatten_append,yM];omega
     rw[AC,yM] at AF;have HW:=yD (zHQ w3 B g A n c v2 (bs++(List.replicate k 9++(ps.take j).flatten)) k ps[j] HP.out (by have:=AE.out; simp only[yM,zC]; omega) (Nat.le_trans AD.out HM.out.size));have AH:=yD AC;clear AC AF;generalize ps[j]=pj at *
     go_wp2_with fail
     refine HW.out.mono ?_;rintro e w4 ⟨rfl,⟨v4,hu⟩,hm⟩
     have HU:Hid (PrS w4 B g A n c v4 (bs++(List.replicate k 9++(ps.take (j+1)).flatten)) k):=yD (by
      have:=hu.prS AG.out
      rw[AH.out,←List.append_assoc (List.replicate k 9),←List.append_assoc bs]
      exact this)
     have AB:=yD (HM.out.trans hm);clear hu hm HW AJ
     go_wp2_with fail
     go_roundw
     case rel=>exact⟨j+1,v4,by omega,by go_num,HU,AB⟩
     case measure=>simp[intOf]; omega
    ·obtain rfl:j=ps.length:=by omega
     have d0:decide ((ps.length:Int)<(ps.length:Int))=false:=by simp
     have d1:decide (ps.length<ps.length)=false:=by simp
     have HW:=yD (zFb w3 B g A n c v2 (bs++(List.replicate k 9++(ps.take ps.length).flatten)) k 10 HP.out (by have:=AE.out; rw[List.take_length]; simp only[yM,zC]; omega) (Nat.le_trans AD.out HM.out.size));clear AA hj
     go_wp2_with fail
     refine HW.out.mono ?_;rintro e w4 ⟨rfl,⟨v4,hu⟩,hm⟩
     have HU:Hid (PrU w4 B g A n c v4 (bs++xR k ps) k):=yD (by
      have:=hu
      rw[List.take_length] at this;unfold xR;rw[←List.append_assoc (List.replicate k 9),←List.append_assoc bs]
      exact this)
     have AB:=yD (HM.out.trans hm);clear hu hm HW
     go_wp2_with fail
     go_end0;exact⟨rfl,⟨v4,HU.out⟩,AB.out⟩
def zET (k:Int):Int:=if k=23∨k=24 then 1 else if k=25 then 2 else 3
theorem zPu (k:Int)(w:World):Calls Tryz.prog 97 #[.int .u8 k] w fun e w'=>e=.returned (.int .i64 (zET k))∧w=w':=by
 go_enter Tryz.func97,Tryz.ntmps97
 unfold zET
 by_cases h3:k=23
 ·subst h3; go_wp2_with fail; go_ret; exact⟨rfl,rfl⟩
 by_cases h4:k=24
 ·subst h4; go_wp2_with fail; go_ret; exact⟨rfl,rfl⟩
 by_cases h5:k=25
 ·subst h5; go_wp2_with fail; go_ret; exact⟨rfl,rfl⟩
 have e3:(k==23)=false:=beq_eq_false_iff_ne.2 h3;have e4:(k==24)=false:=beq_eq_false_iff_ne.2 h4;have e5:(k==25)=false:=beq_eq_false_iff_ne.2 h5;rw[if_neg (by omega),if_neg h5];clear h3 h4 h5
 go_wp2_with fail
 go_ret;exact⟨rfl,rfl⟩
end Go.Proofs.YtioffpjajhalaaaGreatDoor
namespace Go.Proofs.YtioffpjajhalaaaGreatDoor
open Go Go.RowKit Go.Deep Go.ChangeShapes Go.WideShapes
theorem zPU {α:Type}(f:α→List Value)(sz:Nat)(hf:∀x,(f x).length=sz)(l:List α):∀(i j:Nat) (hi:i<l.length),j<sz→(l.flatMap f)[i*sz+j]?=(f l[i])[j]?:=by
 induction l with
 | nil=>intro i j hi; simp at hi
 | cons x l ih=>
  intro i j hi hj;rw[List.flatMap_cons]
  match i,hi with
  | 0,_=>
   rw[Nat.zero_mul,Nat.zero_add,List.getElem?_append_left (by rw[hf]; exact hj)]
   rfl
  | i+1,hi=>
   rw[List.getElem?_append_right (by rw[hf,Nat.succ_mul]; omega),hf,show(i+1)*sz+j-sz=i*sz+j from by rw[Nat.succ_mul]; omega];exact ih i j (by simpa using hi) hj
theorem zM2 {α:Type}(f:α→List Value)(sz:Nat)(hf:∀x,(f x).length=sz)(l:List α):(l.flatMap f).length=l.length*sz:=by
 induction l with
 | nil=>simp
 | cons x l ih=>rw[List.flatMap_cons,yM,hf,ih,zJ,Nat.succ_mul]; omega
theorem zTh (b off k:Nat):(⟨b,off,none⟩:Addr).add k=⟨b,off+k,none⟩:=by
 unfold Addr.add
 by_cases h:k=0
 ·subst h; rfl
 ·simp[h]
theorem Cells.zTr {α:Type}{w:World}(f:α→List Value)(sz:Nat)(hsz:0<sz)(hf:∀x,(f x).length=sz)(l:List α)(a:Addr)
  (h:∀(i:Nat) (hi:i<l.length) (j:Nat),j<sz→w.cell? (a.add (i*sz+j))=(f l[i])[j]?):Cells w (some a) (l.flatMap f):=by
 by_cases hl:l=[]
 ·subst hl; exact .inl rfl
 ·have AB:0<l.length:=List.length_pos_iff.2 hl;have h0:=h 0 AB 0 hsz
  have AD:w.cell? (a.add (0*sz+0))=some ((f l[0])[0]'(by rw[hf]; exact hsz)):=by rw[h0]; exact yG _
  obtain⟨b,AE,AC⟩:=a
  have AA:AC=none:=by simpa [Addr.add] using World.cell?_spot AD
  subst AA;refine .inr ⟨b,AE,rfl,?_,fun k hk=>?_⟩
  ·have:=World.block_lt_of_cell? w _ AD
   simpa [Addr.add] using this
  ·rw[zM2 f sz hf] at hk;have hi:k / sz<l.length:=Nat.div_lt_of_lt_mul (by rw[Nat.mul_comm]; exact hk);have hj:k % sz<sz:=Nat.mod_lt _ hsz
   have AF:k / sz*sz+k % sz=k:=by rw[Nat.mul_comm]; exact Nat.div_add_mod k sz
   have h1:=h (k / sz) hi (k % sz) hj;have h2:=zPU f sz hf l (k / sz) (k % sz) hi hj;rw[AF] at h1 h2;rw[h2,←h1,zTh]
section
variable {H:Type} {enc:TypeId × Value→H} {P:Program} {w:World} {base:Nat} {spare:Nat→Bool} {held:Bool}
theorem zJp {α:Type}(f:α→List Value)(ok:α→Prop)(sz:Nat)(hsz:0<sz)(hf:∀x,(f x).length=sz){t e:TypeId}{a:Option Addr}{len cap:Nat}{d:DataW H}{p:List MemPlace}(ht:P.underlying t=some (.slice e))(hC:P.cellsOf e=sz)
  (hel:∀(n:Nat) (cs:List Value) (y:DataW H × List MemPlace),cs.length=sz→DataW.trod enc P w base spare held n e cs=some y→∃x,cs=f x∧ok x)
  (h:DataW.Trod enc P w base spare held t (.slice a len cap) d p) :
  ∃l:List α,len=l.length∧(a=none→cap=0)∧Cells w a (l.flatMap f)∧∀x ∈ l,ok x:=by
 obtain⟨AM,AH⟩:=h
 rcases open_slice ht AH with ⟨AA,_⟩ | ⟨a',AO,AN,m,n,D,Pl,AA,hb,hl,hm,AJ,_,hx⟩
 ·simp[Value.cells] at AA;obtain⟨rfl,rfl,rfl⟩:=AA;exact⟨[],rfl,fun _=>rfl,.inl rfl,fun x hx=>by cases hx⟩
 ·simp[Value.cells] at AA;obtain⟨rfl,rfl,rfl⟩:=AA
  have AQ:len≤m:=by rw[AJ]; split <;> omega
  have AP:∀k,k≤len→∃l:List α,l.length=k∧(∀x ∈ l,ok x)∧∀(i:Nat) (hi:i<l.length) (j:Nat),j<sz→w.cell? (a'.add (i*sz+j))=(f l[i])[j]?:=by
   intro k
   induction k with
   | zero=>intro _; exact⟨[],rfl,(fun x hx=>by cases hx),(fun i hi=>by simp at hi)⟩
   | succ k ih=>
    intro hk;obtain⟨l,AC,AF,AE⟩:=ih (by omega);obtain⟨AI,h1,h2⟩:=hx k (by omega);rw[hC] at h1;obtain⟨_,AK,AB⟩:=World.cells?_some h1;obtain⟨x,rfl,AL⟩:=hel n AI _ AK h2;refine⟨l++[x],by simp[AC],fun y hy=>?_,fun i hi j hj=>?_⟩
    ·rcases List.mem_append.1 hy with h | h
     ·exact AF y h
     ·rw[List.mem_singleton.1 h]; exact AL
    ·by_cases AG:i<l.length
     ·rw[List.getElem_append_left AG]; exact AE i AG j hj
     ·have AD:i=k:=by simp at hi; omega
      subst AD;rw[List.getElem_append_right (by omega)];simp only[AC,Nat.sub_self,List.getElem_cons_zero];rw[←AB j hj,Go.Deep.add_add]
  obtain⟨l,AC,AF,AE⟩:=AP len (zU _);exact⟨l,AC.symm,(fun h=>by cases h),Cells.zTr f sz hsz hf l a' AE,AF⟩
theorem zHz {e:TypeId}{fs:Array Field}{n:Nat}{cs:List Value}{y:DataW H × List MemPlace}(he:P.underlying e=some (.struct fs))(hone:oneCellFields P fs=true)
  (h:DataW.trod enc P w base spare held n e cs=some y) (hlen:cs.length=fs.size) :
  ∃m:Nat,∀(j:Nat) (f:Field),fs[j]?=some f→∃(v:Value) (z:DataW H × List MemPlace),cs[j]?=some v∧DataW.trod enc P w base spare held m f.type [v]=some z:=by
 obtain⟨xs,m,_,_,_,AA,hf⟩:=DataW.trod_struct he h;refine⟨m,fun j f hj=>?_⟩;obtain⟨ho,hk⟩:=hone_of hone j f hj;have AB:j<fs.size:=(Array.getElem?_eq_some_iff.1 hj).1;have h1:=hf j f hj;rw[ho,hk] at h1
 have hd:(cs.drop j).take 1=[cs[j]'(by omega)]:=by
  rw[List.drop_eq_getElem_cons (by omega)]
  rfl
 rw[hd,yG (by omega)] at h1;exact⟨_,_,yG (by omega),h1⟩
theorem zKC {k:IntKind}{t e:TypeId}{a:Option Addr}{len cap:Nat}{d:DataW H}{p:List MemPlace}(ht:P.underlying t=some (.slice e))(he:P.underlying e=some (.int k))(hC:P.cellsOf e=1)
  (h:DataW.Trod enc P w base spare held t (.slice a len cap) d p) :
  ∃l:List Int,len=l.length∧(a=none→cap=0)∧Cells w a (l.map (Value.int k))∧∀x ∈ l,(Lit.int k x).wf=true:=by
 obtain⟨l,h1,h2,h3,h4⟩:=zJp (fun x=>[Value.int k x]) (fun x=>(Lit.int k x).wf=true) 1 (by decide) (fun _=>rfl) ht hC (fun n cs y _ hy=>by
  obtain⟨x,hx,_,hw⟩:=DataW.trod_int he hy
  exact⟨x,hx,hw⟩) h
 refine⟨l,h1,h2,?_,h4⟩
 have e:l.flatMap (fun x=>[Value.int k x])=l.map (Value.int k):=by
  induction l with
  | nil=>rfl
  | cons x l ih=>
   have AA:∀l:List Int,l.flatMap (fun x=>[Value.int k x])=l.map (Value.int k):=by
    intro l
    induction l with
    | nil=>rfl
    | cons y l ih=>rw[List.flatMap_cons,List.map_cons,List.singleton_append,ih]
   exact AA _
 rw[←e];exact h3
end
end Go.Proofs.YtioffpjajhalaaaGreatDoor
