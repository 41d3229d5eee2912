/- bytes.Count at one byte, bytes.LastIndexByte, diag.New, walked. (and what follows of it). The conditions stand at each lemma. -/
import Derived.Test.YtioffpjajhalaaaGreatDoorLaa
import Derived.Test.YtioffpjajhalaaaGreatDoorLac
import Derived.Shelf.Bytes.SlCountOne
import Derived.IntWalk
import Derived.Test.YtioffpjajhalaaaGreatDoorLad
import Derived.LaidEql
import Derived.Stop.Asserts
import Derived.RowKitTokens
set_option linter.unusedVariables false
set_option linter.unusedSimpArgs false
set_option maxRecDepth 100000
set_option maxHeartbeats 16000000
namespace Go.Proofs.YtioffpjajhalaaaGreatDoor
open Go Go.RowKit
theorem zOE {w:World}{a:Addr}{l:Bs}(h:Cells w (some a) (xL l)):∀i,i<l.length→w.cell? (a.add i)=some (.int .u8 ((zB4 l).getD i 0)):=by
 intro i hi;obtain⟨b,AA,e,hb,hc⟩:=h.at_ (by rw[jJ]; omega);injection e with e;subst e
 rw[zGU l i hi,show(⟨b,AA,none⟩:Addr).add i=⟨b,AA+i,none⟩ from by unfold Addr.add; split <;> simp_all,hc i (by rw[jJ]; exact hi),JU l i hi]
theorem zO5 {w:World}{A:Option Addr}{l:Bs}{n c:Nat}(hn:n=l.length)(h:Cells w A (xL l)) :
  (Extern.BytealgCount.count #[.slice A n c,.int .u8 10]).run Tryz.prog w=.ok (.int .i64 ((l.count 10:Nat):Int)) w:=by
 subst hn
 cases A with
 | none=>
  have h0:l=[]:=by
   rcases h with h | ⟨b,AA,e,_⟩
   ·have:(xL l).length=0:=by rw[h]; rfl
    rw[jJ] at this;exact List.eq_nil_of_length_eq_zero this
   ·cases e
  subst h0;exact Lib.run_countNil w _ c 10
 | some a=>
  have h1:=Lib.run_countAt (P:=Tryz.prog) w a l.length c (zB4 l) (zEO l) (zOE h) 10;rw[zAL] at h1;exact h1
theorem zOp (A:Option Addr)(l:Bs)(n c g d:Nat)(w:World)(hn:n=l.length)(h:Cells w A (xL l))(hg:w.cell? ⟨g,0,none⟩=some (.int .u8 10)) :
  Calls Tryz.prog 65 #[.slice A n c,.slice (some ⟨g,0,none⟩) 1 d] w fun e w'=>e=.returned (.int .i64 ((l.count 10:Nat):Int))∧w'=w:=by
 have hr:=zO5 (n:=n) (c:=c) hn h;clear h hn;generalize ((l.count 10:Nat):Int)=z at *
 go_enter Tryz.func65,Tryz.ntmps65
 go_wp2
 rw[run_callFunc_extern Tryz.func110 (by kernel_rfl) (by kernel_rfl) (by kernel_rfl) (e:=Extern.BytealgCount.count) (by kernel_rfl),hr];simp only[Result.andThen];rw[Oper.upon_value]
 go_wp2
 go_ret;exact⟨rfl,rfl⟩
def zA1 (l:Bs):Nat→Int
 | 0=>-1
 | k+1=>if l.getD k 0==10 then (k:Int) else zA1 l k
theorem zIr (l:Bs):∀k:Nat,-1≤zA1 l k∧zA1 l k<k
 | 0=>by simp[zA1]
 | k+1=>by
  unfold zA1
  have:=zIr l k
  split <;> omega
theorem zMz (A:Option Addr)(l:Bs)(n c:Nat)(w:World)(hn:n=l.length)(hbig:l.length≤140737488355328)(h:Cells w A (xL l))(z:Int)(hz:Hid (zA1 l l.length=z)) :
  Calls Tryz.prog 112 #[.slice A n c,.int .u8 10] w fun e w'=>e=.returned (.int .i64 z)∧w'=w:=by
 subst hn;have HC:=yD h;clear h
 go_enter Tryz.func112,Tryz.ntmps112
 go_wp2_with fail
 go_loop [5] (fun i=>∃k:Nat,k≤l.length∧i=.int .i64 ((k:Int)-1)∧Hid (zA1 l k=z)) (fun i=>(intOf i+1).toNat)
 case atStart=>exact⟨l.length,zU _,rfl,hz⟩
 case round=>
  obtain⟨k,hk,rfl,HZ⟩:=hrel
  cases k with
  | zero=>
   have HE:Hid (z=-1):=yD (by rw[←HZ.out]; rfl)
   go_wp2_with fail
   go_ret;exact⟨zEd HE.out.symm,rfl⟩
  | succ k=>
   rw[show(((k+1:Nat):Int)-1)=(k:Int) from by omega]
   have AB:k<l.length:=by omega
   obtain⟨b,AD,hA,hb,AE⟩:=HC.out.at_ (by rw[jJ]; omega);subst hA
   have e0:w.cell? ⟨b,AD+k,none⟩=some (.int .u8 (l[k].toNat:Int)):=by rw[AE k (by rw[jJ]; omega),JU l k AB]
   have AA:=HZ.out;unfold zA1 at AA;rw[show l.getD k 0=l[k] from by simp[AB]] at AA;have AC:=yD AA;clear AE AA HZ
   have q0:(k:Int)<(l.length:Int):=by omega
   generalize l[k]=x at *
   by_cases hx:x=10
   ·subst hx;have AF:w.cell? ⟨b,AD+k,none⟩=some (.int .u8 10):=e0;clear e0;have HE:Hid (z=(k:Int)):=yD (by rw[←AC.out]; rfl)
    go_wp2_with fail
    go_ret;exact⟨zEd HE.out.symm,rfl⟩
   ·have d1:((x.toNat:Int)==10)=false:=by
     rw[yF];intro h;apply hx
     have:x.toNat=10:=by omega
     exact UInt8.toNat_inj.1 this
    have HE:Hid (zA1 l k=z):=yD (by rw[←AC.out,if_neg (by simpa using hx)])
    go_wp2_with fail
    go_round
    case rel=>exact⟨k,by omega,rfl,HE⟩
    case measure=>simp[intOf]
theorem zQf (A:Option Addr)(l:Bs)(n c:Nat)(w:World)(hn:n=l.length)(hbig:l.length≤140737488355328)(h:Cells w A (xL l))(z:Int)(hz:Hid (zA1 l l.length=z)) :
  Calls Tryz.prog 66 #[.slice A n c,.int .u8 10] w fun e w'=>e=.returned (.int .i64 z)∧w'=w:=by
 have H:=yD (zMz A l n c w hn hbig h z hz);clear h hn hz
 go_enter Tryz.func66,Tryz.ntmps66
 go_wp2_with fail
 refine H.out.mono ?_;rintro e w' ⟨rfl,rfl⟩
 go_wp2_with fail
 go_ret;exact⟨rfl,rfl⟩
theorem Blk.zSN {w:World}{t:TypeId}{cs:Array Value}{g:Nat}(hg:w.heap.size=g):Blk (w.alloc (.cells cs t)) g t cs:=by subst hg; exact Blk.new _ _ _
def atN (at_:Int)(n:Nat):Nat:=(max 0 (min at_ (n:Int))).toNat
theorem zSs (at_:Int)(n:Nat):atN at_ n≤n:=by unfold atN; omega
def zHg (l:Bs)(k:Nat):Int:=((l.take k).count 10:Nat)+1
def zLE (l:Bs)(k:Nat):Int:=(k:Int)-zA1 (l.take k) k
theorem zJx (A:Option Addr)(l:Bs)(n c:Nat)(at_ er:Int)(w:World)(hn:n=l.length)(hbig:l.length≤140737488355328)(hcap:l.length≤c)(hat1:-9223372036854775808≤at_)(hat2:at_≤9223372036854775807)(h:Cells w A (xL l))(her:er≠0) :
  Calls Tryz.prog 30 #[.slice A n c,.int .i64 at_,.int .i64 er] w fun e w'=>∃g,e=.returned (.iface 107 (.pointer (some ⟨g,0,none⟩)))∧w.heap.size≤g∧Blk w' g 110 #[.int .i64 (atN at_ l.length:Int),.int .i64 (zHg l (atN at_ l.length)),.int .i64 (zLE l (atN at_ l.length)),.int .i64 er]∧Ext w w':=by
 subst hn;have HC:=yD h;clear h
 have d0:(er==0)=false:=by rw[yF]; exact her
 go_enter Tryz.func30,Tryz.ntmps30
 go_wp2_with fail
 have hq:max 0 (min at_ (l.length:Int))=((atN at_ l.length:Nat):Int):=by unfold atN; omega
 have AG:=zSs at_ l.length;rw[hq,zH];clear hq;generalize hqe:atN at_ l.length=q at *;have AF:=yD hqe;clear hqe
 have AE:Cells w A (xL (l.take q)):=by
  have h:=zB3 HC.out hcap 0 q;rw[List.drop_zero] at h;unfold zEU at h
  split at h
  ·exact h
  ·cases A with
   | none=>exact h
   | some x=>exact h
 have AC:(l.take q).length=q:=by simp; omega
 have AA:=yD AC;have AD:=yD (AE.ext (Ext.alloc w (.cells #[.int .u8 10] 5)));obtain⟨cn,AB⟩:∃cn:Nat,Hid ((l.take q).count 10=cn):=⟨_,yD rfl⟩
 have AI:cn≤140737488355328:=by
  have:=List.count_le_length (a:=(10:UInt8)) (l:=l.take q)
  rw[AB.out] at this;omega
 obtain⟨z,HZ⟩:∃z,Hid (zA1 (l.take q) q=z):=⟨_,yD rfl⟩;have hz:=zIr (l.take q) q;rw[HZ.out] at hz;obtain⟨AJ,AH⟩:=hz;clear AE AC;refine(zOp A (l.take q) q c w.heap.size 1 _ (by rw[AA.out]) AD.out (by simp)).mono ?_;rintro e w' ⟨rfl,rfl⟩;rw[AB.out]
 go_wp2_with fail
 refine(zQf A (l.take q) q c _ (by rw[AA.out]) (by rw[AA.out]; omega) AD.out z (by rw[AA.out]; exact HZ)).mono ?_;rintro e w' ⟨rfl,rfl⟩
 go_wp2_with fail
 go_ret
 have h1:zHg l q=(cn:Int)+1:=by unfold zHg; rw[AB.out]
 have h2:zLE l q=(q:Int)-z:=by unfold zLE; rw[HZ.out]
 rw[AF.out,h1,h2];exact⟨_,rfl,by simp,Blk.zSN (by simp),(Ext.alloc _ _).trans (Ext.alloc _ _)⟩
def ZM (t:Tok):List Value:=[.int .u8 (t.kind:Int),.int .i64 (t.at_:Int),.int .i64 (t.en:Int),.string (yX t.text),.int .i64 t.n]
def xD (l:List Tok):List Value:=l.flatMap ZM
theorem zDW (l:List Tok):(xD l).length=l.length*5:=by
 unfold xD
 induction l with
 | nil=>rfl
 | cons t l ih=>rw[List.flatMap_cons,yM,ih,zJ]; show 5+_=_; omega
theorem zFr (l:List Tok)(t:Tok):xD (l++[t])=xD l++ZM t:=by simp[xD]
def zEZ (l:Bs):VS:=if 65536<l.length then .err 0 3 else zAj 0 l
def zJj (l:Bs)(w:World)(r:VS)(e:Ending)(w':World):Prop:=Ext w w'∧match r with
 | .ok ts=>∃A' c',e=.returned (.tuple #[.slice A' ts.length c',.nilIface])∧(A'=none→c'=0)∧w'.ownsRow w.heap.size 29 5 (.slice A' ts.length c') ts.length (xD ts)
 | .err a er=>∃g,e=.returned (.tuple #[.slice none 0 0,.iface 107 (.pointer (some ⟨g,0,none⟩))])∧w.heap.size≤g∧Blk w' g 110 #[.int .i64 (a:Int),.int .i64 (zHg l a),.int .i64 (zLE l a),.int .i64 er]
theorem zPd:(Tryz.prog.info? 29).map (fun i=>(i.zero,i.size,i.bytes))=some (some (.agg #[.int .u8 0,.int .i64 0,.int .i64 0,.string ⟨#[]⟩,.int .i64 0]),5,48):=by kernel_rfl
theorem zLd {w:World}{A:Option Addr}{cs:List Value}(h:Cells w A cs)(h0:0<cs.length)(b off:Nat)(e:A=some ⟨b,off,none⟩):b<w.heap.size:=by
 obtain⟨b',AA,e',hb,_⟩:=h.at_ h0;rw[e] at e';injection e' with e';injection e' with e';subst e';exact hb
theorem zSc {t:Tok}:∀u ∈ ZM t,u.oneCell'=true:=by
 intro u hu;simp only[ZM,zR,List.not_mem_nil,or_false] at hu
 rcases hu with rfl | rfl | rfl | rfl | rfl <;> rfl
theorem Cells.newAt {w:World}{t:TypeId}{cs:Array Value}{g:Nat}{l:List Value}(hg:w.heap.size=g)(hl:cs.toList=l:=by rfl):Cells (w.alloc (.cells cs t)) (some ⟨g,0,none⟩) l:=by subst hg hl; exact Cells.new _ _ _
theorem zRZ (k n:Nat)(h:k≤n):atN (k:Int) n=k:=by unfold atN; omega
theorem zNI (A:Option Addr)(l:Bs)(n c:Nat)(w:World)(hn:n=l.length)(hbig:l.length≤140737488355328)(hcap:l.length≤c)(h:Cells w A (xL l))(hlim:65536<l.length) :
  Calls Tryz.prog 9 #[.slice A n c] w (zJj l w (zEZ l)):=by
 subst hn;have HC:=yD h;clear h;have HS:Hid (zEZ l=.err 0 3):=yD (by unfold zEZ; rw[if_pos hlim])
 go_enter Tryz.func9,Tryz.ntmps9
 go_wp2_with fail
 refine(zJx A l l.length c 0 3 w rfl hbig hcap (by omega) (by omega) HC.out (by decide)).mono ?_;rintro e w' ⟨g,rfl,hg,hb,hx⟩;rw[show atN 0 l.length=0 from by unfold atN; omega] at hb
 go_wp2_with fail
 go_ret2;rw[HS.out];exact⟨hx,g,rfl,hg,hb⟩
theorem zSD (A:Option Addr)(l:Bs)(n c:Nat)(w:World)(hn:n=l.length)(hcap:l.length≤c)(hnil:A=none→c=0)(h:Cells w A (xL l))(hlim:l.length≤65536) :
  Calls Tryz.prog 9 #[.slice A n c] w (zJj l w (zEZ l)):=by
 subst hn;obtain⟨i0,hi,Ac,AX,Ab⟩:=info_parts zPd;have HC:=yD h;have HN:=yD hnil;have HS:Hid (zEZ l=zAj 0 l):=yD (by unfold zEZ; rw[if_neg (by omega)]);have Aa:Hid (Ext w (w.alloc (.cells #[.slice A l.length c,.int .i64 0] 65))):=yD (Ext.alloc _ _)
 have Ak:Hid (Rd (w.alloc (.cells #[.slice A l.length c,.int .i64 0] 65)) w.heap.size A l c 0):=yD ⟨Blk.new _ _ _,h.ext (Ext.alloc _ _),fun h0 b Ap e=>by
  have:=zLd h (by rw[jJ]; exact h0) b Ap e
  omega,zT _,hcap,hnil,by omega⟩
 clear h hnil
 go_enter Tryz.func9,Tryz.ntmps9
 go_wp2_with fail
 refine(zJS w.heap.size A l c 0 _ Ak.out).mono ?_;rintro e w1 ⟨rfl,k1,_,AV,AY,AI,AW⟩;rw[List.drop_zero] at AI;have Aw:=yD (AV.ext Aa.out (zU _));have AS:=yD AY;have Au:=yD AI;have An:=yD AW;clear Aa Ak AV AY AI AW;obtain⟨g,hg⟩:∃g,w.heap.size=g:=⟨_,rfl⟩;rw[hg] at AS ⊢;have HG:=yD hg;clear hg
 go_wp2_with fail
 go_loopg [5] (l.length-k1) (fun gk out wr=>∃(k:Nat) (lo:List Tok) (A':Option Addr) (c':Nat),k≤l.length∧gk=l.length-k∧lo.length≤k∧out=.slice A' lo.length c'∧Hid ((A'=none→c'=0)∧wr.ownsRow w.heap.size 29 5 (.slice A' lo.length c') lo.length (xD lo)∧Rd wr g A l c k∧Ext w wr∧zAj 0 l=(zAj k (l.drop k)).pre lo∧∀x,(l.drop k).head?=some x→YA x=false∧(x==35)=false))
 case atStart=>exact⟨k1,[],none,0,AS.out.le,rfl,zT _,rfl,yD ⟨fun _=>rfl,zP _ _ _ _,AS.out,Aw.out,by rw[zJc]; exact Au.out,An.out⟩⟩
 case round=>
  obtain⟨k,lo,A',c',hk,rfl,Az,rfl,HW⟩:=hrel;obtain⟨wa,rfl⟩:∃wa:World,wa=wr:=⟨_,rfl⟩;have b1:wa.cell? ⟨g,1,none⟩=some (.int .i64 (k:Int)):=HW.out.2.2.1.blk.cell 1
  by_cases Aj:k<l.length
  ·have d0:decide ((k:Int)<(l.length:Int))=true:=yP (by omega);have AQ:=HW.out.2.2.2.2.2 l[k] (by rw[List.drop_eq_getElem_cons Aj]; rfl)
   go_wp2_with fail
   refine(zPP g A l c k wa HW.out.2.2.1 Aj AQ.1 AQ.2).mono ?_;rintro e w2 ⟨hm,⟨kd,j,n,AG,rfl,AJ⟩ | ⟨er,kd,en,x,n,AG,Ae,rfl⟩⟩
   ·have AK:=yD (zKK (p:=k) AG)
    have hj:1≤j:=by
     have hw:=zCh (l.drop k);rw[AG] at hw;exact hw.1
    have AD:=yD (hm.own HW.out.2.1 (YX HW.out.2.1 HW.out.2.2.1.blk (by decide)));have AC:=yD (hm.ext HW.out.2.2.2.1 (by rw[HG.out]; exact zU _));have AF:=yD AJ;have A0:=yD HW.out.1;have AP:=yD HW.out.2.2.2.2.1;have AZ:=AJ.le;obtain⟨tx,Ah⟩:∃tx,Hid ((l.drop k).take j=tx):=⟨_,yD rfl⟩;rw[Ah.out] at AK;rw[Ah.out];dsimp only[zCH];obtain⟨en,AR⟩:∃en,Hid (k+j=en):=⟨_,yD rfl⟩
    have Ax:k+1≤en:=by have:=AR.out; omega
    rw[AR.out] at AK AF AZ ⊢;clear AG hm AJ HW b1 AQ
    go_wp2_with (at_builtin; refine XP rfl (.tmp 39) (.tmp 41) 23 rfl w.heap.size 29 i0 _ 5 48 Tryz.underlying23 hi Ac AX Ab rfl (by decide) _ _ _ rfl ((AD.out.alloc _).alloc _) _ 1 1 (ZM ⟨kd,k,en,tx,n⟩) rfl (by simp) rfl (by exact(Cells.newAt (by simp))) zSc (by unfold maxLen; omega) (by omega) (by have:=AC.out.size; simp; omega) ?_; intro A4 c4 w4 z4 AB AE)
    have AA:w4.ownsRow w.heap.size 29 5 (.slice A4 (lo++[(⟨kd,k,en,tx,n⟩:Tok)]).length c4) (lo++[(⟨kd,k,en,tx,n⟩:Tok)]).length (xD (lo++[(⟨kd,k,en,tx,n⟩:Tok)])):=by rw[zFr,yM]; exact AB
    have AN:Ext w w4:=Below.grown ((AC.out.trans (Ext.alloc _ _)).trans (Ext.alloc _ _)) AE (by have:=AC.out.size; simp; omega) (fun q hq=>(AD.out.lt q hq).1);have Ag:Blk w4 g 65 #[.slice A l.length c,.int .i64 (en:Int)]:=(((AF.out.blk.alloc _).alloc _)).grown AE (fun e=>YX AD.out AF.out.blk (by decide) e.symm);have Ad:Hid (Rd w4 g A l c en):=yD ⟨Ag,HC.out.ext AN,AF.out.far,AZ,hcap,AF.out.zHI,by omega⟩;have AH:=yD AA;have AM:=yD AN;clear AB AA AN Ag AE AD AC AF
    go_wp2_with fail
    refine(zJS g A l c en w4 Ad.out).mono ?_;rintro e w5 ⟨rfl,k3,Ay,AO,AT,Ai,Af⟩;have Ao:=yD (AO.own AH.out (YX AH.out Ad.out.blk (by decide)));have Aq:=yD (AO.ext AM.out (by rw[HG.out]; exact zU _));have Am:=yD AT;have As:=yD Ai;have At:=yD Af;have Al:=AT.le;clear AO AT Ai Af
    go_wp2_with fail
    go_roundg (l.length-k3)
    case measure=>omega
    case rel=>
     refine⟨k3,lo++[⟨kd,k,en,tx,n⟩],A4,c4,Al,rfl,by simp; omega,by simp,yD ⟨z4,Ao.out,Am.out,Aq.out,?_,At.out⟩⟩;rw[AP.out,AK.out,zQS,List.drop_drop,AR.out,As.out]
   ·have HR:=yD (zPJ (p:=k) AG);dsimp only[zCH]
    have d1:(er != 0)=true:=by rw[zD]; exact Ae
    have AC:=yD (hm.ext HW.out.2.2.2.1 (by rw[HG.out]; exact zU _));have AL:Hid (Ext w (w2.alloc (.cells #[.int .u8 (kd:Int),.int .i64 (k:Int),.int .i64 (en:Int),.string (yX x),.int .i64 n] 29))):=yD (AC.out.trans (Ext.alloc _ _));clear AG Ae hm
    go_wp2_with fail
    refine(zJx A l l.length c (k:Int) er _ rfl (by omega) hcap (by omega) (by omega) (HC.out.ext AL.out) (by simpa using d1)).mono ?_;rintro e w' ⟨g2,rfl,Ar,AU,Av⟩;rw[zRZ k _ hk] at AU
    go_wp2_with fail
    go_ret2;rw[HS.out,HW.out.2.2.2.2.1,HR.out];exact⟨AL.out.trans Av,g2,rfl,Nat.le_trans AL.out.size Ar,AU⟩
  ·obtain rfl:k=l.length:=by omega
   have d0:decide ((l.length:Int)<(l.length:Int))=false:=by simp
   have AD:=yD HW.out.2.1;have AC:=yD HW.out.2.2.2.1;have AP:=yD HW.out.2.2.2.2.1;clear HW
   go_wp2_with (at_builtin; refine XP rfl (.tmp 43) (.tmp 49) 23 rfl w.heap.size 29 i0 _ 5 48 Tryz.underlying23 hi Ac AX Ab rfl (by decide) _ _ _ rfl (AD.out.alloc _) _ 1 1 (ZM ⟨4,l.length,l.length,[],0⟩) rfl (by simp) rfl (by exact(Cells.newAt rfl)) zSc (by unfold maxLen; omega) (by omega) (by have:=AC.out.size; simp; omega) ?_; intro A4 c4 w4 z4 AB AE)
   have AA:w4.ownsRow w.heap.size 29 5 (.slice A4 (lo++[(⟨4,l.length,l.length,[],0⟩:Tok)]).length c4) (lo++[(⟨4,l.length,l.length,[],0⟩:Tok)]).length (xD (lo++[(⟨4,l.length,l.length,[],0⟩:Tok)])):=by rw[zFr,yM]; exact AB
   have AM:Hid (Ext w w4):=yD (Below.grown (AC.out.trans (Ext.alloc _ _)) AE (by have:=AC.out.size; simp; omega) (fun q hq=>(AD.out.lt q hq).1));have AH:=yD AA;clear AB AA AE
   go_wp2_with fail
   go_ret2;rw[HS.out,AP.out,List.drop_eq_nil_of_le (zU _),zQJ];exact⟨AM.out,A4,c4,by simp,z4,AH.out⟩
theorem zM8 (A:Option Addr)(l:Bs)(n c:Nat)(w:World)(hn:n=l.length)(hbig:l.length≤140737488355328)(hcap:l.length≤c)(hnil:A=none→c=0)(h:Cells w A (xL l)) :
  Calls Tryz.prog 9 #[.slice A n c] w (zJj l w (zEZ l)):=by
 by_cases AA:65536<l.length
 ·exact zNI A l n c w hn hbig hcap h AA
 ·exact zSD A l n c w hn hcap hnil h (by omega)
end Go.Proofs.YtioffpjajhalaaaGreatDoor
namespace Go.Proofs.YtioffpjajhalaaaGreatDoor
open Go Go.RowKit Go.Extern.Stop Go.Stop Go.Extern
def hT (t:Nat):Value:=.pointer (some ⟨5,t,none⟩)
theorem zJr (t:Addr)(w:World):(ReflectliteValue.unpack (.iface 108 (.pointer (some t)))).run Tryz.prog w
  = .ok (.agg #[.pointer (some ⟨5,108,none⟩),.pointer (some ⟨w.heap.size,0,none⟩),.int .u64 150]) (w.alloc (.cells #[.pointer (some t)] 108)):=by kernel_rfl
theorem zJm (t:Addr)(w:World):(ReflectliteValue.unpack (.iface 106 (.pointer (some t)))).run Tryz.prog w
  = .ok (.agg #[.pointer (some ⟨5,106,none⟩),.pointer (some ⟨w.heap.size,0,none⟩),.int .u64 150]) (w.alloc (.cells #[.pointer (some t)] 106)):=by kernel_rfl
theorem zJZ (n:Int)(w:World):(ReflectliteValue.unpack (.iface 54 (.int .i64 n))).run Tryz.prog w
  = .ok (.agg #[.pointer (some ⟨5,54,none⟩),.pointer (some ⟨w.heap.size,0,none⟩),.int .u64 130]) (w.alloc (.cells #[.int .i64 n] 54)):=by kernel_rfl
theorem zNM (a:Addr)(w:World):(ReflectliteValue.methodAny (ReflectliteValue.valueError "reflectlite.Value.Type" 0) (fun t _ _ _=>ReflectliteType.toType t) #[.agg #[.pointer (some ⟨5,108,none⟩),.pointer (some a),.int .u64 150]]).run Tryz.prog w
  = .ok (.iface 180 (.agg #[.pointer (some ⟨5,108,none⟩)])) w:=by kernel_rfl
theorem zPp (a:Addr)(w:World):(ReflectliteValue.methodAny (ReflectliteValue.valueError "reflectlite.Value.Type" 0) (fun t _ _ _=>ReflectliteType.toType t) #[.agg #[.pointer (some ⟨5,106,none⟩),.pointer (some a),.int .u64 150]]).run Tryz.prog w
  = .ok (.iface 180 (.agg #[.pointer (some ⟨5,106,none⟩)])) w:=by kernel_rfl
theorem zKd (h:Value)(w:World):(Go.method 261 180 (.agg #[h]) "Kind").run Tryz.prog w = .ok (230, h) w := by kernel_rfl
theorem zLb (h:Value)(w:World):(Go.method 261 180 (.agg #[h]) "Elem").run Tryz.prog w = .ok (245, .agg #[h]) w := by kernel_rfl
theorem zKh (h:Value)(w:World):(Go.method 261 180 (.agg #[h]) "Implements").run Tryz.prog w = .ok (246, .agg #[h]) w := by kernel_rfl
theorem zGY (h:Value)(w:World):(Go.method 261 180 (.agg #[h]) "AssignableTo").run Tryz.prog w = .ok (243, .agg #[h]) w := by kernel_rfl
theorem zQn (p:Value)(w:World):(Go.method 261 107 p "Unwrap").run Tryz.prog w = .ok (236, p) w := by kernel_rfl
theorem zJ7 (p:Value)(w:World):(Go.method 261 139 p "Unwrap").run Tryz.prog w = .ok (238, p) w := by kernel_rfl
theorem zN5 (w:World):((ReflectliteType.abiMethod fun t=>(fun a:Nat=>Value.int IntKind.u8 (a:Int)) <$> Rtype.kind t) #[.pointer (some ⟨5,108,none⟩)]).run Tryz.prog w=.ok (.int .u8 22) w:=by kernel_rfl
theorem zND (w:World):((ReflectliteType.abiMethod fun t=>(fun a:Nat=>Value.int IntKind.u8 (a:Int)) <$> Rtype.kind t) #[.pointer (some ⟨5,106,none⟩)]).run Tryz.prog w=.ok (.int .u8 22) w:=by kernel_rfl
theorem zQD (w:World):((ReflectliteType.abiMethod fun t=>(fun a:Nat=>Value.int IntKind.u8 (a:Int)) <$> Rtype.kind t) #[.pointer (some ⟨5,107,none⟩)]).run Tryz.prog w=.ok (.int .u8 22) w:=by kernel_rfl
theorem zP5 (w:World):((ReflectliteType.abiMethod fun t=>(fun a:Nat=>Value.int IntKind.u8 (a:Int)) <$> Rtype.kind t) #[.pointer (some ⟨5,54,none⟩)]).run Tryz.prog w=.ok (.int .u8 2) w:=by kernel_rfl
theorem zNS (w:World):(ReflectliteType.method ReflectliteType.elem #[.agg #[.pointer (some ⟨5,108,none⟩)]]).run Tryz.prog w=.ok (.iface 180 (.agg #[.pointer (some ⟨5,107,none⟩)])) w:=by kernel_rfl
theorem zOj (w:World):(ReflectliteType.method ReflectliteType.elem #[.agg #[.pointer (some ⟨5,106,none⟩)]]).run Tryz.prog w=.ok (.iface 180 (.agg #[.pointer (some ⟨5,54,none⟩)])) w:=by kernel_rfl
theorem zPW (w:World):(ReflectliteType.relation "Implements" ReflectliteType.implements_ #[.agg #[.pointer (some ⟨5,107,none⟩)],.iface 180 (.agg #[.pointer (some ⟨5,25,none⟩)])]).run Tryz.prog w=.ok (.bool true) w:=by kernel_rfl
theorem zPz (w:World):(ReflectliteType.relation "Implements" ReflectliteType.implements_ #[.agg #[.pointer (some ⟨5,54,none⟩)],.iface 180 (.agg #[.pointer (some ⟨5,25,none⟩)])]).run Tryz.prog w=.ok (.bool true) w:=by kernel_rfl
theorem zMc (v:Value)(w:World):(ReflectliteType.typeOf #[.iface 107 v]).run Tryz.prog w=.ok (.iface 180 (.agg #[.pointer (some ⟨5,107,none⟩)])) w:=by kernel_rfl
theorem zHK (v:Value)(w:World):(ReflectliteType.typeOf #[.iface 54 v]).run Tryz.prog w=.ok (.iface 180 (.agg #[.pointer (some ⟨5,54,none⟩)])) w:=by kernel_rfl
theorem zHn (v:Value)(w:World):(ReflectliteType.typeOf #[.iface 139 v]).run Tryz.prog w=.ok (.iface 180 (.agg #[.pointer (some ⟨5,139,none⟩)])) w:=by kernel_rfl
theorem zRT (w:World):(ReflectliteType.relation "AssignableTo" ReflectliteType.assignableTo #[.agg #[.pointer (some ⟨5,54,none⟩)],.iface 180 (.agg #[.pointer (some ⟨5,54,none⟩)])]).run Tryz.prog w=.ok (.bool true) w:=by kernel_rfl
theorem zRU (w:World):(ReflectliteType.relation "AssignableTo" ReflectliteType.assignableTo #[.agg #[.pointer (some ⟨5,107,none⟩)],.iface 180 (.agg #[.pointer (some ⟨5,54,none⟩)])]).run Tryz.prog w=.ok (.bool false) w:=by kernel_rfl
theorem zRD (w:World):(ReflectliteType.relation "AssignableTo" ReflectliteType.assignableTo #[.agg #[.pointer (some ⟨5,54,none⟩)],.iface 180 (.agg #[.pointer (some ⟨5,107,none⟩)])]).run Tryz.prog w=.ok (.bool false) w:=by kernel_rfl
theorem zRf (w:World):(ReflectliteType.relation "AssignableTo" ReflectliteType.assignableTo #[.agg #[.pointer (some ⟨5,139,none⟩)],.iface 180 (.agg #[.pointer (some ⟨5,107,none⟩)])]).run Tryz.prog w=.ok (.bool false) w:=by kernel_rfl
theorem zRX (w:World):(ReflectliteType.relation "AssignableTo" ReflectliteType.assignableTo #[.agg #[.pointer (some ⟨5,139,none⟩)],.iface 180 (.agg #[.pointer (some ⟨5,54,none⟩)])]).run Tryz.prog w=.ok (.bool false) w:=by kernel_rfl
theorem zRa (v:Value)(w:World):(Instr.typeAssert (.iface 107 v) 25 185 true).run Tryz.prog w=.ok (.tuple #[.nilIface,.bool false]) w:=run_typeAssert_lacksB Tryz.underlying185 (by kernel_rfl) (by kernel_rfl) v _ w
theorem zQB (v:Value)(w:World):(Instr.typeAssert (.iface 54 v) 25 185 true).run Tryz.prog w=.ok (.tuple #[.nilIface,.bool false]) w:=run_typeAssert_lacksB Tryz.underlying185 (by kernel_rfl) (by kernel_rfl) v _ w
theorem zKO (v:Value)(w:World):(Instr.typeAssert (.iface 139 v) 25 185 true).run Tryz.prog w=.ok (.tuple #[.nilIface,.bool false]) w:=run_typeAssert_lacksB Tryz.underlying185 (by kernel_rfl) (by kernel_rfl) v _ w
theorem zR4 (v:Value)(w:World):(Instr.typeAssert (.iface 107 v) 25 188 true).run Tryz.prog w=.ok (.tuple #[.iface 107 v,.bool true]) w:=run_typeAssert_hasB Tryz.underlying188 (by kernel_rfl) v _ w
theorem zNu (v:Value)(w:World):(Instr.typeAssert (.iface 139 v) 25 188 true).run Tryz.prog w=.ok (.tuple #[.iface 139 v,.bool true]) w:=run_typeAssert_hasB Tryz.underlying188 (by kernel_rfl) v _ w
theorem zNP (v:Value)(w:World):(Instr.typeAssert (.iface 54 v) 25 188 true).run Tryz.prog w=.ok (.tuple #[.nilIface,.bool false]) w:=run_typeAssert_lacksB Tryz.underlying188 (by kernel_rfl) (by kernel_rfl) v _ w
theorem zLQ (v:Value)(w:World):(Instr.typeAssert (.iface 54 v) 25 190 true).run Tryz.prog w=.ok (.tuple #[.nilIface,.bool false]) w:=run_typeAssert_lacksB Tryz.underlying190 (by kernel_rfl) (by kernel_rfl) v _ w
theorem zMR (a:Addr)(w:World):(ReflectliteValue.parts (.agg #[.pointer (some ⟨5,108,none⟩),.pointer (some a),.int .u64 150])).run Tryz.prog w=.ok (some (108,a,150)) w:=by kernel_rfl
theorem zGZ (a:Addr)(w:World):(ReflectliteValue.parts (.agg #[.pointer (some ⟨5,106,none⟩),.pointer (some a),.int .u64 150])).run Tryz.prog w=.ok (some (106,a,150)) w:=by kernel_rfl
theorem zOB (a:Addr)(w:World):(ReflectliteValue.parts (.agg #[.pointer (some ⟨5,54,none⟩),.pointer (some a),.int .u64 130])).run Tryz.prog w=.ok (some (54,a,130)) w:=by kernel_rfl
theorem zMe (a:Addr)(w:World):(ReflectliteValue.parts (.agg #[.pointer (some ⟨5,54,none⟩),.pointer (some a),.int .u64 386])).run Tryz.prog w=.ok (some (54,a,386)) w:=by kernel_rfl
theorem zKc (w:World):(Rtype.elem? 106).run Tryz.prog w=.ok (some 54) w:=by kernel_rfl
theorem zSt (p:Addr)(w:World):(ReflectliteValue.mk 54 p ReflectliteValue.flagAddr).run Tryz.prog w=.ok (.agg #[.pointer (some ⟨5,54,none⟩),.pointer (some p),.int .u64 386]) w:=by kernel_rfl
theorem zLz (w:World):(Rtype.directlyAssignable 54 54).run Tryz.prog w=.ok true w:=by kernel_rfl
theorem rlm (z:Sem Value)(f:TypeId→Addr→Nat→Nat→Sem Value)(v:Value) :
  ReflectliteValue.method z f #[v]=(do match ←ReflectliteValue.parts v with | none=>z | some (t,a,fl)=>f t a fl (fl % 32)):=rfl
theorem rls (v x:Value):ReflectliteValue.set #[v,x]=(do
  let (some (dst,a,fl),some (src,b,_)):=(←ReflectliteValue.parts v,←ReflectliteValue.parts x)
   | unsupported (.noEntry "extern/(internal/reflectlite.Value).Set.zeroValue")
  if fl / ReflectliteValue.flagAddr % 2==0 then unsupported (.noEntry "extern/(internal/reflectlite.Value).Set.unaddressable")
  let val ←loadVar src b
  if ←Rtype.directlyAssignable dst src then storeVar dst a val
  else if ←Rtype.implements dst src then
   if (←Rtype.kind src)==20 then
    match val with
    | .nilIface=>unsupported (.noEntry "extern/reflectlite: a nil value of one interface type handed on as a value of another")
    | _=>storeVar dst a val
   else storeVar dst a (.iface src val)
  else panicString ("reflectlite.Set: value of type " ++ (←Rtype.spelt src) ++ " is not assignable to type " ++ (←Rtype.spelt dst))
  pure (.tuple #[])):=rfl
theorem zMq (a p:Addr)(W:World)(ha:W.cell? a=some (.pointer (some p))) :
  (ReflectliteValue.method (ReflectliteValue.valueError "reflectlite.Value.IsNil" 0) ReflectliteValue.isNil #[.agg #[.pointer (some ⟨5,108,none⟩),.pointer (some a),.int .u64 150]]).run Tryz.prog W=.ok (.bool false) W:=by
 rw[rlm];simp only[Sem.run_bind,zMR,Result.andThen];simp[ReflectliteValue.isNil,loadVar,isAgg,underlying,Tryz.underlying108,ha,Result.andThen]
theorem zMN (a p:Addr)(W:World)(ha:W.cell? a=some (.pointer (some p))) :
  (ReflectliteValue.method (ReflectliteValue.valueError "reflectlite.Value.IsNil" 0) ReflectliteValue.isNil #[.agg #[.pointer (some ⟨5,106,none⟩),.pointer (some a),.int .u64 150]]).run Tryz.prog W=.ok (.bool false) W:=by
 rw[rlm];simp only[Sem.run_bind,zGZ,Result.andThen];simp[ReflectliteValue.isNil,loadVar,isAgg,underlying,Tryz.underlying106,ha,Result.andThen]
theorem zLO (a p:Addr)(W:World)(ha:W.cell? a=some (.pointer (some p))) :
  (ReflectliteValue.method (ReflectliteValue.valueError "reflectlite.Value.Elem" 0) ReflectliteValue.elem #[.agg #[.pointer (some ⟨5,106,none⟩),.pointer (some a),.int .u64 150]]).run Tryz.prog W
   = .ok (.agg #[.pointer (some ⟨5,54,none⟩),.pointer (some p),.int .u64 386]) W:=by
 rw[rlm];simp only[Sem.run_bind,zGZ,Result.andThen];simp[ReflectliteValue.elem,loadVar,isAgg,underlying,Tryz.underlying106,ha,Result.andThen,zKc,zSt]
theorem zRF (ta b:Addr)(n:Int)(old:Value)(W:World)(hb:W.cell? b=some (.int .i64 n))(ht:W.cell? ta=some old)(hf:W.frozen? ta=false) :
  (ReflectliteValue.set #[.agg #[.pointer (some ⟨5,54,none⟩),.pointer (some ta),.int .u64 386],.agg #[.pointer (some ⟨5,54,none⟩),.pointer (some b),.int .u64 130]]).run Tryz.prog W
   = .ok (.tuple #[]) (W.setCell ta (.int .i64 n)):=by
 rw[rls];simp only[Sem.run_bind,zMe,zOB,Result.andThen];simp[ReflectliteValue.flagAddr,loadVar,isAgg,underlying,Tryz.underlying54,hb,Result.andThen,zLz,storeVar,Value.cells,storeCells,Addr.add];rw[run_store Tryz.prog W ta _ _ (by rfl)];simp[ht,hf]
end Go.Proofs.YtioffpjajhalaaaGreatDoor
