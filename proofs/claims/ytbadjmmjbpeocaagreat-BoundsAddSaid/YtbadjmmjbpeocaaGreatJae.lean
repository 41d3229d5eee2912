/- bytes.Count at one byte, bytes.LastIndexByte, diag.New, walked. (and what follows of it). The conditions stand at each lemma. -/
import Derived.Test.YtbadjmmjbpeocaaGreatJaa
import Derived.Test.YtbadjmmjbpeocaaGreatJac
import Derived.Shelf.Bytes.SlCountOne
import Derived.IntWalk
import Derived.Test.YtbadjmmjbpeocaaGreatJad
import Derived.Test.YtbadjmmjbpeocaaGreatJab
import Derived.Deep.AppendLies
import Derived.Maps.OwnSet
set_option linter.unusedVariables false
set_option linter.unusedSimpArgs false
set_option maxRecDepth 100000
set_option maxHeartbeats 16000000
namespace Go.Proofs.YtbadjmmjbpeocaaGreat
open Go Go.RowKit
theorem zQn {w:World}{a:Addr}{l:Bs}(h:Cells w (some a) (vE l)):∀i,i<l.length→w.cell? (a.add i)=some (.int .u8 ((zDl l).getD i 0)):=by
 intro i hi;obtain⟨b,AA,e,hb,hc⟩:=h.at_ (by rw[jU]; omega);injection e with e;subst e
 rw[zHO l i hi,show(⟨b,AA,none⟩:Addr).add i=⟨b,AA+i,none⟩ from by unfold Addr.add; split <;> simp_all,hc i (by rw[jU]; exact hi),VZ l i hi]
theorem zQF {w:World}{A:Option Addr}{l:Bs}{n c:Nat}(hn:n=l.length)(h:Cells w A (vE l)) :
  (Extern.BytealgCount.count #[.slice A n c,.int .u8 10]).run Tryz.prog w=.ok (.int .i64 ((l.count 10:Nat):Int)) w:=by
 subst hn
 cases A with
 | none=>
  have h0:l=[]:=by
   rcases h with h | ⟨b,AA,e,_⟩
   ·have:(vE l).length=0:=by rw[h]; rfl
    rw[jU] at this;exact List.eq_nil_of_length_eq_zero this
   ·cases e
  subst h0;exact Lib.run_countNil w _ c 10
 | some a=>
  have h1:=Lib.run_countAt (P:=Tryz.prog) w a l.length c (zDl l) (zGw l) (zQn h) 10;rw[zBt] at h1;exact h1
theorem zQb (A:Option Addr)(l:Bs)(n c g d:Nat)(w:World)(hn:n=l.length)(h:Cells w A (vE l))(hg:w.cell? ⟨g,0,none⟩=some (.int .u8 10)) :
  Calls Tryz.prog 69 #[.slice A n c,.slice (some ⟨g,0,none⟩) 1 d] w fun e w'=>e=.returned (.int .i64 ((l.count 10:Nat):Int))∧w'=w:=by
 have hr:=zQF (n:=n) (c:=c) hn h;clear h hn;generalize ((l.count 10:Nat):Int)=z at *
 go_enter Tryz.func69,Tryz.ntmps69
 go_wp2
 rw[run_callFunc_extern Tryz.func101 (by kernel_rfl) (by kernel_rfl) (by kernel_rfl) (e:=Extern.BytealgCount.count) (by kernel_rfl),hr];simp only[Result.andThen];rw[Oper.upon_value]
 go_wp2
 go_ret;exact⟨rfl,rfl⟩
def zBQ (l:Bs):Nat→Int
 | 0=>-1
 | k+1=>if l.getD k 0==10 then (k:Int) else zBQ l k
theorem zKB (l:Bs):∀k:Nat,-1≤zBQ l k∧zBQ l k<k
 | 0=>by simp[zBQ]
 | k+1=>by
  unfold zBQ
  have:=zKB l k
  split <;> omega
theorem zON (A:Option Addr)(l:Bs)(n c:Nat)(w:World)(hn:n=l.length)(hbig:l.length≤140737488355328)(h:Cells w A (vE l))(z:Int)(hz:Hid (zBQ l l.length=z)) :
  Calls Tryz.prog 103 #[.slice A n c,.int .u8 10] w fun e w'=>e=.returned (.int .i64 z)∧w'=w:=by
 subst hn;have HC:=yG h;clear h
 go_enter Tryz.func103,Tryz.ntmps103
 go_wp2_with fail
 go_loop [5] (fun i=>∃k:Nat,k≤l.length∧i=.int .i64 ((k:Int)-1)∧Hid (zBQ l k=z)) (fun i=>(intOf i+1).toNat)
 case atStart=>exact⟨l.length,zX _,rfl,hz⟩
 case round=>
  obtain⟨k,hk,rfl,HZ⟩:=hrel
  cases k with
  | zero=>
   have HE:Hid (z=-1):=yG (by rw[←HZ.out]; rfl)
   go_wp2_with fail
   go_ret;exact⟨JG HE.out.symm,rfl⟩
  | succ k=>
   rw[show(((k+1:Nat):Int)-1)=(k:Int) from by omega]
   have AE:k<l.length:=by omega
   obtain⟨b,AD,hA,hb,AC⟩:=HC.out.at_ (by rw[jU]; omega);subst hA
   have e0:w.cell? ⟨b,AD+k,none⟩=some (.int .u8 (l[k].toNat:Int)):=by rw[AC k (by rw[jU]; omega),VZ l k AE]
   have AA:=HZ.out;unfold zBQ at AA;rw[show l.getD k 0=l[k] from by simp[AE]] at AA;have AB:=yG AA;clear AC AA HZ
   have q0:(k:Int)<(l.length:Int):=by omega
   generalize l[k]=x at *
   by_cases hx:x=10
   ·subst hx;have AF:w.cell? ⟨b,AD+k,none⟩=some (.int .u8 10):=e0;clear e0;have HE:Hid (z=(k:Int)):=yG (by rw[←AB.out]; rfl)
    go_wp2_with fail
    go_ret;exact⟨JG HE.out.symm,rfl⟩
   ·have d1:((x.toNat:Int)==10)=false:=by
     rw[yI];intro h;apply hx
     have:x.toNat=10:=by omega
     exact UInt8.toNat_inj.1 this
    have HE:Hid (zBQ l k=z):=yG (by rw[←AB.out,if_neg (by simpa using hx)])
    go_wp2_with fail
    go_round
    case rel=>exact⟨k,by omega,rfl,HE⟩
    case measure=>simp[intOf]
theorem zR1 (A:Option Addr)(l:Bs)(n c:Nat)(w:World)(hn:n=l.length)(hbig:l.length≤140737488355328)(h:Cells w A (vE l))(z:Int)(hz:Hid (zBQ l l.length=z)) :
  Calls Tryz.prog 70 #[.slice A n c,.int .u8 10] w fun e w'=>e=.returned (.int .i64 z)∧w'=w:=by
 have H:=yG (zON A l n c w hn hbig h z hz);clear h hn hz
 go_enter Tryz.func70,Tryz.ntmps70
 go_wp2_with fail
 refine H.out.mono ?_;rintro e w' ⟨rfl,rfl⟩
 go_wp2_with fail
 go_ret;exact⟨rfl,rfl⟩
theorem Blk.zUI {w:World}{t:TypeId}{cs:Array Value}{g:Nat}(hg:w.heap.size=g):Blk (w.alloc (.cells cs t)) g t cs:=by subst hg; exact Blk.new _ _ _
def atN (at_:Int)(n:Nat):Nat:=(max 0 (min at_ (n:Int))).toNat
theorem zUh (at_:Int)(n:Nat):atN at_ n≤n:=by unfold atN; omega
def zFT (l:Bs)(k:Nat):Int:=((l.take k).count 10:Nat)+1
def zLn (l:Bs)(k:Nat):Int:=(k:Int)-zBQ (l.take k) k
theorem zHE (A:Option Addr)(l:Bs)(n c:Nat)(at_ er:Int)(w:World)(hn:n=l.length)(hbig:l.length≤140737488355328)(hcap:l.length≤c)(hat1:-9223372036854775808≤at_)(hat2:at_≤9223372036854775807)(h:Cells w A (vE l))(her:er≠0) :
  Calls Tryz.prog 42 #[.slice A n c,.int .i64 at_,.int .i64 er] w fun e w'=>∃g,e=.returned (.iface 149 (.pointer (some ⟨g,0,none⟩)))∧w.heap.size≤g∧Blk w' g 153 #[.int .i64 (atN at_ l.length:Int),.int .i64 (zFT l (atN at_ l.length)),.int .i64 (zLn l (atN at_ l.length)),.int .i64 er]∧Ext w w':=by
 subst hn;have HC:=yG h;clear h
 have d0:(er==0)=false:=by rw[yI]; exact her
 go_enter Tryz.func42,Tryz.ntmps42
 go_wp2_with fail
 have hq:max 0 (min at_ (l.length:Int))=((atN at_ l.length:Nat):Int):=by unfold atN; omega
 have AJ:=zUh at_ l.length;rw[hq,zI];clear hq;generalize hqe:atN at_ l.length=q at *;have AF:=yG hqe;clear hqe
 have AC:Cells w A (vE (l.take q)):=by
  have h:=zDj HC.out hcap 0 q;rw[List.drop_zero] at h;unfold zDT at h
  split at h
  ·exact h
  ·cases A with
   | none=>exact h
   | some x=>exact h
 have AE:(l.take q).length=q:=by simp; omega
 have AA:=yG AE;have AD:=yG (AC.ext (Ext.alloc w (.cells #[.int .u8 10] 5)));obtain⟨cn,AB⟩:∃cn:Nat,Hid ((l.take q).count 10=cn):=⟨_,yG rfl⟩
 have AH:cn≤140737488355328:=by
  have:=List.count_le_length (a:=(10:UInt8)) (l:=l.take q)
  rw[AB.out] at this;omega
 obtain⟨z,HZ⟩:∃z,Hid (zBQ (l.take q) q=z):=⟨_,yG rfl⟩;have hz:=zKB (l.take q) q;rw[HZ.out] at hz;obtain⟨AI,AG⟩:=hz;clear AC AE;refine(zQb A (l.take q) q c w.heap.size 1 _ (by rw[AA.out]) AD.out (by simp)).mono ?_;rintro e w' ⟨rfl,rfl⟩;rw[AB.out]
 go_wp2_with fail
 refine(zR1 A (l.take q) q c _ (by rw[AA.out]) (by rw[AA.out]; omega) AD.out z (by rw[AA.out]; exact HZ)).mono ?_;rintro e w' ⟨rfl,rfl⟩
 go_wp2_with fail
 go_ret
 have h1:zFT l q=(cn:Int)+1:=by unfold zFT; rw[AB.out]
 have h2:zLn l q=(q:Int)-z:=by unfold zLn; rw[HZ.out]
 rw[AF.out,h1,h2];exact⟨_,rfl,by simp,Blk.zUI (by simp),(Ext.alloc _ _).trans (Ext.alloc _ _)⟩
def ZY (t:Tok):List Value:=[.int .u8 (t.kind:Int),.int .i64 (t.at_:Int),.int .i64 (t.en:Int),.string (xG t.text),.int .i64 t.n]
def jP (l:List Tok):List Value:=l.flatMap ZY
theorem zBo (l:List Tok):(jP l).length=l.length*5:=by
 unfold jP
 induction l with
 | nil=>rfl
 | cons t l ih=>rw[List.flatMap_cons,yP,ih,zK]; show 5+_=_; omega
theorem zHa (l:List Tok)(t:Tok):jP (l++[t])=jP l++ZY t:=by simp[jP]
def zFA (l:Bs):zBS:=if 65536<l.length then .err 0 3 else zAZ 0 l
def zLQ (l:Bs)(w:World)(r:zBS)(e:Ending)(w':World):Prop:=Ext w w'∧match r with
 | .ok ts=>∃A' c',e=.returned (.tuple #[.slice A' ts.length c',.nilIface])∧(A'=none→c'=0)∧w'.ownsRow w.heap.size 104 5 (.slice A' ts.length c') ts.length (jP ts)
 | .err a er=>∃g,e=.returned (.tuple #[.slice none 0 0,.iface 149 (.pointer (some ⟨g,0,none⟩))])∧w.heap.size≤g∧Blk w' g 153 #[.int .i64 (a:Int),.int .i64 (zFT l a),.int .i64 (zLn l a),.int .i64 er]
theorem zQO:(Tryz.prog.info? 104).map (fun i=>(i.zero,i.size,i.bytes))=some (some (.agg #[.int .u8 0,.int .i64 0,.int .i64 0,.string ⟨#[]⟩,.int .i64 0]),5,48):=by kernel_rfl
theorem zNz {w:World}{A:Option Addr}{cs:List Value}(h:Cells w A cs)(h0:0<cs.length)(b off:Nat)(e:A=some ⟨b,off,none⟩):b<w.heap.size:=by
 obtain⟨b',AA,e',hb,_⟩:=h.at_ h0;rw[e] at e';injection e' with e';injection e' with e';subst e';exact hb
theorem zT0 {t:Tok}:∀u ∈ ZY t,u.oneCell'=true:=by
 intro u hu;simp only[ZY,zU,List.not_mem_nil,or_false] at hu
 rcases hu with rfl | rfl | rfl | rfl | rfl <;> rfl
theorem Cells.newAt {w:World}{t:TypeId}{cs:Array Value}{g:Nat}{l:List Value}(hg:w.heap.size=g)(hl:cs.toList=l:=by rfl):Cells (w.alloc (.cells cs t)) (some ⟨g,0,none⟩) l:=by subst hg hl; exact Cells.new _ _ _
theorem zTL (k n:Nat)(h:k≤n):atN (k:Int) n=k:=by unfold atN; omega
theorem zPE (A:Option Addr)(l:Bs)(n c:Nat)(w:World)(hn:n=l.length)(hbig:l.length≤140737488355328)(hcap:l.length≤c)(h:Cells w A (vE l))(hlim:65536<l.length) :
  Calls Tryz.prog 40 #[.slice A n c] w (zLQ l w (zFA l)):=by
 subst hn;have HC:=yG h;clear h;have HS:Hid (zFA l=.err 0 3):=yG (by unfold zFA; rw[if_pos hlim])
 go_enter Tryz.func40,Tryz.ntmps40
 go_wp2_with fail
 refine(zHE A l l.length c 0 3 w rfl hbig hcap (by omega) (by omega) HC.out (by decide)).mono ?_;rintro e w' ⟨g,rfl,hg,hb,hx⟩;rw[show atN 0 l.length=0 from by unfold atN; omega] at hb
 go_wp2_with fail
 go_ret2;rw[HS.out];exact⟨hx,g,rfl,hg,hb⟩
theorem zUw (A:Option Addr)(l:Bs)(n c:Nat)(w:World)(hn:n=l.length)(hcap:l.length≤c)(hnil:A=none→c=0)(h:Cells w A (vE l))(hlim:l.length≤65536) :
  Calls Tryz.prog 40 #[.slice A n c] w (zLQ l w (zFA l)):=by
 subst hn;obtain⟨i0,hi,Ak,AZ,Aa⟩:=info_parts zQO;have HC:=yG h;have HN:=yG hnil;have HS:Hid (zFA l=zAZ 0 l):=yG (by unfold zFA; rw[if_neg (by omega)]);have AV:Hid (Ext w (w.alloc (.cells #[.slice A l.length c,.int .i64 0] 146))):=yG (Ext.alloc _ _)
 have Aj:Hid (Rd (w.alloc (.cells #[.slice A l.length c,.int .i64 0] 146)) w.heap.size A l c 0):=yG ⟨Blk.new _ _ _,h.ext (Ext.alloc _ _),fun h0 b Ax e=>by
  have:=zNz h (by rw[jU]; exact h0) b Ax e
  omega,zW _,hcap,hnil,by omega⟩
 clear h hnil
 go_enter Tryz.func40,Tryz.ntmps40
 go_wp2_with fail
 refine(zMo w.heap.size A l c 0 _ Aj.out).mono ?_;rintro e w1 ⟨rfl,k1,_,AX,Af,AP,AY⟩;rw[List.drop_zero] at AP;have As:=yG (AX.ext AV.out (zX _));have AR:=yG Af;have Av:=yG AP;have Ar:=yG AY;clear AV Aj AX Af AP AY;obtain⟨g,hg⟩:∃g,w.heap.size=g:=⟨_,rfl⟩;rw[hg] at AR ⊢;have HG:=yG hg;clear hg
 go_wp2_with fail
 go_loopg [5] (l.length-k1) (fun gk Ap wr=>∃(k:Nat) (lo:List Tok) (A':Option Addr) (c':Nat),k≤l.length∧gk=l.length-k∧lo.length≤k∧Ap=.slice A' lo.length c'∧Hid ((A'=none→c'=0)∧wr.ownsRow w.heap.size 104 5 (.slice A' lo.length c') lo.length (jP lo)∧Rd wr g A l c k∧Ext w wr∧zAZ 0 l=(zAZ k (l.drop k)).pre lo∧∀x,(l.drop k).head?=some x→XK x=false∧(x==35)=false))
 case atStart=>exact⟨k1,[],none,0,AR.out.le,rfl,zW _,rfl,yG ⟨fun _=>rfl,zR _ _ _ _,AR.out,As.out,by rw[zTv]; exact Av.out,Ar.out⟩⟩
 case round=>
  obtain⟨k,lo,A',c',hk,rfl,Ay,rfl,HW⟩:=hrel;obtain⟨wa,rfl⟩:∃wa:World,wa=wr:=⟨_,rfl⟩;have b1:wa.cell? ⟨g,1,none⟩=some (.int .i64 (k:Int)):=HW.out.2.2.1.blk.cell 1
  by_cases AW:k<l.length
  ·have d0:decide ((k:Int)<(l.length:Int))=true:=yS (by omega);have AK:=HW.out.2.2.2.2.2 l[k] (by rw[List.drop_eq_getElem_cons AW]; rfl)
   go_wp2_with fail
   refine(zRy g A l c k wa HW.out.2.2.1 AW AK.1 AK.2).mono ?_;rintro e w2 ⟨hm,⟨kd,j,n,AE,rfl,AO⟩ | ⟨er,kd,en,x,n,AE,AU,rfl⟩⟩
   ·have AJ:=yG (zSq (p:=k) AE)
    have hj:1≤j:=by
     have hw:=zDz (l.drop k);rw[AE] at hw;exact hw.1
    have AD:=yG (hm.own HW.out.2.1 (XV HW.out.2.1 HW.out.2.2.1.blk (by decide)));have AC:=yG (hm.ext HW.out.2.2.2.1 (by rw[HG.out]; exact zX _));have AG:=yG AO;have A1:=yG HW.out.1;have AL:=yG HW.out.2.2.2.2.1;have Ah:=AO.le;obtain⟨tx,Ag⟩:∃tx,Hid ((l.drop k).take j=tx):=⟨_,yG rfl⟩;rw[Ag.out] at AJ;rw[Ag.out];dsimp only[zEa];obtain⟨en,AS⟩:∃en,Hid (k+j=en):=⟨_,yG rfl⟩
    have A0:k+1≤en:=by have:=AS.out; omega
    rw[AS.out] at AJ AG Ah ⊢;clear AE hm AO HW b1 AK
    go_wp2_with (at_builtin; refine zBz rfl (.tmp 39) (.tmp 41) 96 rfl w.heap.size 104 i0 _ 5 48 Tryz.underlying96 hi Ak AZ Aa rfl (by decide) _ _ _ rfl ((AD.out.alloc _).alloc _) _ 1 1 (ZY ⟨kd,k,en,tx,n⟩) rfl (by simp) rfl (by exact(Cells.newAt (by simp))) zT0 (by unfold maxLen; omega) (by omega) (by have:=AC.out.size; simp; omega) ?_; intro A4 c4 w4 z4 AB AF)
    have AA:w4.ownsRow w.heap.size 104 5 (.slice A4 (lo++[(⟨kd,k,en,tx,n⟩:Tok)]).length c4) (lo++[(⟨kd,k,en,tx,n⟩:Tok)]).length (jP (lo++[(⟨kd,k,en,tx,n⟩:Tok)])):=by rw[zHa,yP]; exact AB
    have AT:Ext w w4:=Below.grown ((AC.out.trans (Ext.alloc _ _)).trans (Ext.alloc _ _)) AF (by have:=AC.out.size; simp; omega) (fun q hq=>(AD.out.lt q hq).1);have Ad:Blk w4 g 146 #[.slice A l.length c,.int .i64 (en:Int)]:=(((AG.out.blk.alloc _).alloc _)).grown AF (fun e=>XV AD.out AG.out.blk (by decide) e.symm);have Ai:Hid (Rd w4 g A l c en):=yG ⟨Ad,HC.out.ext AT,AG.out.far,Ah,hcap,AG.out.zIv,by omega⟩;have AH:=yG AA;have AI:=yG AT;clear AB AA AT Ad AF AD AC AG
    go_wp2_with fail
    refine(zMo g A l c en w4 Ai.out).mono ?_;rintro e w5 ⟨rfl,k3,Az,AN,AQ,Ae,Ab⟩;have Al:=yG (AN.own AH.out (XV AH.out Ai.out.blk (by decide)));have Aq:=yG (AN.ext AI.out (by rw[HG.out]; exact zX _));have Au:=yG AQ;have Aw:=yG Ae;have At:=yG Ab;have An:=AQ.le;clear AN AQ Ae Ab
    go_wp2_with fail
    go_roundg (l.length-k3)
    case measure=>omega
    case rel=>
     refine⟨k3,lo++[⟨kd,k,en,tx,n⟩],A4,c4,An,rfl,by simp; omega,by simp,yG ⟨z4,Al.out,Au.out,Aq.out,?_,At.out⟩⟩;rw[AL.out,AJ.out,zSB,List.drop_drop,AS.out,Aw.out]
   ·have HR:=yG (zRr (p:=k) AE);dsimp only[zEa]
    have d1:(er != 0)=true:=by rw[zE]; exact AU
    have AC:=yG (hm.ext HW.out.2.2.2.1 (by rw[HG.out]; exact zX _));have AM:Hid (Ext w (w2.alloc (.cells #[.int .u8 (kd:Int),.int .i64 (k:Int),.int .i64 (en:Int),.string (xG x),.int .i64 n] 104))):=yG (AC.out.trans (Ext.alloc _ _));clear AE AU hm
    go_wp2_with fail
    refine(zHE A l l.length c (k:Int) er _ rfl (by omega) hcap (by omega) (by omega) (HC.out.ext AM.out) (by simpa using d1)).mono ?_;rintro e w' ⟨g2,rfl,Ao,Ac,Am⟩;rw[zTL k _ hk] at Ac
    go_wp2_with fail
    go_ret2;rw[HS.out,HW.out.2.2.2.2.1,HR.out];exact⟨AM.out.trans Am,g2,rfl,Nat.le_trans AM.out.size Ao,Ac⟩
  ·obtain rfl:k=l.length:=by omega
   have d0:decide ((l.length:Int)<(l.length:Int))=false:=by simp
   have AD:=yG HW.out.2.1;have AC:=yG HW.out.2.2.2.1;have AL:=yG HW.out.2.2.2.2.1;clear HW
   go_wp2_with (at_builtin; refine zBz rfl (.tmp 43) (.tmp 49) 96 rfl w.heap.size 104 i0 _ 5 48 Tryz.underlying96 hi Ak AZ Aa rfl (by decide) _ _ _ rfl (AD.out.alloc _) _ 1 1 (ZY ⟨4,l.length,l.length,[],0⟩) rfl (by simp) rfl (by exact(Cells.newAt rfl)) zT0 (by unfold maxLen; omega) (by omega) (by have:=AC.out.size; simp; omega) ?_; intro A4 c4 w4 z4 AB AF)
   have AA:w4.ownsRow w.heap.size 104 5 (.slice A4 (lo++[(⟨4,l.length,l.length,[],0⟩:Tok)]).length c4) (lo++[(⟨4,l.length,l.length,[],0⟩:Tok)]).length (jP (lo++[(⟨4,l.length,l.length,[],0⟩:Tok)])):=by rw[zHa,yP]; exact AB
   have AI:Hid (Ext w w4):=yG (Below.grown (AC.out.trans (Ext.alloc _ _)) AF (by have:=AC.out.size; simp; omega) (fun q hq=>(AD.out.lt q hq).1));have AH:=yG AA;clear AB AA AF
   go_wp2_with fail
   go_ret2;rw[HS.out,AL.out,List.drop_eq_nil_of_le (zX _),zSu];exact⟨AI.out,A4,c4,by simp,z4,AH.out⟩
theorem zO2 (A:Option Addr)(l:Bs)(n c:Nat)(w:World)(hn:n=l.length)(hbig:l.length≤140737488355328)(hcap:l.length≤c)(hnil:A=none→c=0)(h:Cells w A (vE l)) :
  Calls Tryz.prog 40 #[.slice A n c] w (zLQ l w (zFA l)):=by
 by_cases AA:65536<l.length
 ·exact zPE A l n c w hn hbig hcap h AA
 ·exact zUw A l n c w hn hcap hnil h (by omega)
end Go.Proofs.YtbadjmmjbpeocaaGreat
namespace Go.Proofs.YtbadjmmjbpeocaaGreat
structure zEz (s:Ps):Prop where
 last:∃l e,s.ts=l++[e]∧e.kind=4
 deep:s.deep≤64
structure Good (s:Ps):Prop where
 last:∃l e,s.ts=l++[e]∧e.kind=4
 deep:s.deep≤64
 few:∀n ∈ s.nd,n.kids.length≤s.nd.length
theorem Good.base {s:Ps}(h:Good s):zEz s:=⟨h.last,h.deep⟩
theorem zEz.ne {s:Ps}(h:zEz s):s.ts≠[]:=by
 obtain⟨l,e,h,_⟩:=h.last;rw[h]
 simp
theorem zEz.pos {s:Ps}(h:zEz s):0<s.ts.length:=List.length_pos_iff.2 h.ne
theorem zEz.hd {s:Ps}(h:zEz s):∃t r,s.ts=t::r∧s.hd=t:=by
 cases hs:s.ts with
 | nil=>exact absurd hs h.ne
 | cons t r=>exact⟨t,r,rfl,by unfold Ps.hd; rw[hs]; rfl⟩
theorem zEz.adv {s:Ps}(h:zEz s)(hk:s.hd.kind≠4):zEz s.adv:=by
 refine⟨?_,h.deep⟩;obtain⟨l,e,hl,he⟩:=h.last
 cases l with
 | nil=>
  exfalso
  apply hk;unfold Ps.hd;rw[hl];exact he
 | cons t r=>
  refine⟨r,e,?_,he⟩
  show s.ts.tail=_
  rw[hl]
  rfl
def Ps.phi (s:Ps):Nat:=s.nd.length+2*s.ts.length
structure ZI (s s':Ps):Prop where
 xV:Good s'
 phi:s'.phi≤s.phi
 ts:s'.ts.length≤s.ts.length
 nd:s.nd.length≤s'.nd.length
 deep:s'.deep=s.deep
theorem ZI.refl {s:Ps}(h:Good s):ZI s s:=⟨h,zX _,zX _,zX _,rfl⟩
theorem ZI.trans {a b c:Ps}(h:ZI a b)(k:ZI b c):ZI a c:=⟨k.xV,Nat.le_trans k.phi h.phi,Nat.le_trans k.ts h.ts,Nat.le_trans h.nd k.nd,k.deep.trans h.deep⟩
def jO {α:Type}(s:Ps):Res α→Prop
 | .ok _ s'=>ZI s s'
 | .err _ _=>True
def zA5 {α:Type}(m:Pm α):Prop:=∀s,Good s→jO s (m s)
theorem Good.pos {s:Ps}(h:Good s):0<s.ts.length:=h.base.pos
theorem Good.adv {s:Ps}(h:Good s)(hk:s.hd.kind≠4):Good s.adv:=⟨(h.base.adv hk).last,h.deep,h.few⟩
theorem jW {s:Ps}:s.adv.ts.length=s.ts.length-1:=by show s.ts.tail.length=_; simp
theorem VH {s:Ps}(h:Good s)(hk:s.hd.kind≠4):ZI s s.adv:=by
 have:=h.pos
 have ht:=jW (s:=s);exact⟨h.adv hk,by unfold Ps.phi; rw[ht]; show s.nd.length+_≤_; omega,by omega,zX _,rfl⟩
theorem vO {t:Bs}{s:Ps}(h:isP t s=true):s.hd.kind≠4∧s.hd.kind≠2∧s.hd.text=t:=by
 unfold isP at h;simp only[zG,zE,zO] at h;exact⟨h.1.1,h.1.2,h.2⟩
theorem zDW {s:Ps}{i:Nat}{f:Nd→Nd}:(s.on i f).nd.length=s.nd.length:=by unfold Ps.on; simp
theorem zSC {s:Ps}{i:Nat}{f:Nd→Nd}(m:Nat)(hk:∀n ∈ s.nd,(f n).kids.length≤m)(h:∀n ∈ s.nd,n.kids.length≤m):∀n ∈ (s.on i f).nd,n.kids.length≤m:=by
 intro n hn;have AB:n ∈ s.nd.modify i f:=hn;obtain⟨a,ha,rfl⟩:=List.mem_iff_getElem.1 AB
 have AA:a<s.nd.length:=by rw[List.length_modify] at ha; exact ha
 rw[List.getElem_modify]
 split
 ·exact hk _ (yO AA)
 ·exact h _ (yO AA)
theorem zAs {s:Ps}{i:Nat}{f:Nd→Nd}(h:Good s)(hk:∀n,(f n).kids=n.kids):ZI s (s.on i f):=⟨⟨h.last,h.deep,by rw[zDW]; exact zSC _ (fun n hn=>by rw[hk]; exact h.few n hn) h.few⟩,by unfold Ps.phi; rw[zDW]; exact zX _,zX _,by rw[zDW]; exact zX _,rfl⟩
theorem jO.trans {α:Type}{a b:Ps}{r:Res α}(h:ZI a b)(k:jO b r):jO a r:=by
 cases r with
 | ok x s=>exact h.trans k
 | err _ _=>trivial
theorem jO.bind {α β:Type}{s:Ps}{r:Res α}{f:α→Ps→Res β}(h:jO s r)(k:∀a s',r=.ok a s'→Good s'→jO s' (f a s')):jO s (r.bind f):=by
 cases r with
 | ok a s'=>exact jO.trans h (k a s' rfl h.xV)
 | err e p=>trivial
theorem xS (t:Bs):zA5 (vX t):=by
 intro s h;unfold vX
 split
 ·rename_i hi;exact VH h (vO hi).1
 ·trivial
theorem zTS (k:Nat)(hk:k≠4):zA5 (ofP k):=by
 intro s h;unfold ofP
 split
 ·rename_i hi;exact VH h (by rw[hi]; exact hk)
 ·trivial
theorem ZT (i:Nat):zA5 (jS i):=fun s h=>(zTS 1 (by decide) s h).bind fun t s' _ h'=>zAs h' (fun _=>rfl)
def JS {α:Type}(s:Ps):Res α→Prop
 | .ok _ s'=>Good s'∧s'.phi+2≤s.phi∧s'.ts.length+1≤s.ts.length∧s.nd.length≤s'.nd.length∧s'.deep=s.deep
 | .err _ _=>True
theorem jT (s:Ps)(i k:Nat):(s.xI i k).nd.length=s.nd.length+1:=by
 show((s.kid i).nd++[_]).length=_
 rw[yP]
 show(s.on i _).nd.length+1=_
 rw[zDW]
theorem zBv {s:Ps}(h:∀n ∈ s.nd,n.kids.length≤s.nd.length)(i:Nat)(x:Nd)(hx:x.kids=[]):∀n ∈ ((s.kid i).add x).nd,n.kids.length≤((s.kid i).add x).nd.length:=by
 have hl:((s.kid i).add x).nd.length=s.nd.length+1:=by
  show((s.kid i).nd++[_]).length=_
  rw[yP]
  show(s.on i _).nd.length+1=_
  rw[zDW]
 intro n hn;rw[hl]
 rcases List.mem_append.1 hn with hn | hn
 ·exact zSC (s.nd.length+1) (fun n hn=>by have:=h n hn; simp; omega) (fun n hn=>by have:=h n hn; omega) n hn
 ·rw[List.mem_singleton.1 hn,hx]
  simp
theorem vN {s:Ps}(h:Good s)(i k:Nat):Good (s.xI i k):=⟨h.last,h.deep,zBv h.few i _ rfl⟩
theorem YS (s:Ps)(i k:Nat):(s.xI i k).ts=s.ts:=rfl
theorem zLB (s:Ps)(i k:Nat):(s.xI i k).deep=s.deep:=rfl
theorem JS.at {α:Type}{s:Ps}{i k:Nat}{r:Res α}(h:JS (s.xI i k) r):jO s r:=by
 cases r with
 | ok a s'=>
  obtain⟨h1,h2,h3,h4,h5⟩:=h;have hl:=jT s i k;unfold Ps.phi at h2;rw[hl,YS] at h2;rw[YS] at h3;rw[hl] at h4;rw[zLB] at h5;exact⟨h1,by unfold Ps.phi; omega,by omega,by omega,h5⟩
 | err _ _=>trivial
theorem JS.bind {α β:Type}{s:Ps}{r:Res α}{f:α→Ps→Res β}(h:JS s r)(k:∀a s',r=.ok a s'→Good s'→jO s' (f a s')):JS s (r.bind f):=by
 cases r with
 | ok a s'=>
  have hk:=k a s' rfl h.1
  show JS s (f a s')
  obtain⟨h1,h2,h3,h4,h5⟩:=h
  cases hr:f a s' with
  | ok b s2=>
   rw[hr] at hk
   have:=hk.phi
   have:=hk.ts
   have:=hk.nd
   exact⟨hk.xV,by omega,by omega,by omega,hk.deep.trans h5⟩
  | err _ _=>trivial
 | err e p=>trivial
theorem zDf {s:Ps}(h:Good s)(hk:s.hd.kind≠4):JS s (.ok () s.adv:Res Unit):=by
 have:=h.pos
 have ht:=jW (s:=s);exact⟨h.adv hk,by unfold Ps.phi; rw[ht]; show s.nd.length+_+2≤_; omega,by omega,zX _,rfl⟩
theorem zNo {s:Ps}(k:Nat)(hk:k≠4)(h:Good s):JS s (ofP k s):=by
 unfold ofP
 split
 ·rename_i hi
  have h0:s.hd.kind≠4:=by rw[hi]; exact hk
  exact zDf h h0
 ·trivial
theorem zFG {s:Ps}(t:Bs)(h:Good s):JS s (vX t s):=by
 unfold vX
 split
 ·rename_i hi;exact zDf h (vO hi).1
 ·trivial
theorem zAD {s:Ps}(i:Nat)(h:Good s):JS s (jS i s):=(zNo 1 (by decide) h).bind fun t s' _ h'=>zAs h' (fun _=>rfl)
theorem YC (i:Nat):zA5 (zAI i):=fun s h=>JS.at (zAD _ (vN h i 5))
theorem zCE (i:Nat):zA5 (zCt i):=fun s h=>JS.at ((zNo 2 (by decide) (vN h i 21)).bind fun t s' _ h'=>zAs h' (fun _=>rfl))
theorem zF0 {α:Type}{s:Ps}(a z:Bs){body:Pm α}(hb:∀t,Good t→t.ts.length<s.ts.length→jO t (body t))(h:Good s):JS s (jE a z body s):=by
 unfold jE
 split
 ·rename_i hi
  split
  ·trivial
  ·rename_i hd;have hk:=(vO hi).1;have AD:=h.deep;have hp:=h.pos;have g:Good { s.adv with deep:=s.deep+1 }:=⟨(h.adv hk).last,by show s.deep+1≤64; omega,h.few⟩;have AA:=hb _ g (by show s.adv.ts.length<_; rw[jW]; omega)
   cases hr:body { s.adv with deep:=s.deep+1 } with
   | err e p=>trivial
   | ok x t=>
    rw[hr] at AA;have hl:t.ts.length≤s.adv.ts.length:=AA.ts;have hn:s.nd.length≤t.nd.length:=AA.nd;have AC:t.deep=s.deep+1:=AA.deep;have AB:t.phi≤s.nd.length+2*s.adv.ts.length:=AA.phi;have AE:=jW (s:=s);have g2:∀u:Ps,Good u→u.deep=s.deep+1→Good { u with deep:=u.deep-1 }:=fun u gu hu=>⟨gu.last,by show u.deep-1≤64; omega,gu.few⟩
    show JS s (if z=[] then Res.ok x { t with deep:=t.deep-1 } else (vX z t).bind fun _ s=>.ok x { s with deep:=s.deep-1 })
    split
    ·exact⟨g2 t AA.xV AC,by show t.phi+2≤s.phi; unfold Ps.phi at AB ⊢; omega,by show t.ts.length+1≤_; omega,hn,by show t.deep-1=s.deep; omega⟩
    ·have ht:=xS z t AA.xV
     cases hq:vX z t with
     | err e p=>trivial
     | ok y u=>
      rw[hq] at ht;have h1:u.ts.length≤t.ts.length:=ht.ts;have h2:t.nd.length≤u.nd.length:=ht.nd;have h3:u.deep=t.deep:=ht.deep;have h4:u.phi≤t.phi:=ht.phi;exact⟨g2 u ht.xV (by omega),by show u.phi+2≤s.phi; unfold Ps.phi at AB h4 ⊢; omega,by show u.ts.length+1≤_; omega,by show s.nd.length≤u.nd.length; omega,by show u.deep-1=s.deep; omega⟩
 ·trivial
theorem JS.zVb {α:Type}{s:Ps}{r:Res α}(h:JS s r):jO s r:=by
 cases r with
 | ok a s'=>
  obtain⟨h1,h2,h3,h4,h5⟩:=h;exact⟨h1,by omega,by omega,h4,h5⟩
 | err _ _=>trivial
def Ex.size:Ex→Nat
 | .leaf ..=>1
 | .neg _ a=>a.size+1
 | .bin _ _ a b=>a.size+b.size+1
def zDm (s:Ps):Res Ex→Prop
 | .ok e s'=>Good s'∧s'.ts.length+e.size≤s.ts.length∧s'.nd=s.nd∧s'.deep=s.deep
 | .err _ _=>True
theorem zHS {ms:List (Bs × Nat)}{s:Ps}{k:Nat}(h:zD2 ms s=some k):s.hd.kind≠4:=by
 unfold zD2 at h
 cases hf:ms.find? fun m=>isP m.1 s with
 | none=>rw[hf] at h; cases h
 | some m=>exact(vO (t:=m.1) (List.find?_some (p:=fun m:Bs × Nat=>isP m.1 s) hf)).1
theorem zHQ {ms:List (Bs × Nat)}{part:Pm Ex}(n:Nat)(hp:∀t,Good t→t.ts.length≤n→zDm t (part t))(s:Ps):∀(f:Nat) (e:Ex) (t:Ps),Good t→t.ts.length≤n→t.ts.length+e.size≤s.ts.length→t.nd=s.nd→t.deep=s.deep→zDm s (VX ms part f e t)
 | 0,_,_,_,_,_,_,_=>trivial
 | f+1,e,t,g,hl,hs,hn,hd=>by
  unfold VX
  split
  ·exact⟨g,hs,hn,hd⟩
  ·rename_i k hk;have h4:=zHS hk;have AB:=g.pos;have AC:=jW (s:=t);have AA:=hp t.adv (g.adv h4) (by omega)
   cases hr:part t.adv with
   | err e p=>trivial
   | ok r u=>
    rw[hr] at AA;obtain⟨h1,h2,h3,h5⟩:=AA;exact zHQ n hp s f (.bin k e.pos e r) u h1 (by omega) (by show u.ts.length+(e.size+r.size+1)≤_; omega) (h3.trans hn) (h5.trans hd)
theorem zEu {ms:List (Bs × Nat)}{part:Pm Ex}(n:Nat)(hp:∀t,Good t→t.ts.length≤n→zDm t (part t)):∀s,Good s→s.ts.length≤n→zDm s (XB ms part s):=by
 intro s g hl;have AA:=hp s g hl;unfold XB
 cases hr:part s with
 | err e p=>trivial
 | ok e u=>
  rw[hr] at AA;obtain⟨h1,h2,h3,h5⟩:=AA;exact zHQ n hp s _ e u h1 (by omega) h2 h3 h5
theorem zGr {part:Pm Ex}(n:Nat)(hp:∀t,Good t→t.ts.length≤n→zDm t (part t)):∀s,Good s→s.ts.length≤n→zDm s (zEA part s):=zEu n (zEu n hp)
def zUs (s:Ps):Res Ex→Prop
 | .ok e s'=>Good s'∧s'.ts.length+e.size+1≤s.ts.length∧s'.nd=s.nd∧s'.deep=s.deep
 | .err _ _=>True
theorem zF3 {s:Ps}(a z:Bs){body:Pm Ex}(hb:∀t,Good t→t.ts.length<s.ts.length→zDm t (body t))(h:Good s):zUs s (jE a z body s):=by
 unfold jE
 split
 ·rename_i hi
  split
  ·trivial
  ·rename_i hd;have hk:=(vO hi).1;have AE:=h.deep;have hp:=h.pos;have g:Good { s.adv with deep:=s.deep+1 }:=⟨(h.adv hk).last,by show s.deep+1≤64; omega,h.few⟩;have AG:=jW (s:=s);have AA:=hb _ g (by show s.adv.ts.length<_; omega)
   cases hr:body { s.adv with deep:=s.deep+1 } with
   | err e p=>trivial
   | ok x t=>
    rw[hr] at AA;obtain⟨h1,h2,h3,h4⟩:=AA;have AH:t.ts.length+x.size≤s.adv.ts.length:=h2;have AB:t.deep=s.deep+1:=h4;have g2:∀u:Ps,Good u→u.deep=s.deep+1→Good { u with deep:=u.deep-1 }:=fun u gu hu=>⟨gu.last,by show u.deep-1≤64; omega,gu.few⟩;simp only[VN]
    split
    ·exact⟨g2 t h1 AB,by show t.ts.length+_+1≤_; omega,h3,by show t.deep-1=s.deep; omega⟩
    ·have ht:=xS z t h1
     cases hq:vX z t with
     | err e p=>trivial
     | ok y u=>
      rw[hq] at ht;have AF:u.ts.length≤t.ts.length:=ht.ts;have AD:u.deep=t.deep:=ht.deep
      have AC:u.nd=t.nd:=by
       unfold vX at hq
       split at hq
       ·injection hq with _ e2;rw[←e2]; rfl
       ·cases hq
      exact⟨g2 u ht.xV (by omega),by show u.ts.length+_+1≤_; omega,AC.trans h3,by show u.deep-1=s.deep; omega⟩
 ·trivial
theorem JU:∀(f:Nat) (s:Ps),Good s→s.ts.length≤f→zDm s (vM f s)
 | 0,s,g,hl=>absurd g.pos (by omega)
 | f+1,s,g,hl=>by
  have hp:=g.pos;have AA:=jW (s:=s);unfold vM
  split
  ·rename_i hk;exact⟨g.adv (by omega),by show s.adv.ts.length+1≤_; omega,rfl,rfl⟩
  ·split
   ·rename_i hk;exact⟨g.adv (by omega),by show s.adv.ts.length+1≤_; omega,rfl,rfl⟩
   ·split
    ·have h:=zF3 [45] [] (body:=vM f) (fun t gt ht=>JU f t gt (by omega)) g
     cases hr:jE [45] [] (vM f) s with
     | err e p=>trivial
     | ok a t=>
      rw[hr] at h;obtain⟨h1,h2,h3,h4⟩:=h;exact⟨h1,by show t.ts.length+(a.size+1)≤_; omega,h3,h4⟩
    ·have h:=zF3 [40] [41] (body:=zEA (vM f)) (fun t gt ht=>zGr f (fun t gt ht=>JU f t gt ht) t gt (by omega)) g
     cases hr:jE [40] [41] (zEA (vM f)) s with
     | err e p=>trivial
     | ok a t=>
      rw[hr] at h;obtain⟨h1,h2,h3,h4⟩:=h;exact⟨h1,by omega,h3,h4⟩
theorem zHM (s:Ps)(g:Good s):zDm s (zPX s):=zGr _ (fun t gt ht=>JU _ t gt ht) s g (zX _)
theorem zBG (s:Ps)(i:Nat)(n:Nd):((s.kid i).add n).nd.length=s.nd.length+1:=by
 show((s.kid i).nd++[_]).length=_
 rw[yP]
 show(s.on i _).nd.length+1=_
 rw[zDW]
theorem zCy:∀(e:Ex) (i:Nat) (s:Ps),(zBT i e s).nd.length=s.nd.length+e.size∧(zBT i e s).ts=s.ts∧(zBT i e s).deep=s.deep
 | .leaf k p t n,i,s=>⟨zBG s i _,rfl,rfl⟩
 | .neg p a,i,s=>by
  obtain⟨h1,h2,h3⟩:=zCy a s.nd.length ((s.kid i).add ⟨26,p,[],0,[]⟩);refine⟨?_,h2,h3⟩
  show(zBT s.nd.length a _).nd.length=s.nd.length+(a.size+1)
  rw[h1,zBG];omega
 | .bin k p a b,i,s=>by
  obtain⟨h1,h2,h3⟩:=zCy a s.nd.length ((s.kid i).add ⟨k,p,[],0,[]⟩);obtain⟨h4,h5,h6⟩:=zCy b s.nd.length (zBT s.nd.length a ((s.kid i).add ⟨k,p,[],0,[]⟩));refine⟨?_,h5.trans h2,h6.trans h3⟩
  show(zBT s.nd.length b _).nd.length=s.nd.length+(a.size+b.size+1)
  rw[h4,h1,zBG];omega
theorem zFK:∀(e:Ex) (i:Nat) (s:Ps),(∀n ∈ s.nd,n.kids.length≤s.nd.length)→∀n ∈ (zBT i e s).nd,n.kids.length≤(zBT i e s).nd.length
 | .leaf k p t n,i,s,h=>zBv h i _ rfl
 | .neg p a,i,s,h=>zFK a _ _ (zBv h i _ rfl)
 | .bin k p a b,i,s,h=>zFK b _ _ (zFK a _ _ (zBv h i _ rfl))
theorem ZX (i:Nat):zA5 (zAC i):=by
 intro s g;unfold zAC;have h:=zHM s g
 cases hr:zPX s with
 | err e p=>trivial
 | ok e t=>
  rw[hr] at h;obtain⟨h1,h2,h3,h4⟩:=h;obtain⟨p1,p2,p3⟩:=zCy e i t;refine⟨⟨by rw[p2]; exact h1.last,by rw[p3]; exact h1.deep,zFK e i t h1.few⟩,?_,by rw[p2]; omega,by rw[p1,h3]; omega,by rw[p3,h4]⟩;unfold Ps.phi;rw[p1,p2,h3];omega
theorem zKx {one:Pm Unit}(h:zA5 one):∀f,zA5 (zBE one f)
 | 0=>fun _ _=>trivial
 | f+1=>fun s g=>by
  unfold zBE
  split
  ·rename_i hi;have hk:=(vO hi).1;exact jO.trans (VH g hk) ((h _ (g.adv hk)).bind fun _ t _ gt=>zKx h f t gt)
  ·exact ZI.refl g
theorem zBp {one:Pm Unit}(h:zA5 one):zA5 (zAg one):=fun s g=>(h s g).bind fun _ t _ gt=>zKx h _ t gt
theorem zHG (i:Nat):zA5 (zGg i):=fun s g=>(zF0 [91] [93] (fun t gt _=>ZX i t gt) g).zVb
theorem zEH (i:Nat):zA5 (zJt i):=fun s g=>JS.at ((zAD _ (vN g i 20)).bind fun _ t _ gt=>zHG _ t gt)
theorem zE1 (i:Nat):zA5 (zIC i):=fun s g=>(zEH i s g).bind fun _ t _ gt=>(xS _ t gt).bind fun _ t _ gt=>YC i t gt
theorem zQj (i:Nat):zA5 (zKS i):=fun s g=>(ZT i s g).bind fun _ t _ gt=>(xS _ t gt).bind fun _ t _ gt=>(zE1 i t gt).bind fun _ t _ gt=>by
 split
 ·rename_i hi;exact jO.trans (VH gt (vO hi).1) ((xS _ _ (gt.adv (vO hi).1)).bind fun _ t _ gt=>zAs gt (fun _=>rfl))
 ·exact ZI.refl gt
theorem zSH (i:Nat):zA5 (zQt i):=fun s g=>(zE1 i s g).bind fun _ t _ gt=>(xS _ t gt).bind fun _ t _ gt=>ZX i t gt
theorem zNI (i:Nat):zA5 (zE3 i):=fun s g=>(zEH i s g).bind fun _ t _ gt=>(xS _ t gt).bind fun _ t _ gt=>(zBp (ZX i) t gt).bind fun _ t _ gt=>xS _ t gt
theorem zQ0 (i:Nat):zA5 (zJ7 i):=fun s g=>(ZT i s g).bind fun _ t _ gt=>(xS _ t gt).bind fun _ t _ gt=>(YC i t gt).bind fun _ t _ gt=>(xS _ t gt).bind fun _ t _ gt=>YC i t gt
theorem zPY (i:Nat):zA5 (zKg i):=fun s g=>(YC i s g).bind fun _ t _ gt=>by
 split
 ·rename_i hi;exact(VH gt (vO hi).1).trans (zAs (gt.adv (vO hi).1) (fun _=>rfl))
 ·exact xS _ t gt
theorem zLc (i:Nat):zA5 (zDt i):=fun s g=>JS.at ((zAD _ (vN g i 5)).bind fun _ t _ gt=>by
 split
 ·have l1:ZI t (t.kind s.nd.length 20):=zAs gt (fun _=>rfl);exact jO.trans l1 (zHG _ _ l1.xV)
 ·exact ZI.refl gt)
theorem zRF (i:Nat):zA5 (zPK i):=fun s g=>(ZT i s g).bind fun _ t _ gt=>(xS _ t gt).bind fun _ t _ gt=>ZX i t gt
theorem zQo (i:Nat):zA5 (zFf i):=fun s g=>by
 unfold zFf
 split
 ·rename_i hi;exact(VH g (vO hi).1).trans (zAs (g.adv (vO hi).1) (fun _=>rfl))
 ·exact xS _ s g
def zDA (n:Nat)(st:Nat→Pm Unit):Prop:=∀i s,Good s→s.ts.length≤n→jO s (st i s)
theorem zFy {n:Nat}{st:Nat→Pm Unit}(h:zDA n st)(i:Nat):∀f s,Good s→s.ts.length≤n→jO s (XA st i f s)
 | 0,_,_,_=>trivial
 | f+1,s,g,hl=>by
  unfold XA
  split
  ·exact ZI.refl g
  ·have h1:=h i s g hl
   cases hr:st i s with
   | err e p=>trivial
   | ok a t=>
    rw[hr] at h1
    have:=h1.ts
    exact jO.trans h1 (zFy h i f t h1.xV (by omega))
theorem JX {n:Nat}{st:Nat→Pm Unit}(h:zDA n st)(i:Nat)(s:Ps)(g:Good s)(hl:s.ts.length≤n+1):jO s (zAV st i s):=
 JS.at (zF0 [123] [125] (fun t gt ht=>zFy h _ _ t gt (by rw[YS] at ht; omega)) (vN g i 6))
theorem zP5 {n:Nat}{st:Nat→Pm Unit}(h:zDA n st)(i:Nat)(s:Ps)(g:Good s)(hl:s.ts.length≤n+1):jO s (zGM st i s):=by
 unfold zGM
 split
 ·rename_i hi;have hk:=(vO hi).1;have AA:=jW (s:=s);exact jO.trans (VH g hk) (JX h i _ (g.adv hk) (by omega))
 ·exact ZI.refl g
theorem jO.zFX {α β:Type}{s:Ps}{r:Res α}{f:α→Ps→Res β}(h:jO s r)(k:∀a s',Good s'→s'.ts.length≤s.ts.length→jO s' (f a s')):jO s (r.bind f):=by
 cases r with
 | ok a s'=>exact jO.trans h (k a s' h.xV h.ts)
 | err e p=>trivial
theorem zM0 {n:Nat}{st:Nat→Pm Unit}(h:zDA n st)(i:Nat)(s:Ps)(g:Good s)(hl:s.ts.length≤n+1):jO s (zDu st i s):=
 (ZX i s g).zFX fun _ t gt l1=>(zQo i t gt).zFX fun _ t gt l2=>(ZX i t gt).zFX fun _ t gt l3=>(JX h i t gt (by omega)).zFX fun _ t gt l4=>zP5 h i t gt (by omega)
theorem zQQ {n:Nat}{st:Nat→Pm Unit}(h:zDA n st)(i:Nat)(s:Ps)(g:Good s)(hl:s.ts.length≤n+1):jO s (zGs st i s):=
 (ZT i s g).zFX fun _ t gt l1=>(xS _ t gt).zFX fun _ t gt l2=>(zCE i t gt).zFX fun _ t gt l3=>(xS _ t gt).zFX fun _ t gt l4=>(zCE i t gt).zFX fun _ t gt l5=>JX h i t gt (by omega)
theorem zDG {n:Nat}{st:Nat→Pm Unit}(h:zDA n st)(k i:Nat)(s:Ps)(g:Good s)(hl:s.ts.length≤n+1):jO s (VK st k i s):=by
 unfold VK
 split
 ·exact zQj i s g
 split
 ·exact zSH i s g
 split
 ·exact zNI i s g
 split
 ·exact zEH i s g
 split
 ·exact zQ0 i s g
 split
 ·exact zPY i s g
 split
 ·exact zLc i s g
 split
 ·exact zM0 h i s g hl
 split
 ·exact zQQ h i s g hl
 split
 ·exact zRF i s g
 split
 ·exact ZX i s g
 ·exact ZI.refl g
theorem zAE:∀f,zDA f (YP f)
 | 0,_,_,_,_=>trivial
 | f+1,i,s,g,hl=>by
  unfold YP
  split
  ·trivial
  ·rename_i k hk
   have h1:s.hd.kind=1:=by
    split at hk
    ·assumption
    ·cases hk
   have h4:(s.xI i k).hd.kind≠4:=by show s.hd.kind≠4; omega
   refine JS.at (i:=i) (k:=k) ?_;refine JS.bind (r:=.ok () (s.xI i k).adv) (zDf (vN g i k) h4) (f:=fun _ t=>(VK (YP f) k s.nd.length t).bind fun _ s=>if k=14∨k=15 then .ok () s else vX [59] s) ?_;intro _ t ht gt;injection ht with _ ht;have AA:=jW (s:=s.xI i k);rw[YS] at AA
   have:=g.pos
   refine(zDG (zAE f) k _ t gt (by rw[←ht,AA]; omega)).bind fun _ u _ gu=>?_
   split
   ·exact ZI.refl gu
   ·exact xS _ u gu
theorem zCJ (i:Nat):zA5 (zEf i):=fun s g=>JX (zAE s.ts.length) i s g (by omega)
theorem zIw (i:Nat):zA5 (zCV i):=fun s g=>JS.at ((zFG _ (vN g i 2)).bind fun _ t _ gt=>(ZT _ t gt).bind fun _ t _ gt=>(xS _ t gt).bind fun _ t _ gt=>(zBp (YC _) t gt).bind fun _ t _ gt=>(xS _ t gt).bind fun _ t _ gt=>xS _ t gt)
theorem zGR (i:Nat):zA5 (zAd i):=fun s g=>by
 unfold zAd
 split
 ·rename_i hi;exact(VH g (vO hi).1).trans (zAs (g.adv (vO hi).1) (fun _=>rfl))
 ·exact ZI.refl g
end Go.Proofs.YtbadjmmjbpeocaaGreat
namespace Go.Proofs.YtbadjmmjbpeocaaGreat
open Go Go.RowKit
abbrev Hd2:=Option Addr × Nat
def ints (l:List Nat):List Value:=l.map fun (k:Nat)=>Value.int .i64 (k:Int)
def YM (x:Nd × Hd2):List Value:=[.int .u8 (x.1.kind:Int),.int .i64 (x.1.pos:Int),.string (xG x.1.text),.int .i64 x.1.num,.slice x.2.1 x.1.kids.length x.2.2]
def ncs (l:List (Nd × Hd2)):List Value:=l.flatMap YM
theorem vK (l:List Nat):(ints l).length=l.length:=by simp[ints]
theorem zPy (l:List Nat)(k:Nat):ints (l++[k])=ints l++[.int .i64 (k:Int)]:=by simp[ints]
theorem zSE (l:List (Nd × Hd2))(x:Nd × Hd2):ncs (l++[x])=ncs l++YM x:=by unfold ncs; simp
theorem zUH (l:List (Nd × Hd2)):∀(i:Nat) (hi:i<l.length) (j:Nat),j<5→(ncs l)[i*5+j]?=(YM l[i])[j]?:=by
 induction l with
 | nil=>intro i hi; simp at hi
 | cons x l ih=>
  intro i hi j hj
  show(YM x++ncs l)[i*5+j]?=_
  match i,hi with
  | 0,_=>rw[Nat.zero_mul,Nat.zero_add,List.getElem?_append_left (by show j<5; exact hj)]; rfl
  | i+1,hi=>
   have e:(i+1)*5+j=5+(i*5+j):=by omega
   rw[e,List.getElem?_append_right (by show 5≤_; omega),show 5+(i*5+j)-(YM x).length=i*5+j from by show 5+(i*5+j)-5=_; omega];exact ih i (by simpa using hi) j hj
theorem zId (l:List (Nd × Hd2))(i:Nat)(hi:i<l.length)(j:Nat)(hj:j<5)(u:Value)(f:Nd × Hd2→Nd × Hd2)(hf:YM (f l[i])=(YM l[i]).set j u):ncs (l.modify i f)=(ncs l).set (i*5+j) u:=by
 induction l generalizing i with
 | nil=>simp at hi
 | cons x l ih=>
  match i,hi with
  | 0,_=>
   simp only[List.getElem_cons_zero] at hf;rw[List.modify_zero_cons]
   show YM (f x)++ncs l=(YM x++ncs l).set (0*5+j) u
   rw[hf,Nat.zero_mul,Nat.zero_add,List.set_append_left _ _ (by show j<5; exact hj)]
  | i+1,hi=>
   rw[List.modify_succ_cons]
   show YM x++ncs (l.modify i f)=(YM x++ncs l).set ((i+1)*5+j) u
   rw[ih i (by simpa using hi) (by simpa using hf),List.set_append_right _ _ (by show 5≤_; omega)]
   congr 2
   show _=(i+1)*5+j-5
   omega
structure NS (w:World)(B:Nat)(tn ti:TypeId)(A:Option Addr)(c:Nat)(nh:List (Nd × Hd2)):Prop where
 row:w.ownsRow B tn 5 (.slice A nh.length c) nh.length (ncs nh)
 kids:∀x ∈ nh,w.ownsRow B ti 1 (.slice x.2.1 x.1.kids.length x.2.2) x.1.kids.length (ints x.1.kids)
 apart:∀(i j:Nat) (hi:i<nh.length) (hj:j<nh.length),nh[i].2.1=nh[j].2.1→nh[i].2.1≠none→i=j
 rz:nh.length=0→c=0
 kz:∀x ∈ nh,x.1.kids.length=0→x.2.2=0
def zG3 (A:Option Addr)(nh:List (Nd × Hd2))(b:Nat):Prop:=A=some ⟨b,0,none⟩∨some (⟨b,0,none⟩:Addr) ∈ nh.map fun x=>x.2.1
structure xC (w:World)(M:Nat→Prop)(w':World)(M':Nat→Prop):Prop where
 os:w'.os=w.os
 tape:w'.tape=w.tape
 output:w'.output=w.output
 size:w.heap.size≤w'.heap.size
 jL:∀b,b<w.heap.size→¬M b→w'.heap[b]?=w.heap[b]?
 zDI:∀b,M' b→M b∨w.heap.size≤b
theorem xC.refl (w:World)(M:Nat→Prop):xC w M w M:=⟨rfl,rfl,rfl,zX _,fun _ _ _=>rfl,fun _ h=>.inl h⟩
theorem xC.trans {w w1 w2:World}{M M1 M2:Nat→Prop}(h:xC w M w1 M1)(k:xC w1 M1 w2 M2):xC w M w2 M2:=by
 refine⟨k.os.trans h.os,k.tape.trans h.tape,k.output.trans h.output,Nat.le_trans h.size k.size,fun b hb hM=>?_,fun b hb=>?_⟩
 ·rw[k.jL b (yU hb h.size) (fun h1=>by rcases h.zDI b h1 with h2 | h2 <;> first | exact hM h2 | omega)]
  exact h.jL b hb hM
 ·rcases k.zDI b hb with h1 | h1
  ·exact h.zDI b h1
  ·exact .inr (Nat.le_trans h.size h1)
theorem xC.ext {w w':World}{M:Nat→Prop}(h:Ext w w'):xC w M w' M:=⟨h.os,h.tape,h.output,h.size,fun b hb _=>h.block b hb,fun _ h=>.inl h⟩
theorem xC.below {w w':World}{M M':Nat→Prop}{B:Nat}(h:xC w M w' M')(hM:∀b,M b→B≤b)(hB:B≤w.heap.size):Below B w w':=⟨h.os,h.tape,h.output,h.size,fun b hb=>h.jL b (by omega) (fun hm=>by have:=hM b hm; omega)⟩
def Safe (w:World)(M:Nat→Prop)(g:Nat)(t:TypeId)(cs:Array Value):Prop:=Blk w g t cs∧¬M g
theorem Safe.xE {w w':World}{M M':Nat→Prop}{g:Nat}{t:TypeId}{cs:Array Value}(h:Safe w M g t cs)(k:xC w M w' M'):Safe w' M' g t cs:=
 ⟨(k.jL g h.1.lt h.2).trans h.1,fun h1=>by rcases k.zDI g h1 with h2 | h2 <;> first | exact h.2 h2 | (have:=h.1.lt; omega)⟩
def XF (w:World)(M:Nat→Prop)(A:Option Addr)(cs:List Value):Prop:=cs=[]∨∃b off,A=some ⟨b,off,none⟩∧b<w.heap.size∧¬M b∧∀k,k<cs.length→w.cell? ⟨b,off+k,none⟩=cs[k]?
theorem XF.cells {w:World}{M:Nat→Prop}{A:Option Addr}{cs:List Value}(h:XF w M A cs):Cells w A cs:=by
 rcases h with h | ⟨b,AA,h1,h2,_,h3⟩
 ·exact .inl h
 ·exact .inr ⟨b,AA,h1,h2,h3⟩
theorem XF.xE {w w':World}{M M':Nat→Prop}{A:Option Addr}{cs:List Value}(h:XF w M A cs)(k:xC w M w' M'):XF w' M' A cs:=by
 rcases h with h | ⟨b,AA,h1,h2,h3,h4⟩
 ·exact .inl h
 ·refine .inr ⟨b,AA,h1,yU h2 k.size,fun h5=>by rcases k.zDI b h5 with h6 | h6 <;> first | exact h3 h6 | omega,fun j hj=>?_⟩
  rw[World.cell?_of_block (w:=w) (k.jL b h2 h3)];exact h4 j hj
theorem jD {w:World}{B:Nat}{t:TypeId}{s n c m:Nat}{A:Option Addr}{xs:List Value}(h:w.ownsRow B t s (.slice A m c) n xs){b:Nat}(e:A=some ⟨b,0,none⟩):B≤b∧b<w.heap.size:=by
 rcases h.2 with ⟨hv,_⟩ | ⟨g,cap,AA,hv,hb,hh,_⟩
 ·rw[e] at hv; cases hv
 ·rw[e] at hv;injection hv with h1;injection h1 with h1;injection h1 with h1;subst h1;exact⟨hb,(Array.getElem?_eq_some_iff.1 hh).1⟩
theorem vA {w:World}{B:Nat}{t:TypeId}{s n c m:Nat}{A:Option Addr}{xs:List Value}(h:w.ownsRow B t s (.slice A m c) n xs){b:Nat}(e:A=some ⟨b,0,none⟩):∃cur,Blk w b t cur:=by
 rcases h.2 with ⟨hv,_⟩ | ⟨g,cap,cur,hv,hb,hh,_⟩
 ·rw[e] at hv; cases hv
 ·rw[e] at hv;injection hv with h1;injection h1 with h1;injection h1 with h1;subst h1;exact⟨cur,hh⟩
theorem zAO {w:World}{B:Nat}{t:TypeId}{s n c m:Nat}{A:Option Addr}{xs:List Value}(h:w.ownsRow B t s (.slice A m c) n xs):A=none∨∃b,A=some ⟨b,0,none⟩:=by
 rcases h.2 with ⟨hv,_⟩ | ⟨g,cap,AA,hv,hb,hh,_⟩
 ·injection hv with h1; exact .inl h1
 ·injection hv with h1; exact .inr ⟨g,h1⟩
theorem NS.ZW {w:World}{B:Nat}{tn ti:TypeId}{A:Option Addr}{c:Nat}{nh:List (Nd × Hd2)}(h:NS w B tn ti A c nh){b:Nat}(hb:zG3 A nh b):B≤b∧b<w.heap.size:=by
 rcases hb with hb | hb
 ·exact jD h.row hb
 ·obtain⟨x,hx,e⟩:=List.mem_map.1 hb;exact jD (h.kids x hx) e
theorem NS.zDr {w:World}{B:Nat}{tn ti:TypeId}{A:Option Addr}{c:Nat}{nh:List (Nd × Hd2)}(h:NS w B tn ti A c nh){g:Nat}{t:TypeId}{cs:Array Value}(hg:Blk w g t cs)(h1:t≠tn)(h2:t≠ti):¬zG3 A nh g:=by
 rintro (hb | hb)
 ·obtain⟨AA,hc⟩:=vA h.row hb;exact Blk.differ hg hc h1 rfl
 ·obtain⟨x,hx,e⟩:=List.mem_map.1 hb;obtain⟨AA,hc⟩:=vA (h.kids x hx) e;exact Blk.differ hg hc h2 rfl
theorem NS.jL {w w':World}{B:Nat}{tn ti:TypeId}{A:Option Addr}{c:Nat}{nh:List (Nd × Hd2)}(h:NS w B tn ti A c nh)(hk:∀b,zG3 A nh b→w'.heap[b]?=w.heap[b]?):NS w' B tn ti A c nh:=by
 refine⟨⟨h.row.1,?_⟩,fun x hx=>⟨(h.kids x hx).1,?_⟩,h.apart,h.rz,h.kz⟩
 ·rcases h.row.2 with hn | ⟨g,cap,AA,hv,hb,hh,r⟩
  ·exact .inl hn
  ·injection hv with e1 e2 e3;exact .inr ⟨g,cap,AA,by rw[e1,e3],hb,(hk g (.inl e1)).trans hh,r⟩
 ·rcases(h.kids x hx).2 with hn | ⟨g,cap,AA,hv,hb,hh,r⟩
  ·exact .inl hn
  ·injection hv with e1 e2 e3;exact .inr ⟨g,cap,AA,by rw[e1,e3],hb,(hk g (.inr (by rw[←e1]; exact List.mem_map.2 ⟨x,hx,rfl⟩))).trans hh,r⟩
theorem NS.ext {w w':World}{B:Nat}{tn ti:TypeId}{A:Option Addr}{c:Nat}{nh:List (Nd × Hd2)}(h:NS w B tn ti A c nh)(hx:Ext w w'):NS w' B tn ti A c nh:=h.jL fun b hb=>hx.block b (h.ZW hb).2
theorem zFC {w w':World}{b1:Nat}{t1:TypeId}{s1 n1 c1:Nat}{A1:Option Addr}{xs1:List Value}{o:Option Nat}(h1:w.ownsRow b1 t1 s1 (.slice A1 n1 c1) n1 xs1)(hg:w.grownBy w' o)(hne:∀b,A1=some ⟨b,0,none⟩→o≠some b):w'.ownsRow b1 t1 s1 (.slice A1 n1 c1) n1 xs1:=by
 refine h1.kept hg ?_
 rcases zAO h1 with e | ⟨b,e⟩
 ·rw[e]; exact .inl rfl
 ·refine .inr fun e2=>hne b e ?_;rw[←e2,e]
  rfl
theorem zJJ {A:Option Addr}{n c b:Nat}(h:(Value.slice A n c).ownBlock=some b):∃a,A=some a∧a.block=b:=by
 cases A with
 | none=>cases h
 | some a=>exact⟨a,rfl,by simpa [Value.ownBlock] using h⟩
theorem xP {w:World}{B:Nat}{t:TypeId}{s n c m:Nat}{A:Option Addr}{xs:List Value}(h:w.ownsRow B t s (.slice A m c) n xs){b:Nat}(e:(Value.slice A m c).ownBlock=some b):A=some ⟨b,0,none⟩:=by
 obtain⟨a,ea,eb⟩:=zJJ e
 rcases zAO h with e0 | ⟨b',e0⟩
 ·rw[e0] at ea; cases ea
 ·rw[e0] at ea ⊢;injection ea with ea;subst ea
  simp only at eb
  rw[eb]
theorem NS.snoc {w w':World}{B:Nat}{tn ti:TypeId}{A:Option Addr}{c:Nat}{nh:List (Nd × Hd2)}(h:NS w B tn ti A c nh)(hne:tn≠ti)(x:Nd)(hx:x.kids=[]){g cap:Nat}
  (ho:w'.ownsRow B tn 5 (.slice (some ⟨g,0,none⟩) (nh.length+1) cap) (nh.length+1) (ncs nh++YM (x,(none,0)))) (hg:w.grownBy w' (Value.slice A nh.length c).ownBlock):NS w' B tn ti (some ⟨g,0,none⟩) cap (nh++[(x,(none,0))]):=by
 refine⟨by rw[zSE,yP]; exact ho,fun y hy=>?_,fun i j hi hj he hn=>?_,fun h0=>by simp at h0,fun y hy h0=>?_⟩
 ·rcases List.mem_append.1 hy with hy | hy
  ·refine zFC (h.kids y hy) hg fun b e e2=>?_;obtain⟨AC,hc⟩:=vA (h.kids y hy) e;exact XV h.row hc hne e2
  ·have:=List.mem_singleton.1 hy
   subst this
   show w'.ownsRow B ti 1 (.slice none x.kids.length 0) x.kids.length (ints x.kids)
   rw[hx];exact zR _ _ _ _
 ·rw[yP] at hi hj;simp only[zK,zL,Nat.zero_add] at hi hj
  by_cases AB:i<nh.length
  ·rw[List.getElem_append_left AB] at he hn
   by_cases AA:j<nh.length
   ·rw[List.getElem_append_left AA] at he;exact h.apart i j AB AA he hn
   ·exfalso
    apply hn;rw[he,List.getElem_append_right (by omega)]
    simp
  ·exfalso
   apply hn;rw[List.getElem_append_right (by omega)]
   simp
 ·rcases List.mem_append.1 hy with hy | hy
  ·exact h.kz y hy h0
  ·rw[List.mem_singleton.1 hy]
theorem zHH {w:World}{base g n m c k sz:Nat}{e:TypeId}{xs:List Value}(h:w.ownsRow base e sz (.slice (some ⟨g,0,none⟩) m c) n xs)(hk:k<n*sz)(u:Value):(w.setCell ⟨g,k,none⟩ u).ownsRow base e sz (.slice (some ⟨g,0,none⟩) m c) n (xs.set k u):=by
 refine⟨by rw[zB]; exact h.1,?_⟩
 rcases h.2 with ⟨hv,_⟩ | ⟨g',cap,AA,hv,hb,hh,h1,h2,h3,h4⟩
 ·cases hv
 ·injection hv with e1 e2 e3;injection e1 with e1;injection e1 with e1;subst e1 e3;refine .inr ⟨g,c,AA.setIfInBounds k u,by rw[e2],hb,?_,h1,h2,by simpa using h3,?_⟩
  ·simp[World.setCell,Array.getElem?_modify,hh]
  ·rw[Array.toList_setIfInBounds,List.take_set,h4]
theorem zAz {w:World}{b1 g:Nat}{t1:TypeId}{s1 n1:Nat}{v1:Value}{xs1:List Value}{t:TypeId}{cs:Array Value}(h1:w.ownsRow b1 t1 s1 v1 n1 xs1)(h2:Blk w g t cs)(ht:t1≠t)(k:Nat)(u:Value):(w.setCell ⟨g,k,none⟩ u).ownsRow b1 t1 s1 v1 n1 xs1:=zPr h1 (XV h1 h2 ht) u
theorem NS.put {w:World}{B:Nat}{tn ti:TypeId}{A:Option Addr}{c:Nat}{nh:List (Nd × Hd2)}(h:NS w B tn ti A c nh)(hne:tn≠ti)(i:Nat)(hi:i<nh.length)(j:Nat)(hj:j<5)(u:Value)(f:Nd→Nd)(hk:∀x,(f x).kids=x.kids)(hf:YM (f nh[i].1,nh[i].2)=(YM nh[i]).set j u){g:Nat}(hA:A=some ⟨g,0,none⟩) :
  NS (w.setCell ⟨g,i*5+j,none⟩ u) B tn ti A c (nh.modify i fun x=>(f x.1,x.2)):=by
 subst hA;obtain⟨AB,hc⟩:=vA h.row rfl;refine⟨?_,fun y hy=>?_,fun a b ha hb he hn=>?_,fun h0=>h.rz (by rw[List.length_modify] at h0; exact h0),fun y hy h0=>?_⟩
 ·rw[List.length_modify,zId nh i hi j hj u _ hf];exact zHH h.row (by omega) u
 ·obtain⟨a,ha,rfl⟩:=List.mem_iff_getElem.1 hy;rw[List.length_modify] at ha;have hb:=zAz (h.kids _ (yO ha)) hc (Ne.symm hne) (i*5+j) u;rw[List.getElem_modify]
  split
  ·simp only[hk];exact hb
  ·exact hb
 ·rw[List.length_modify] at ha hb
  have e:∀(a:Nat) (ha:a<nh.length),((nh.modify i fun x=>(f x.1,x.2))[a]'(by rw[List.length_modify]; exact ha)).2.1=nh[a].2.1:=fun a ha=>by
   rw[List.getElem_modify]; split <;> rfl
  rw[e a ha,e b hb] at he;rw[e a ha] at hn;exact h.apart a b ha hb he hn
 ·obtain⟨a,ha,rfl⟩:=List.mem_iff_getElem.1 hy;rw[List.length_modify] at ha;rw[List.getElem_modify] at h0 ⊢
  split
  ·rename_i AA;rw[if_pos AA] at h0;simp only[hk] at h0;exact h.kz nh[a] (yO ha) h0
  ·rename_i AA;rw[if_neg AA] at h0;exact h.kz _ (yO ha) h0
theorem zRD {A:Option Addr}{nh:List (Nd × Hd2)}(i:Nat)(f:Nd→Nd)(b:Nat)(hb:zG3 A (nh.modify i fun x=>(f x.1,x.2)) b):zG3 A nh b:=by
 rcases hb with hb | hb
 ·exact .inl hb
 ·refine .inr ?_;obtain⟨x,hx,e⟩:=List.mem_map.1 hb;obtain⟨a,ha,rfl⟩:=List.mem_iff_getElem.1 hx;rw[List.length_modify] at ha;rw[List.getElem_modify] at e;refine List.mem_map.2 ⟨nh[a],yO ha,?_⟩
  split at e <;> exact e
theorem NS.kid {W w1:World}{B:Nat}{tn ti:TypeId}{A:Option Addr}{c:Nat}{nh:List (Nd × Hd2)}(h:NS W B tn ti A c nh)(hne:tn≠ti)(i:Nat)(hi:i<nh.length)(k:Nat){g gk cap:Nat}(hA:A=some ⟨g,0,none⟩)
  (ho:w1.ownsRow B ti 1 (.slice (some ⟨gk,0,none⟩) (nh[i].1.kids.length+1) cap) (nh[i].1.kids.length+1) (ints nh[i].1.kids++[.int .i64 (k:Int)])) (hg:W.grownBy w1 (Value.slice nh[i].2.1 nh[i].1.kids.length nh[i].2.2).ownBlock)
  (hf:(Value.slice nh[i].2.1 nh[i].1.kids.length nh[i].2.2).ownBlock=some gk∨W.heap.size≤gk) :
  NS (w1.setCell ⟨g,i*5+4,none⟩ (.slice (some ⟨gk,0,none⟩) (nh[i].1.kids.length+1) cap)) B tn ti A c (nh.modify i fun x=>({ x.1 with kids:=x.1.kids++[k] },(some ⟨gk,0,none⟩,cap))):=by
 subst hA
 have AB:=zFC h.row hg fun b e e2=>by
  have e3:=xP (h.kids _ (yO hi)) e2;obtain⟨c1,h1⟩:=vA h.row e;obtain⟨c2,h2⟩:=vA (h.kids _ (yO hi)) e3;exact Blk.differ h1 h2 hne rfl
 obtain⟨AD,hc⟩:=vA AB rfl;refine⟨?_,fun y hy=>?_,fun a b ha hb he hn=>?_,fun h0=>h.rz (by rw[List.length_modify] at h0; exact h0),fun y hy h0=>?_⟩
 ·rw[List.length_modify,zId nh i hi 4 (by decide) (.slice (some ⟨gk,0,none⟩) (nh[i].1.kids.length+1) cap) _ (by simp[YM])];exact zHH AB (by omega) _
 ·obtain⟨a,ha,rfl⟩:=List.mem_iff_getElem.1 hy;rw[List.length_modify] at ha;rw[List.getElem_modify]
  split
  ·rename_i AA;subst AA;have hb:=zAz ho hc (Ne.symm hne) (i*5+4) (.slice (some ⟨gk,0,none⟩) (nh[i].1.kids.length+1) cap);rw[←zPy] at hb;simp only[yP,zK,zL,Nat.zero_add];exact hb
  ·rename_i AA;refine zAz (zFC (h.kids _ (yO ha)) hg fun b e e2=>?_) hc (Ne.symm hne) _ _;have e3:=xP (h.kids _ (yO hi)) e2;exact AA (h.apart i a hi ha (e3.trans e.symm) (by rw[e3]; simp))
 ·rw[List.length_modify] at ha hb
  have AC:∀(a:Nat) (ha:a<nh.length),i≠a→nh[a].2.1≠some ⟨gk,0,none⟩:=by
   intro a ha AA e
   rcases hf with hf | hf
   ·have e3:=xP (h.kids _ (yO hi)) hf;exact AA (h.apart i a hi ha (e3.trans e.symm) (by rw[e3]; simp))
   ·have:=(jD (h.kids _ (yO ha)) e).2
    omega
  rw[List.getElem_modify,List.getElem_modify] at he;rw[List.getElem_modify] at hn
  split at he <;> split at he
  ·omega
  ·rename_i h1 h2;exact absurd he.symm (AC b hb h2)
  ·rename_i h1 h2;exact absurd he (AC a ha h1)
  ·rename_i h1 h2;rw[if_neg h1] at hn;exact h.apart a b ha hb he hn
 ·obtain⟨a,ha,rfl⟩:=List.mem_iff_getElem.1 hy;rw[List.length_modify] at ha;rw[List.getElem_modify] at h0 ⊢
  split
  ·rename_i AA;rw[if_pos AA] at h0
   simp at h0
  ·rename_i AA;rw[if_neg AA] at h0;exact h.kz _ (yO ha) h0
theorem zRt {W:World}{B:Nat}{tn ti:TypeId}{A:Option Addr}{c:Nat}{nh:List (Nd × Hd2)}(h:NS W B tn ti A c nh){i:Nat}(hi:i<nh.length)(f:Nd→Nd){gk cap:Nat}
  (hf:(Value.slice nh[i].2.1 nh[i].1.kids.length nh[i].2.2).ownBlock=some gk∨W.heap.size≤gk) (b:Nat) (hb:zG3 A (nh.modify i fun x=>(f x.1,(some ⟨gk,0,none⟩,cap))) b):zG3 A nh b∨W.heap.size≤b:=by
 rcases hb with hb | hb
 ·exact .inl (.inl hb)
 ·obtain⟨x,hx,e⟩:=List.mem_map.1 hb;obtain⟨a,ha,rfl⟩:=List.mem_iff_getElem.1 hx;rw[List.length_modify] at ha;rw[List.getElem_modify] at e
  split at e
  ·injection e with e;injection e with e;subst e
   rcases hf with hf | hf
   ·exact .inl (.inr (List.mem_map.2 ⟨nh[i],yO hi,xP (h.kids _ (yO hi)) hf⟩))
   ·exact .inr hf
  ·exact .inl (.inr (List.mem_map.2 ⟨nh[a],yO ha,e⟩))
def zT1:Value→Option (DataW Value × List MemPlace):=fun v=>some (.held v,[])
def MF (P:Program)(kt:TypeId)(w:World)(b n:Nat)(f:Bs→Option Value):Prop:=
 ∃D:DataW Value,w.ownsMap P kt zT1 b n D∧Maps.IsMap D∧∀k:Bs,Maps.has D (.string k)=(f k).isSome∧∀z,D.atKey (.string k) (.held z)=.held ((f k).getD z)
section
variable {P:Program} {kt:TypeId} {w w':World} {b n:Nat} {f:Bs→Option Value}
theorem MF.lt (h:MF P kt w b n f):b<w.heap.size:=let ⟨_,h1,_⟩:=h; h1.lt
theorem MF.jL (h:MF P kt w b n f)(hk:w'.heap[b]?=w.heap[b]?):MF P kt w' b n f:=by
 obtain⟨D,⟨es,AA,hb,r⟩,h2⟩:=h;exact⟨D,⟨es,AA,hk.trans hb,r⟩,h2⟩
theorem MF.mono (h:MF P kt w b n f){m:Nat}(hm:n≤m):MF P kt w b m f:=let ⟨D,h1,h2⟩:=h; ⟨D,h1.mono hm,h2⟩
theorem MF.ext (h:MF P kt w b n f)(hx:Ext w w'):MF P kt w' b n f:=h.jL (hx.block b h.lt)
theorem MF.congr (h:MF P kt w b n f){g:Bs→Option Value}(e:∀k,g k=f k):MF P kt w b n g:=by rw[show g=f from funext e]; exact h
theorem MF.isMap (h:MF P kt w b n f):∃es clock,w.heap[b]?=some (.map es clock):=let ⟨_,⟨es,clock,hb,_⟩,_⟩:=h; ⟨es,clock,hb⟩
theorem MF.ne (h:MF P kt w b n f){g:Nat}{t:TypeId}{cs:Array Value}(hg:Blk w g t cs):b≠g:=by
 rintro rfl;obtain⟨es,AA,hb⟩:=h.isMap
 have:=hg.symm.trans hb
 cases this
theorem MF.new (w:World):MF P kt (w.alloc (.map #[] 0)) w.heap.size 0 fun _=>none:=
 ⟨.map [],World.ownsMap_made w P kt zT1,Maps.isMap_empty,fun k=>⟨rfl,fun z=>rfl⟩⟩
theorem MF.get {t e:TypeId}(h:MF P kt w b n f)(hk:P.underlying kt=some .string)(ht:P.underlying t=some (.map kt e)){z:Value}(hz:(zeroValue e).run P w=.ok z w)(k:Bs)(hl:k.length≤maxLen) :
  (Instr.lookup t (.map (some b)) (.string (xG k)) true).run P w=.ok (.tuple #[(f k).getD z,.bool (f k).isSome]) w:=by
 obtain⟨D,h1,h2,h3⟩:=h;have AA:keyOf P kt (.string (xG k))=some (.string k):=WideMaps.keyOf_string_mk hk (s:=xG k) hl;obtain⟨v,ps,AB,hv⟩:=h1.look_ok (Maps.string_keyed hk) ht hz (zd:=.held z) (zp:=[]) rfl AA
 have e1:DataW.held v=.held ((f k).getD z):=by
  rw[←(h3 k).2 z];exact congrArg Prod.fst (Option.some.inj hv)
 injection e1 with e1;rw[AB,(h3 k).1,e1]
theorem MF.put {t e:TypeId}(h:MF P kt w b n f)(hk:P.underlying kt=some .string)(ht:P.underlying t=some (.map kt e))(hn:n<maxLen)(k:Bs)(hl:k.length≤maxLen)(v:Value) :
  ∃w',(Instr.mapUpdate t (.map (some b)) (.string (xG k)) v).run P w=.ok () w'∧MF P kt w' b (n+1) (fun x=>if x=k then some v else f x)∧w.grownBy w' (some b)∧w'.heap.size=w.heap.size:=by
 obtain⟨D,h1,h2,h3⟩:=h;have AA:keyOf P kt (.string (xG k))=some (.string k):=WideMaps.keyOf_string_mk hk (s:=xG k) hl;have AB:WideAt.IsKeyLit (.string k):=(Maps.string_keyed hk).key AA;obtain⟨w',AD,r1,r2⟩:=h1.store (Maps.string_keyed hk) ht hn (d:=.held v) (ps:=[]) AA rfl;refine⟨w',AD,⟨_,r1,h2.put _ _,fun x=>?_⟩,r2.grown,?_⟩
 ·by_cases hx:x=k
  ·subst hx;simp only[if_true];exact⟨Maps.has_put_same h2 AB _,fun z=>Maps.atKey_put_same h2 AB _ _⟩
  ·simp only[if_neg hx];have AF:Lit.string x≠Lit.string k:=fun e=>hx (by injection e);exact⟨(Maps.has_put_other AF _).trans (h3 x).1,fun z=>(Maps.atKey_put_other AF _ _).trans ((h3 x).2 z)⟩
 ·obtain⟨es,AE,AG,AC,hb,rfl⟩:=r2;simp[Go.ChangeMaps.setBlock]
end
section
variable {P:Program} {ops:Array Oper} {rest:List Oper} {o:Oper} {a:Act} {w:World} {Q:Exit→Act→World→Prop}
theorem zFc (hg:o.guard=none)(m x v:Operand)(t:TypeId)(hop:o.op=Op.mapUpdate t m x v){kt e:TypeId}(hk:P.underlying kt=some .string)(ht:P.underlying t=some (.map kt e))
  (b n:Nat) (f:Bs→Option Value) (k:Bs) (u:Value) (hm:a.eval m=.map (some b)) (hx:a.eval x=.string (xG k)) (hv:a.eval v=u) (h:MF P kt w b n f) (hn:n<maxLen) (hl:k.length≤maxLen)
  (hK:∀w',MF P kt w' b (n+1) (fun y=>if y=k then some u else f y)→w.grownBy w' (some b)→w'.heap.size=w.heap.size→wpList P ops Q rest (a.put o.dst undef) w'):wpList P ops Q (o::rest) a w:=by
 refine wpList_plain hg fun K' AB=>?_;obtain⟨w',AA,r1,r2,r3⟩:=h.put hk ht hn k hl u;unfold Oper.wp;simp[execOp,hop,hm,hx,hv,AA,Result.andThen];exact AB _ _ (hK w' r1 r2 r3)
end
end Go.Proofs.YtbadjmmjbpeocaaGreat
