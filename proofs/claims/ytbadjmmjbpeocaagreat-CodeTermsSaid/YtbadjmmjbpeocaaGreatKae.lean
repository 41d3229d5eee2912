/- bytes.Count at one byte, bytes.LastIndexByte, diag.New, walked. (and what follows of it). The conditions stand at each lemma. -/
import Derived.Test.YtbadjmmjbpeocaaGreatKaa
import Derived.Test.YtbadjmmjbpeocaaGreatKac
import Derived.Shelf.Bytes.SlCountOne
import Derived.IntWalk
import Derived.Test.YtbadjmmjbpeocaaGreatKad
import Derived.Test.YtbadjmmjbpeocaaGreatKab
set_option linter.unusedVariables false
set_option linter.unusedSimpArgs false
set_option maxRecDepth 100000
set_option maxHeartbeats 16000000
namespace Go.Proofs.YtbadjmmjbpeocaaGreat
open Go Go.RowKit
theorem zQv {w:World}{a:Addr}{l:Bs}(h:Cells w (some a) (vC l)):∀i,i<l.length→w.cell? (a.add i)=some (.int .u8 ((zDh l).getD i 0)):=by
 intro i hi;obtain⟨b,off,e,hb,hc⟩:=h.at_ (by rw[ZB]; omega);injection e with e;subst e
 rw[zH0 l i hi,show(⟨b,off,none⟩:Addr).add i=⟨b,off+i,none⟩ from by unfold Addr.add; split <;> simp_all,hc i (by rw[ZB]; exact hi),zAz l i hi]
theorem zQK {w:World}{A:Option Addr}{l:Bs}{n c:Nat}(hn:n=l.length)(h:Cells w A (vC l)) :
  (Extern.BytealgCount.count #[.slice A n c,.int .u8 10]).run Tryz.prog w=.ok (.int .i64 ((l.count 10:Nat):Int)) w:=by
 subst hn
 cases A with
 | none=>
  have h0:l=[]:=by
   rcases h with h | ⟨b,off,e,_⟩
   ·have:(vC l).length=0:=by rw[h]; rfl
    rw[ZB] at this;exact List.eq_nil_of_length_eq_zero this
   ·cases e
  subst h0;exact Lib.run_countNil w _ c 10
 | some a=>
  have h1:=Lib.run_countAt (P:=Tryz.prog) w a l.length c (zDh l) (zGD l) (zQv h) 10;rw[zBw] at h1;exact h1
theorem zQl (A:Option Addr)(l:Bs)(n c g d:Nat)(w:World)(hn:n=l.length)(h:Cells w A (vC l))(hg:w.cell? ⟨g,0,none⟩=some (.int .u8 10)) :
  Calls Tryz.prog 69 #[.slice A n c,.slice (some ⟨g,0,none⟩) 1 d] w fun e w'=>e=.returned (.int .i64 ((l.count 10:Nat):Int))∧w'=w:=by
 have hr:=zQK (n:=n) (c:=c) hn h;clear h hn;generalize ((l.count 10:Nat):Int)=z at *
 go_enter Tryz.func69,Tryz.ntmps69
 go_wp2
 rw[run_callFunc_extern Tryz.func101 (by kernel_rfl) (by kernel_rfl) (by kernel_rfl) (e:=Extern.BytealgCount.count) (by kernel_rfl),hr];simp only[Result.andThen];rw[Oper.upon_value]
 go_wp2
 go_ret;exact⟨rfl,rfl⟩
def zBS (l:Bs):Nat→Int
 | 0=>-1
 | k+1=>if l.getD k 0==10 then (k:Int) else zBS l k
theorem zKT (l:Bs):∀k:Nat,-1≤zBS l k∧zBS l k<k
 | 0=>by simp[zBS]
 | k+1=>by
  unfold zBS
  have:=zKT l k
  split <;> omega
theorem zOX (A:Option Addr)(l:Bs)(n c:Nat)(w:World)(hn:n=l.length)(hbig:l.length≤140737488355328)(h:Cells w A (vC l))(z:Int)(hz:Hid (zBS l l.length=z)) :
  Calls Tryz.prog 103 #[.slice A n c,.int .u8 10] w fun e w'=>e=.returned (.int .i64 z)∧w'=w:=by
 subst hn;have HC:=yG h;clear h
 go_enter Tryz.func103,Tryz.ntmps103
 go_wp2_with fail
 go_loop [5] (fun i=>∃k:Nat,k≤l.length∧i=.int .i64 ((k:Int)-1)∧Hid (zBS l k=z)) (fun i=>(intOf i+1).toNat)
 case atStart=>exact⟨l.length,zX _,rfl,hz⟩
 case round=>
  obtain⟨k,hk,rfl,HZ⟩:=hrel
  cases k with
  | zero=>
   have HE:Hid (z=-1):=yG (by rw[←HZ.out]; rfl)
   go_wp2_with fail
   go_ret;exact⟨zEW HE.out.symm,rfl⟩
  | succ k=>
   rw[show(((k+1:Nat):Int)-1)=(k:Int) from by omega]
   have hkl:k<l.length:=by omega
   obtain⟨b,off,hA,hb,hcc⟩:=HC.out.at_ (by rw[ZB]; omega);subst hA
   have e0:w.cell? ⟨b,off+k,none⟩=some (.int .u8 (l[k].toNat:Int)):=by rw[hcc k (by rw[ZB]; omega),zAz l k hkl]
   have hzz:=HZ.out;unfold zBS at hzz;rw[show l.getD k 0=l[k] from by simp[hkl]] at hzz;have HZZ:=yG hzz;clear hcc hzz HZ
   have q0:(k:Int)<(l.length:Int):=by omega
   generalize l[k]=x at *
   by_cases hx:x=10
   ·subst hx;have e0':w.cell? ⟨b,off+k,none⟩=some (.int .u8 10):=e0;clear e0;have HE:Hid (z=(k:Int)):=yG (by rw[←HZZ.out]; rfl)
    go_wp2_with fail
    go_ret;exact⟨zEW HE.out.symm,rfl⟩
   ·have d1:((x.toNat:Int)==10)=false:=by
     rw[yI];intro h;apply hx
     have:x.toNat=10:=by omega
     exact UInt8.toNat_inj.1 this
    have HE:Hid (zBS l k=z):=yG (by rw[←HZZ.out,if_neg (by simpa using hx)])
    go_wp2_with fail
    go_round
    case rel=>exact⟨k,by omega,rfl,HE⟩
    case measure=>simp[intOf]
theorem zR2 (A:Option Addr)(l:Bs)(n c:Nat)(w:World)(hn:n=l.length)(hbig:l.length≤140737488355328)(h:Cells w A (vC l))(z:Int)(hz:Hid (zBS l l.length=z)) :
  Calls Tryz.prog 70 #[.slice A n c,.int .u8 10] w fun e w'=>e=.returned (.int .i64 z)∧w'=w:=by
 have H:=yG (zOX A l n c w hn hbig h z hz);clear h hn hz
 go_enter Tryz.func70,Tryz.ntmps70
 go_wp2_with fail
 refine H.out.mono ?_;rintro e w' ⟨rfl,rfl⟩
 go_wp2_with fail
 go_ret;exact⟨rfl,rfl⟩
theorem Blk.zUE {w:World}{t:TypeId}{cs:Array Value}{g:Nat}(hg:w.heap.size=g):Blk (w.alloc (.cells cs t)) g t cs:=by subst hg; exact Blk.new _ _ _
def atN (at_:Int)(n:Nat):Nat:=(max 0 (min at_ (n:Int))).toNat
theorem zUd (at_:Int)(n:Nat):atN at_ n≤n:=by unfold atN; omega
def zFV (l:Bs)(k:Nat):Int:=((l.take k).count 10:Nat)+1
def zLD (l:Bs)(k:Nat):Int:=(k:Int)-zBS (l.take k) k
theorem zHQ (A:Option Addr)(l:Bs)(n c:Nat)(at_ er:Int)(w:World)(hn:n=l.length)(hbig:l.length≤140737488355328)(hcap:l.length≤c)(hat1:-9223372036854775808≤at_)(hat2:at_≤9223372036854775807)(h:Cells w A (vC l))(her:er≠0) :
  Calls Tryz.prog 42 #[.slice A n c,.int .i64 at_,.int .i64 er] w fun e w'=>∃g,e=.returned (.iface 149 (.pointer (some ⟨g,0,none⟩)))∧w.heap.size≤g∧Blk w' g 153 #[.int .i64 (atN at_ l.length:Int),.int .i64 (zFV l (atN at_ l.length)),.int .i64 (zLD l (atN at_ l.length)),.int .i64 er]∧Ext w w':=by
 subst hn;have HC:=yG h;clear h
 have d0:(er==0)=false:=by rw[yI]; exact her
 go_enter Tryz.func42,Tryz.ntmps42
 go_wp2_with fail
 have hq:max 0 (min at_ (l.length:Int))=((atN at_ l.length:Nat):Int):=by unfold atN; omega
 have hql:=zUd at_ l.length;rw[hq,zI];clear hq;generalize hqe:atN at_ l.length=q at *;have HQE:=yG hqe;clear hqe
 have hcs:Cells w A (vC (l.take q)):=by
  have h:=zDf HC.out hcap 0 q;rw[List.drop_zero] at h;unfold zDO at h
  split at h
  ·exact h
  ·cases A with
   | none=>exact h
   | some x=>exact h
 have htl:(l.take q).length=q:=by simp; omega
 have HTL:=yG htl;have HCS:=yG (hcs.ext (Ext.alloc w (.cells #[.int .u8 10] 5)));obtain⟨cn,HCN⟩:∃cn:Nat,Hid ((l.take q).count 10=cn):=⟨_,yG rfl⟩
 have hcn:cn≤140737488355328:=by
  have:=List.count_le_length (a:=(10:UInt8)) (l:=l.take q)
  rw[HCN.out] at this;omega
 obtain⟨z,HZ⟩:∃z,Hid (zBS (l.take q) q=z):=⟨_,yG rfl⟩;have hz:=zKT (l.take q) q;rw[HZ.out] at hz;obtain⟨hz1,hz2⟩:=hz;clear hcs htl;refine(zQl A (l.take q) q c w.heap.size 1 _ (by rw[HTL.out]) HCS.out (by simp)).mono ?_;rintro e w' ⟨rfl,rfl⟩;rw[HCN.out]
 go_wp2_with fail
 refine(zR2 A (l.take q) q c _ (by rw[HTL.out]) (by rw[HTL.out]; omega) HCS.out z (by rw[HTL.out]; exact HZ)).mono ?_;rintro e w' ⟨rfl,rfl⟩
 go_wp2_with fail
 go_ret
 have h1:zFV l q=(cn:Int)+1:=by unfold zFV; rw[HCN.out]
 have h2:zLD l q=(q:Int)-z:=by unfold zLD; rw[HZ.out]
 rw[HQE.out,h1,h2];exact⟨_,rfl,by simp,Blk.zUE (by simp),(Ext.alloc _ _).trans (Ext.alloc _ _)⟩
def ZZ (t:Tok):List Value:=[.int .u8 (t.kind:Int),.int .i64 (t.at_:Int),.int .i64 (t.en:Int),.string (xH t.text),.int .i64 t.n]
def jP (l:List Tok):List Value:=l.flatMap ZZ
theorem zBp (l:List Tok):(jP l).length=l.length*5:=by
 unfold jP
 induction l with
 | nil=>rfl
 | cons t l ih=>rw[List.flatMap_cons,yP,ih,zK]; show 5+_=_; omega
theorem zHj (l:List Tok)(t:Tok):jP (l++[t])=jP l++ZZ t:=by simp[jP]
def zFA (l:Bs):zBU:=if 65536<l.length then .err 0 3 else zAZ 0 l
def zL3 (l:Bs)(w:World)(r:zBU)(e:Ending)(w':World):Prop:=Ext w w'∧match r with
 | .ok ts=>∃A' c',e=.returned (.tuple #[.slice A' ts.length c',.nilIface])∧(A'=none→c'=0)∧w'.ownsRow w.heap.size 104 5 (.slice A' ts.length c') ts.length (jP ts)
 | .err a er=>∃g,e=.returned (.tuple #[.slice none 0 0,.iface 149 (.pointer (some ⟨g,0,none⟩))])∧w.heap.size≤g∧Blk w' g 153 #[.int .i64 (a:Int),.int .i64 (zFV l a),.int .i64 (zLD l a),.int .i64 er]
theorem zQT:(Tryz.prog.info? 104).map (fun i=>(i.zero,i.size,i.bytes))=some (some (.agg #[.int .u8 0,.int .i64 0,.int .i64 0,.string ⟨#[]⟩,.int .i64 0]),5,48):=by kernel_rfl
theorem zNI {w:World}{A:Option Addr}{cs:List Value}(h:Cells w A cs)(h0:0<cs.length)(b off:Nat)(e:A=some ⟨b,off,none⟩):b<w.heap.size:=by
 obtain⟨b',off',e',hb,_⟩:=h.at_ h0;rw[e] at e';injection e' with e';injection e' with e';subst e';exact hb
theorem zT3 {t:Tok}:∀u ∈ ZZ t,u.oneCell'=true:=by
 intro u hu;simp only[ZZ,zU,List.not_mem_nil,or_false] at hu
 rcases hu with rfl | rfl | rfl | rfl | rfl <;> rfl
theorem Cells.newAt {w:World}{t:TypeId}{cs:Array Value}{g:Nat}{l:List Value}(hg:w.heap.size=g)(hl:cs.toList=l:=by rfl):Cells (w.alloc (.cells cs t)) (some ⟨g,0,none⟩) l:=by subst hg hl; exact Cells.new _ _ _
theorem zTO (k n:Nat)(h:k≤n):atN (k:Int) n=k:=by unfold atN; omega
theorem zPR (A:Option Addr)(l:Bs)(n c:Nat)(w:World)(hn:n=l.length)(hbig:l.length≤140737488355328)(hcap:l.length≤c)(h:Cells w A (vC l))(hlim:65536<l.length) :
  Calls Tryz.prog 40 #[.slice A n c] w (zL3 l w (zFA l)):=by
 subst hn;have HC:=yG h;clear h;have HS:Hid (zFA l=.err 0 3):=yG (by unfold zFA; rw[if_pos hlim])
 go_enter Tryz.func40,Tryz.ntmps40
 go_wp2_with fail
 refine(zHQ A l l.length c 0 3 w rfl hbig hcap (by omega) (by omega) HC.out (by decide)).mono ?_;rintro e w' ⟨g,rfl,hg,hb,hx⟩;rw[show atN 0 l.length=0 from by unfold atN; omega] at hb
 go_wp2_with fail
 go_ret2;rw[HS.out];exact⟨hx,g,rfl,hg,hb⟩
theorem zUr (A:Option Addr)(l:Bs)(n c:Nat)(w:World)(hn:n=l.length)(hcap:l.length≤c)(hnil:A=none→c=0)(h:Cells w A (vC l))(hlim:l.length≤65536) :
  Calls Tryz.prog 40 #[.slice A n c] w (zL3 l w (zFA l)):=by
 subst hn;obtain⟨i0,hi,hz0,hz1,hz2⟩:=info_parts zQT;have HC:=yG h;have HN:=yG hnil;have HS:Hid (zFA l=zAZ 0 l):=yG (by unfold zFA; rw[if_neg (by omega)]);have HX0:Hid (Ext w (w.alloc (.cells #[.slice A l.length c,.int .i64 0] 146))):=yG (Ext.alloc _ _)
 have HR0:Hid (Rd (w.alloc (.cells #[.slice A l.length c,.int .i64 0] 146)) w.heap.size A l c 0):=yG ⟨Blk.new _ _ _,h.ext (Ext.alloc _ _),fun h0 b off e=>by
  have:=zNI h (by rw[ZB]; exact h0) b off e
  omega,zW _,hcap,hnil,by omega⟩
 clear h hnil
 go_enter Tryz.func40,Tryz.ntmps40
 go_wp2_with fail
 refine(zMy w.heap.size A l c 0 _ HR0.out).mono ?_;rintro e w1 ⟨rfl,k1,_,hm1,hr1,hl1,hh1⟩;rw[List.drop_zero] at hl1;have HX1:=yG (hm1.ext HX0.out (zX _));have HR1:=yG hr1;have HL1:=yG hl1;have HH1:=yG hh1;clear HX0 HR0 hm1 hr1 hl1 hh1;obtain⟨g,hg⟩:∃g,w.heap.size=g:=⟨_,rfl⟩;rw[hg] at HR1 ⊢;have HG:=yG hg;clear hg
 go_wp2_with fail
 go_loopg [5] (l.length-k1) (fun gk out wr=>∃(k:Nat) (lo:List Tok) (A':Option Addr) (c':Nat),k≤l.length∧gk=l.length-k∧lo.length≤k∧out=.slice A' lo.length c'∧Hid ((A'=none→c'=0)∧wr.ownsRow w.heap.size 104 5 (.slice A' lo.length c') lo.length (jP lo)∧Rd wr g A l c k∧Ext w wr∧zAZ 0 l=(zAZ k (l.drop k)).pre lo∧∀x,(l.drop k).head?=some x→XL x=false∧(x==35)=false))
 case atStart=>exact⟨k1,[],none,0,HR1.out.le,rfl,zW _,rfl,yG ⟨fun _=>rfl,zR _ _ _ _,HR1.out,HX1.out,by rw[zTz]; exact HL1.out,HH1.out⟩⟩
 case round=>
  obtain⟨k,lo,A',c',hk,rfl,hlo,rfl,HW⟩:=hrel;obtain⟨wa,rfl⟩:∃wa:World,wa=wr:=⟨_,rfl⟩;have b1:wa.cell? ⟨g,1,none⟩=some (.int .i64 (k:Int)):=HW.out.2.2.1.blk.cell 1
  by_cases hlt:k<l.length
  ·have d0:decide ((k:Int)<(l.length:Int))=true:=yS (by omega);have hhd:=HW.out.2.2.2.2.2 l[k] (by rw[List.drop_eq_getElem_cons hlt]; rfl)
   go_wp2_with fail
   refine(zRz g A l c k wa HW.out.2.2.1 hlt hhd.1 hhd.2).mono ?_;rintro e w2 ⟨hm,⟨kd,j,n,hst,rfl,hrd⟩ | ⟨er,kd,en,x,n,hst,her,rfl⟩⟩
   ·have HST:=yG (zSt (p:=k) hst)
    have hj:1≤j:=by
     have hw:=zDu (l.drop k);rw[hst] at hw;exact hw.1
    have HO2:=yG (hm.own HW.out.2.1 (YE HW.out.2.1 HW.out.2.2.1.blk (by decide)));have HX2:=yG (hm.ext HW.out.2.2.2.1 (by rw[HG.out]; exact zX _));have HR2:=yG hrd;have HA2:=yG HW.out.1;have HLX:=yG HW.out.2.2.2.2.1;have hkj:=hrd.le;obtain⟨tx,HTX⟩:∃tx,Hid ((l.drop k).take j=tx):=⟨_,yG rfl⟩;rw[HTX.out] at HST;rw[HTX.out];dsimp only[zD4];obtain⟨en,HEN⟩:∃en,Hid (k+j=en):=⟨_,yG rfl⟩
    have hen:k+1≤en:=by have:=HEN.out; omega
    rw[HEN.out] at HST HR2 hkj ⊢;clear hst hm hrd HW b1 hhd
    go_wp2_with (at_builtin; refine YN rfl (.tmp 39) (.tmp 41) 96 rfl w.heap.size 104 i0 _ 5 48 Tryz.underlying96 hi hz0 hz1 hz2 rfl (by decide) _ _ _ rfl ((HO2.out.alloc _).alloc _) _ 1 1 (ZZ ⟨kd,k,en,tx,n⟩) rfl (by simp) rfl (by exact(Cells.newAt (by simp))) zT3 (by unfold maxLen; omega) (by omega) (by have:=HX2.out.size; simp; omega) ?_; intro A4 c4 w4 z4 hown4 hg4)
    have hown4':w4.ownsRow w.heap.size 104 5 (.slice A4 (lo++[(⟨kd,k,en,tx,n⟩:Tok)]).length c4) (lo++[(⟨kd,k,en,tx,n⟩:Tok)]).length (jP (lo++[(⟨kd,k,en,tx,n⟩:Tok)])):=by rw[zHj,yP]; exact hown4
    have hx4:Ext w w4:=Below.grown ((HX2.out.trans (Ext.alloc _ _)).trans (Ext.alloc _ _)) hg4 (by have:=HX2.out.size; simp; omega) (fun q hq=>(HO2.out.lt q hq).1);have hb4:Blk w4 g 146 #[.slice A l.length c,.int .i64 (en:Int)]:=(((HR2.out.blk.alloc _).alloc _)).grown hg4 (fun e=>YE HO2.out HR2.out.blk (by decide) e.symm);have HR4:Hid (Rd w4 g A l c en):=yG ⟨hb4,HC.out.ext hx4,HR2.out.far,hkj,hcap,HR2.out.zII,by omega⟩;have HO4:=yG hown4';have HX4:=yG hx4;clear hown4 hown4' hx4 hb4 hg4 HO2 HX2 HR2
    go_wp2_with fail
    refine(zMy g A l c en w4 HR4.out).mono ?_;rintro e w5 ⟨rfl,k3,hk3,hm5,hr5,hl5,hh5⟩;have HO5:=yG (hm5.own HO4.out (YE HO4.out HR4.out.blk (by decide)));have HX5:=yG (hm5.ext HX4.out (by rw[HG.out]; exact zX _));have HR5:=yG hr5;have HL5:=yG hl5;have HH5:=yG hh5;have hk5:=hr5.le;clear hm5 hr5 hl5 hh5
    go_wp2_with fail
    go_roundg (l.length-k3)
    case measure=>omega
    case rel=>
     refine⟨k3,lo++[⟨kd,k,en,tx,n⟩],A4,c4,hk5,rfl,by simp; omega,by simp,yG ⟨z4,HO5.out,HR5.out,HX5.out,?_,HH5.out⟩⟩;rw[HLX.out,HST.out,zSH,List.drop_drop,HEN.out,HL5.out]
   ·have HR:=yG (zRt (p:=k) hst);dsimp only[zD4]
    have d1:(er != 0)=true:=by rw[zE]; exact her
    have HX2:=yG (hm.ext HW.out.2.2.2.1 (by rw[HG.out]; exact zX _));have HX3:Hid (Ext w (w2.alloc (.cells #[.int .u8 (kd:Int),.int .i64 (k:Int),.int .i64 (en:Int),.string (xH x),.int .i64 n] 104))):=yG (HX2.out.trans (Ext.alloc _ _));clear hst her hm
    go_wp2_with fail
    refine(zHQ A l l.length c (k:Int) er _ rfl (by omega) hcap (by omega) (by omega) (HC.out.ext HX3.out) (by simpa using d1)).mono ?_;rintro e w' ⟨g2,rfl,hg2,hb2,hx2⟩;rw[zTO k _ hk] at hb2
    go_wp2_with fail
    go_ret2;rw[HS.out,HW.out.2.2.2.2.1,HR.out];exact⟨HX3.out.trans hx2,g2,rfl,Nat.le_trans HX3.out.size hg2,hb2⟩
  ·obtain rfl:k=l.length:=by omega
   have d0:decide ((l.length:Int)<(l.length:Int))=false:=by simp
   have HO2:=yG HW.out.2.1;have HX2:=yG HW.out.2.2.2.1;have HLX:=yG HW.out.2.2.2.2.1;clear HW
   go_wp2_with (at_builtin; refine YN rfl (.tmp 43) (.tmp 49) 96 rfl w.heap.size 104 i0 _ 5 48 Tryz.underlying96 hi hz0 hz1 hz2 rfl (by decide) _ _ _ rfl (HO2.out.alloc _) _ 1 1 (ZZ ⟨4,l.length,l.length,[],0⟩) rfl (by simp) rfl (by exact(Cells.newAt rfl)) zT3 (by unfold maxLen; omega) (by omega) (by have:=HX2.out.size; simp; omega) ?_; intro A4 c4 w4 z4 hown4 hg4)
   have hown4':w4.ownsRow w.heap.size 104 5 (.slice A4 (lo++[(⟨4,l.length,l.length,[],0⟩:Tok)]).length c4) (lo++[(⟨4,l.length,l.length,[],0⟩:Tok)]).length (jP (lo++[(⟨4,l.length,l.length,[],0⟩:Tok)])):=by rw[zHj,yP]; exact hown4
   have HX4:Hid (Ext w w4):=yG (Below.grown (HX2.out.trans (Ext.alloc _ _)) hg4 (by have:=HX2.out.size; simp; omega) (fun q hq=>(HO2.out.lt q hq).1));have HO4:=yG hown4';clear hown4 hown4' hg4
   go_wp2_with fail
   go_ret2;rw[HS.out,HLX.out,List.drop_eq_nil_of_le (zX _),zSy];exact⟨HX4.out,A4,c4,by simp,z4,HO4.out⟩
theorem zPd (A:Option Addr)(l:Bs)(n c:Nat)(w:World)(hn:n=l.length)(hbig:l.length≤140737488355328)(hcap:l.length≤c)(hnil:A=none→c=0)(h:Cells w A (vC l)) :
  Calls Tryz.prog 40 #[.slice A n c] w (zL3 l w (zFA l)):=by
 by_cases hlim:65536<l.length
 ·exact zPR A l n c w hn hbig hcap h hlim
 ·exact zUr A l n c w hn hcap hnil h (by omega)
end Go.Proofs.YtbadjmmjbpeocaaGreat
namespace Go.Proofs.YtbadjmmjbpeocaaGreat
structure Nd where
 kind:Nat
 pos:Nat
 text:Bs
 num:Int
 kids:List Nat
 deriving DecidableEq
structure Ps where
 ts:List Tok
 nd:List Nd
 deep:Nat
 deriving DecidableEq
inductive Res (α:Type) where
 | ok (a:α) (s:Ps)
 | err (e:Int) (at_:Nat)
 deriving DecidableEq
def Res.bind {α β:Type}:Res α→(α→Ps→Res β)→Res β
 | .ok a s,f=>f a s
 | .err e p,_=>.err e p
theorem VL {α β:Type}(a:α)(s:Ps)(f:α→Ps→Res β):(Res.ok a s).bind f=f a s:=rfl
abbrev Pm (α:Type):=Ps→Res α
def zUA:Tok:=⟨4,0,0,[],0⟩
def Ps.hd (s:Ps):Tok:=s.ts.headD zUA
def Ps.adv (s:Ps):Ps:={ s with ts:=s.ts.tail }
def isP (t:Bs)(s:Ps):Bool:=(s.hd.kind != 4&&s.hd.kind != 2)&&s.hd.text==t
def vX (t:Bs):Pm Unit:=fun s=>if isP t s=true then .ok () s.adv else .err 50 s.hd.at_
def ofP (k:Nat):Pm Tok:=fun s=>if s.hd.kind=k then .ok s.hd s.adv else .err 50 s.hd.at_
def Ps.add (s:Ps)(n:Nd):Ps:={ s with nd:=s.nd++[n] }
def Ps.on (s:Ps)(i:Nat)(f:Nd→Nd):Ps:={ s with nd:=s.nd.modify i f }
def Ps.kid (s:Ps)(i:Nat):Ps:=s.on i fun n=>{ n with kids:=n.kids++[s.nd.length] }
def Ps.node (s:Ps)(k:Nat):Ps:=s.add ⟨k,s.hd.at_,[],0,[]⟩
def Ps.text (s:Ps)(i:Nat)(t:Bs):Ps:=s.on i fun n=>{ n with text:=t }
def Ps.num (s:Ps)(i:Nat)(x:Int):Ps:=s.on i fun n=>{ n with num:=x }
def Ps.kind (s:Ps)(i:Nat)(k:Nat):Ps:=s.on i fun n=>{ n with kind:=k }
def Ps.xI (s:Ps)(i k:Nat):Ps:=(s.kid i).node k
def jT (i:Nat):Pm Unit:=fun s=>(ofP 1 s).bind fun t s=>.ok () (s.text i t.text)
def zAH (i:Nat):Pm Unit:=fun s=>jT s.nd.length (s.xI i 5)
def zCX (i:Nat):Pm Unit:=fun s=>(ofP 2 s).bind fun t s=>.ok () (s.num i t.n)
def zCx (i:Nat):Pm Unit:=fun s=>zCX s.nd.length (s.xI i 21)
def jE {α:Type}(a z:Bs)(body:Pm α):Pm α:=fun s=>
 if isP a s=true then
  if s.deep=64 then .err 51 s.hd.at_
  else (body { s.adv with deep:=s.deep+1 }).bind fun x s=>
   if z=[] then .ok x { s with deep:=s.deep-1 }
   else (vX z s).bind fun _ s=>.ok x { s with deep:=s.deep-1 }
 else .err 50 s.hd.at_
inductive Ex where
 | leaf (kind pos:Nat) (text:Bs) (num:Int)
 | neg (pos:Nat) (a:Ex)
 | bin (kind pos:Nat) (a b:Ex)
 deriving DecidableEq
def Ex.pos:Ex→Nat
 | .leaf _ p _ _=>p
 | .neg p _=>p
 | .bin _ p _ _=>p
def zK6:List (Bs × Nat):=[([42],25)]
def zKq:List (Bs × Nat):=[([43],23),([45],24)]
def zDW (ms:List (Bs × Nat))(s:Ps):Option Nat:=(ms.find? fun m=>isP m.1 s).map Prod.snd
def VU (ms:List (Bs × Nat))(part:Pm Ex):Nat→Ex→Pm Ex
 | 0,_,_=>.err 0 0
 | f+1,e,s=>match zDW ms s with
  | none=>.ok e s
  | some k=>(part s.adv).bind fun r s=>VU ms part f (.bin k e.pos e r) s
def XD (ms:List (Bs × Nat))(part:Pm Ex):Pm Ex:=fun s=>(part s).bind fun e s=>VU ms part (s.ts.length+1) e s
def zRZ (part:Pm Ex):Pm Ex:=XD zK6 part
def zEA (part:Pm Ex):Pm Ex:=XD zKq (zRZ part)
def vL:Nat→Pm Ex
 | 0,_=>.err 0 0
 | f+1,s=>
  if s.hd.kind=1 then .ok (.leaf 22 s.hd.at_ s.hd.text 0) s.adv
  else if s.hd.kind=2 then .ok (.leaf 21 s.hd.at_ [] s.hd.n) s.adv
  else if isP [45] s=true then (jE [45] [] (vL f) s).bind fun a t=>.ok (.neg s.hd.at_ a) t
  else jE [40] [41] (zEA (vL f)) s
def zP7:Pm Ex:=fun s=>zEA (vL s.ts.length) s
def zBW (i:Nat):Ex→Ps→Ps
 | .leaf k p t n,s=>(s.kid i).add ⟨k,p,t,n,[]⟩
 | .neg p a,s=>zBW s.nd.length a ((s.kid i).add ⟨26,p,[],0,[]⟩)
 | .bin k p a b,s=>zBW s.nd.length b (zBW s.nd.length a ((s.kid i).add ⟨k,p,[],0,[]⟩))
def zAB (i:Nat):Pm Unit:=fun s=>(zP7 s).bind fun e s=>.ok () (zBW i e s)
def zBF (one:Pm Unit):Nat→Pm Unit
 | 0,_=>.err 0 0
 | f+1,s=>if isP [44] s=true then (one s.adv).bind fun _ s=>zBF one f s else .ok () s
def zAc (one:Pm Unit):Pm Unit:=fun s=>(one s).bind fun _ s=>zBF one (s.ts.length+1) s
def zGo (i:Nat):Pm Unit:=jE [91] [93] (zAB i)
def zJH (i:Nat):Pm Unit:=fun s=>(jT s.nd.length (s.xI i 20)).bind fun _ t=>zGo s.nd.length t
def zIR (i:Nat):Pm Unit:=fun s=>(zJH i s).bind fun _ s=>(vX [46] s).bind fun _ s=>zAH i s
def XC (st:Nat→Pm Unit)(i:Nat):Nat→Pm Unit
 | 0,_=>.err 0 0
 | f+1,s=>if isP [125] s=true then .ok () s else (st i s).bind fun _ s=>XC st i f s
def zAU (st:Nat→Pm Unit)(i:Nat):Pm Unit:=fun s=>jE [123] [125] (fun t=>XC st s.nd.length (t.ts.length+1) t) (s.xI i 6)
def zK9 (i:Nat):Pm Unit:=fun s=>(jT i s).bind fun _ s=>(vX [61] s).bind fun _ s=>(zIR i s).bind fun _ s=>
 if isP [102,111,114] s=true then (vX [117,112,100,97,116,101] s.adv).bind fun _ s=>.ok () (s.num i 1) else .ok () s
def zQA (i:Nat):Pm Unit:=fun s=>(zIR i s).bind fun _ s=>(vX [61] s).bind fun _ s=>zAB i s
def zE3 (i:Nat):Pm Unit:=fun s=>(zJH i s).bind fun _ s=>(vX [40] s).bind fun _ s=>(zAc (zAB i) s).bind fun _ s=>vX [41] s
def zKl (i:Nat):Pm Unit:=fun s=>(jT i s).bind fun _ s=>(vX [61] s).bind fun _ s=>(zAH i s).bind fun _ s=>(vX [46] s).bind fun _ s=>zAH i s
def zKu (i:Nat):Pm Unit:=fun s=>(zAH i s).bind fun _ s=>if isP [97,108,108] s=true then .ok () (s.adv.num i 1) else vX [115,104,97,114,101,100] s
def zDq (i:Nat):Pm Unit:=fun s=>(jT s.nd.length (s.xI i 5)).bind fun _ t=>if isP [91] t=true then zGo s.nd.length (t.kind s.nd.length 20) else .ok () t
def zFf (i:Nat):Pm Unit:=fun s=>if isP [61,61] s=true then .ok () (s.adv.num i 1) else vX [60] s
def zGT (st:Nat→Pm Unit)(i:Nat):Pm Unit:=fun s=>if isP [101,108,115,101] s=true then zAU st i s.adv else .ok () s
def zDr (st:Nat→Pm Unit)(i:Nat):Pm Unit:=fun s=>(zAB i s).bind fun _ s=>(zFf i s).bind fun _ s=>(zAB i s).bind fun _ s=>(zAU st i s).bind fun _ s=>zGT st i s
def zGA (st:Nat→Pm Unit)(i:Nat):Pm Unit:=fun s=>(jT i s).bind fun _ s=>(vX [61] s).bind fun _ s=>(zCx i s).bind fun _ s=>(vX [116,111] s).bind fun _ s=>(zCx i s).bind fun _ s=>zAU st i s
def zPW (i:Nat):Pm Unit:=fun s=>(jT i s).bind fun _ s=>(vX [61] s).bind fun _ s=>zAB i s
def zT5:Pm Unit:=fun s=>.ok () s
def zIp:List (Bs × Nat):=[([114,101,97,100],7),([115,101,116],8),([112,117,116],9),([100,101,108,101,116,101],10),([115,99,97,110],11),([108,111,99,107],12),([114,101,108,101,97,115,101],13),([105,102],14),([102,111,114],15),([108,101,116],16),([101,109,105,116],17),([114,111,108,108,98,97,99,107],18),([99,104,111,112],19)]
def ZN (t:Bs):Option Nat:=(zIp.find? fun m=>m.1==t).map Prod.snd
def VI (st:Nat→Pm Unit)(k i:Nat):Pm Unit:=
 if k=7 then zK9 i else if k=8 then zQA i else if k=9 then zE3 i else if k=10 then zJH i else if k=11 then zKl i
 else if k=12 then zKu i else if k=13 then zDq i else if k=14 then zDr st i else if k=15 then zGA st i else if k=16 then zPW i
 else if k=17 then zAB i else zT5
def YS:Nat→Nat→Pm Unit
 | 0,_,_=>.err 0 0
 | f+1,i,s=>match (if s.hd.kind=1 then ZN s.hd.text else none) with
  | none=>.err 50 s.hd.at_
  | some k=>(VI (YS f) k s.nd.length (s.xI i k).adv).bind fun _ s=>if k=14∨k=15 then .ok () s else vX [59] s
def zEa (i:Nat):Pm Unit:=fun s=>zAU (YS s.ts.length) i s
def zCW (i:Nat):Pm Unit:=fun s=>(vX [116,97,98,108,101] (s.xI i 2)).bind fun _ t=>(jT s.nd.length t).bind fun _ t=>(vX [40] t).bind fun _ t=>(zAc (zAH s.nd.length) t).bind fun _ t=>(vX [41] t).bind fun _ t=>vX [59] t
def zBT (i:Nat):Pm Unit:=fun s=>let n:=s.nd.length; let t:=s.xI i 4; if isP [41] t=true then .ok () t else zAc (zAH n) t
def VY (i:Nat):Pm Unit:=fun s=>if isP [115,105,110,103,108,101] s=true then .ok () (s.adv.num i 1) else .ok () s
def zEt (i:Nat):Pm Unit:=fun s=>(vX [112,114,111,99] (s.xI i 3)).bind fun _ t=>(jT s.nd.length t).bind fun _ t=>(vX [40] t).bind fun _ t=>(zBT s.nd.length t).bind fun _ t=>(vX [41] t).bind fun _ t=>
 (VY s.nd.length t).bind fun _ t=>zEa s.nd.length t
def YB:Nat→Pm Unit
 | 0,_=>.err 0 0
 | f+1,s=>if s.hd.kind=4 then .ok () s
  else if isP [116,97,98,108,101] s=true then (zCW 0 s).bind fun _ s=>YB f s
  else if isP [112,114,111,99] s=true then (zEt 0 s).bind fun _ s=>YB f s
  else .err 50 s.hd.at_
def zDp:Pm Unit:=fun s=>YB (s.ts.length+1) (s.node 1)
inductive zN1 where
 | ok (l:List Nd)
 | err (at_:Nat) (e:Int)
 deriving DecidableEq
def zC1 (ts:List Tok):zN1:=match zDp ⟨ts,[],0⟩ with
 | .ok _ s=>.ok s.nd
 | .err e p=>.err p e
end Go.Proofs.YtbadjmmjbpeocaaGreat
