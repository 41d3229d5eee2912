/- code.Terms, walked: an expression's terms, in memory of the call's own. (and what follows of it). The conditions stand at each lemma. -/
import Derived.Test.YtbadjmmjbpeocaaGreatKaa
import Derived.Test.YtbadjmmjbpeocaaGreatKbp
import Derived.Test.YtbadjmmjbpeocaaGreatKaj
import Derived.Deep.Cut
import Derived.Test.YtbadjmmjbpeocaaGreatKbo
set_option linter.unusedVariables false
set_option linter.unusedSimpArgs false
set_option maxRecDepth 100000
set_option maxHeartbeats 16000000
namespace Go.Proofs.YtbadjmmjbpeocaaGreat
open Go Go.RowKit
structure PV (w:World)(A:Option Addr)(l:List Tx)(Ao:Option Addr)(of:List Int):Prop where
 row:Cells w A (tcs l)
 kids:∀x ∈ l,Cells w x.2.2.1 (ints x.1.kids)
 zEJ:Cells w Ao (ofc of)
 len:of.length=l.length
theorem PV.ext {w w':World}{A:Option Addr}{l:List Tx}{Ao:Option Addr}{of:List Int}(h:PV w A l Ao of)(hx:Ext w w'):PV w' A l Ao of:=⟨h.row.ext hx,fun x hx'=>(h.kids x hx').ext hx,h.zEJ.ext hx,h.len⟩
theorem PV.at_ {w:World}{A:Option Addr}{l:List Tx}{Ao:Option Addr}{of:List Int}(h:PV w A l Ao of)(k:Nat)(hk:k<l.length) :
  ∃b off,A=some ⟨b,off,none⟩∧b<w.heap.size∧∀j,j<5→w.cell? ⟨b,off+k*5+j,none⟩=(vT l k).toList[j]?:=by
 obtain⟨b,off,hA,hb,hcc⟩:=h.row.at_ (by rw[zE1]; omega);refine⟨b,off,hA,hb,fun j hj=>?_⟩;rw[Nat.add_assoc,hcc (k*5+j) (by rw[zE1]; omega),zOe l k hk j hj,zIP hk]
theorem PV.kid {w:World}{A:Option Addr}{l:List Tx}{Ao:Option Addr}{of:List Int}(h:PV w A l Ao of)(i:Nat)(hi:i<l.length):Cells w (hdN l i).1 (ints (xB (tN l) i).kids):=by
 have:=h.kids l[i] (yO hi)
 rw[zBz hi];unfold hdN;rw[yJ hi];exact this
theorem PV.zT1 {w:World}{A:Option Addr}{l:List Tx}{Ao:Option Addr}{of:List Int}(h:PV w A l Ao of)(i:Nat)(hi:i<l.length):∃b off,Ao=some ⟨b,off,none⟩∧b<w.heap.size∧w.cell? ⟨b,off+i,none⟩=some (.int .i64 (of.getD i (-1))):=by
 have hl:=h.len;obtain⟨b,off,hA,hb,hcc⟩:=h.zEJ.at_ (by simp[ofc]; omega);refine⟨b,off,hA,hb,?_⟩;rw[hcc i (by simp[ofc]; omega)];simp[ofc,yH,show i<of.length by omega]
theorem zQP:(Tryz.prog.info? 60).map (fun i=>(i.zero,i.size,i.bytes))=some (some (.agg #[.int .u8 0,.int .i64 0,.int .i64 0]),3,24):=by kernel_rfl
def zBI (t:List Nd)(of:List Int)(f i k:Nat):List Tm:=if 23≤(xB t i).kind∧(xB t i).kind≤26 then ((xB t i).kids.take k).flatMap (vD t of f) else []
theorem zRe {t:List Nd}{of:List Int}{f i k:Nat}(hk:k<(xB t i).kids.length)(h:23≤(xB t i).kind∧(xB t i).kind≤26):zBI t of f i (k+1)=zBI t of f i k++vD t of f (xB t i).kids[k]:=by
 unfold zBI;rw[if_pos h,if_pos h,zZ hk,List.flatMap_append]
 simp
theorem zPw {t:List Nd}{of:List Int}{f i k:Nat}(h:¬(23≤(xB t i).kind∧(xB t i).kind≤26)):zBI t of f i k=[]:=by unfold zBI; rw[if_neg h]
theorem zPB (t:List Nd)(of:List Int)(f i k:Nat):(zBI t of f i k).length≤((xB t i).kids.flatMap (vD t of f)).length:=by
 unfold zBI
 split
 ·conv=>rhs; rw[←List.take_append_drop k (xB t i).kids,List.flatMap_append,yP]
  omega
 ·exact zW _
theorem zFR {t:List Nd}{of:List Int}{f i:Nat}(h:23≤(xB t i).kind∧(xB t i).kind≤26):zBI t of f i (xB t i).kids.length=(xB t i).kids.flatMap (vD t of f):=by
 unfold zBI;rw[if_pos h,List.take_length]
def tmC (l:List Tm):List Value:=EV.zBV (l.map tmD)
theorem zFJ (l:List Tm):(tmC l).length=l.length*3:=by unfold tmC; rw[EV.zCm,yQ]
theorem zGk (l m:List Tm):tmC (l++m)=tmC l++tmC m:=by unfold tmC; rw[List.map_append]; unfold EV.zBV; rw[List.flatMap_append]
theorem zFZ (l:List Tm):∀u ∈ tmC l,u.oneCell'=true:=by
 intro u hu;unfold tmC EV.zBV at hu;simp only[List.mem_flatMap] at hu;obtain⟨t,_,ht⟩:=hu
 simp at ht
 rcases ht with rfl | rfl | rfl <;> rfl
def zKI (w:World)(ts:List Tm)(e:Ending)(w':World):Prop:=∃A c,e=.returned (.slice A ts.length c)∧(A=none→c=0)∧Cells w' A (tmC ts)∧Ext w w'
theorem zEY (l:List Tx)(w:World)(tA a1 a2 Ao:Option Addr)(n1 c1 n2 c2 ct co m:Nat)(hm:m=l.length)(i:Int)(h:i<0∨(l.length:Int)≤i) :
  Calls Tryz.prog 9 #[.agg #[.slice tA m ct,.slice a1 n1 c1,.slice a2 n2 c2,.slice Ao m co],.int .i64 i] w (zKI w []):=by
 subst hm
 by_cases h0:i<0
 ·have g0:decide (i<0)=true:=yS h0
  go_enter Tryz.func9,Tryz.ntmps9
  go_wp2_with fail
  go_ret;exact⟨none,0,rfl,fun _=>rfl,.inl rfl,Ext.alloc _ _⟩
 ·have g0:decide (i<0)=false:=yR h0
  have h1:(l.length:Int)≤i:=by omega
  have g1:decide ((l.length:Int)≤i)=true:=yS h1
  go_enter Tryz.func9,Tryz.ntmps9
  go_wp2_with fail
  go_ret;exact⟨none,0,rfl,fun _=>rfl,.inl rfl,Ext.alloc _ _⟩
theorem zGF (l:List Tx)(of:List Int)(hu:∀i,∀k ∈ (xB (tN l) i).kids,i<k∧k<l.length)(hB:∀i q,i<l.length→i+1+((xB (tN l) i).kids.flatMap (vD (tN l) of q)).length≤l.length)(hlen:l.length≤9000)(hkl:∀i,(xB (tN l) i).kids.length≤9000)
  (tA a1 a2 Ao:Option Addr) (n1 c1 n2 c2 ct co m:Nat) (hm:m=l.length):∀(f i:Nat) (w:World),l.length≤f+i→i<l.length→PV w tA l Ao of →
  Calls Tryz.prog 9 #[.agg #[.slice tA m ct,.slice a1 n1 c1,.slice a2 n2 c2,.slice Ao m co],.int .i64 (i:Int)] w (zKI w (vD (tN l) of f i))
 | 0,i,w,hf,hi,hv=>absurd hf (by omega)
 | f+1,i,w,hf,hi,hv=>by
  subst hm;have IH:=fun (k:Nat) (w:World) (hk:k ∈ (xB (tN l) i).kids) (hv:PV w tA l Ao of)=>zGF l of hu hB hlen hkl tA a1 a2 Ao n1 c1 n2 c2 ct co l.length rfl f k w (by have:=(hu i k hk).1; omega) (hu i k hk).2 hv;have HIH:=yG IH;clear IH;obtain⟨i0,hi0,hz0,hz1,hz2⟩:=info_parts zQP;have hkb:=hkl i;obtain⟨b,off,rfl,hb,hc⟩:=hv.at_ i hi;obtain⟨bo,oo,rfl,hbo,hco⟩:=hv.zT1 i hi;have HOF:Hid (w.cell? ⟨bo,oo+i,none⟩=some (.int .i64 (of.getD i (-1)))∧bo<w.heap.size):=yG ⟨hco,hbo⟩;have HKI:=yG (hv.kid i hi);have HBD:=yG (hB i f hi);have HV:=yG hv;have HEN:Hid (vD (tN l) of (f+1) i=vD (tN l) of (f+1) i):=yG rfl;obtain⟨ts,HTS⟩:∃ts,Hid (vD (tN l) of (f+1) i=ts):=⟨_,yG rfl⟩;rw[HTS.out];obtain⟨kids,HKS⟩:∃kids,Hid ((xB (tN l) i).kids=kids):=⟨_,yG rfl⟩;obtain⟨nk,HNK⟩:∃nk,Hid ((xB (tN l) i).kind=nk):=⟨_,yG rfl⟩;obtain⟨nn,HNN⟩:∃nn,Hid ((xB (tN l) i).num=nn):=⟨_,yG rfl⟩
  have HC:Hid (∀j,j<5→w.cell? ⟨b,off+i*5+j,none⟩=[Value.int .u8 (nk:Int),.int .i64 (YQ l i),.string (xH (xB (tN l) i).text),.int .i64 nn,.slice (hdN l i).1 kids.length (hdN l i).2][j]?):=yG (by
   rw[←HNK.out,←HNN.out,←HKS.out]
   exact hc)
  rw[HKS.out] at HKI HBD HIH hkb;clear hv hc hco hbo HEN;generalize YQ l i=np at *;generalize (xB (tN l) i).text=nt at *;generalize (hdN l i).1=kA at *;generalize (hdN l i).2=kc at *;obtain⟨W1,HW1⟩:∃W,Hid (w.alloc (.cells #[.slice (some ⟨b,off,none⟩) l.length ct,.slice a1 n1 c1,.slice a2 n2 c2,.slice (some ⟨bo,oo,none⟩) l.length co] 32)=W):=⟨_,yG rfl⟩;have HX1:Hid (Ext w W1):=yG (by rw[←HW1.out]; exact Ext.alloc _ _)
  have hB1:Blk W1 w.heap.size 32 #[.slice (some ⟨b,off,none⟩) l.length ct,.slice a1 n1 c1,.slice a2 n2 c2,.slice (some ⟨bo,oo,none⟩) l.length co]:=by rw[←HW1.out]; exact Blk.new _ _ _
  have e0:(w.alloc (.cells #[.slice (some ⟨b,off,none⟩) l.length ct,.slice a1 n1 c1,.slice a2 n2 c2,.slice (some ⟨bo,oo,none⟩) l.length co] 32)).cell? ⟨b,off+i*5,none⟩=some (.int .u8 (nk:Int)):=by rw[HW1.out]; exact(HX1.out.cell (p:=⟨b,_,none⟩) hb).trans (HC.out 0 (by decide))
  have e1:(w.alloc (.cells #[.slice (some ⟨b,off,none⟩) l.length ct,.slice a1 n1 c1,.slice a2 n2 c2,.slice (some ⟨bo,oo,none⟩) l.length co] 32)).cell? ⟨b,off+i*5+1,none⟩=some (.int .i64 np):=by rw[HW1.out]; exact(HX1.out.cell (p:=⟨b,_,none⟩) hb).trans (HC.out 1 (by decide))
  have e2:(w.alloc (.cells #[.slice (some ⟨b,off,none⟩) l.length ct,.slice a1 n1 c1,.slice a2 n2 c2,.slice (some ⟨bo,oo,none⟩) l.length co] 32)).cell? ⟨b,off+i*5+2,none⟩=some (.string (xH nt)):=by rw[HW1.out]; exact(HX1.out.cell (p:=⟨b,_,none⟩) hb).trans (HC.out 2 (by decide))
  have e3:(w.alloc (.cells #[.slice (some ⟨b,off,none⟩) l.length ct,.slice a1 n1 c1,.slice a2 n2 c2,.slice (some ⟨bo,oo,none⟩) l.length co] 32)).cell? ⟨b,off+i*5+3,none⟩=some (.int .i64 nn):=by rw[HW1.out]; exact(HX1.out.cell (p:=⟨b,_,none⟩) hb).trans (HC.out 3 (by decide))
  have e4:(w.alloc (.cells #[.slice (some ⟨b,off,none⟩) l.length ct,.slice a1 n1 c1,.slice a2 n2 c2,.slice (some ⟨bo,oo,none⟩) l.length co] 32)).cell? ⟨b,off+i*5+4,none⟩=some (.slice kA kids.length kc):=by rw[HW1.out]; exact(HX1.out.cell (p:=⟨b,_,none⟩) hb).trans (HC.out 4 (by decide))
  have g0:decide ((i:Int)<0)=false:=yR (by omega);have g1:decide ((l.length:Int)≤(i:Int))=false:=yR (by omega);have g1n:decide (l.length≤i)=false:=yR (by omega)
  have q0:(i:Int)<(l.length:Int):=by omega
  go_enter Tryz.func9,Tryz.ntmps9
  go_upto_region 4 with fail
  have HX2:Hid (Ext w ((w.alloc (.cells #[.slice (some ⟨b,off,none⟩) l.length ct,.slice a1 n1 c1,.slice a2 n2 c2,.slice (some ⟨bo,oo,none⟩) l.length co] 32)).alloc (.cells #[.int .u8 (nk:Int),.int .i64 np,.string (xH nt),.int .i64 nn,.slice kA kids.length kc] 38))):=yG ((Ext.alloc _ _).trans (Ext.alloc _ _));have HB2:Hid (Blk ((w.alloc (.cells #[.slice (some ⟨b,off,none⟩) l.length ct,.slice a1 n1 c1,.slice a2 n2 c2,.slice (some ⟨bo,oo,none⟩) l.length co] 32)).alloc (.cells #[.int .u8 (nk:Int),.int .i64 np,.string (xH nt),.int .i64 nn,.slice kA kids.length kc] 38)) w.heap.size 32 #[.slice (some ⟨b,off,none⟩) l.length ct,.slice a1 n1 c1,.slice a2 n2 c2,.slice (some ⟨bo,oo,none⟩) l.length co]):=yG ((Blk.new _ _ _).alloc _)
  have HN2:Hid (Blk ((w.alloc (.cells #[.slice (some ⟨b,off,none⟩) l.length ct,.slice a1 n1 c1,.slice a2 n2 c2,.slice (some ⟨bo,oo,none⟩) l.length co] 32)).alloc (.cells #[.int .u8 (nk:Int),.int .i64 np,.string (xH nt),.int .i64 nn,.slice kA kids.length kc] 38)) (w.heap.size+1) 38 #[.int .u8 (nk:Int),.int .i64 np,.string (xH nt),.int .i64 nn,.slice kA kids.length kc]):=yG (by
   have:=Blk.new (w.alloc (.cells #[.slice (some ⟨b,off,none⟩) l.length ct,.slice a1 n1 c1,.slice a2 n2 c2,.slice (some ⟨bo,oo,none⟩) l.length co] 32)) 38 #[.int .u8 (nk:Int),.int .i64 np,.string (xH nt),.int .i64 nn,.slice kA kids.length kc]
   rwa [yT] at this)
  have HNS:Hid (zBI (tN l) of f i 0=[]):=yG (by unfold zBI; split <;> rfl)
  clear e0 e1 e2 e3 e4 g0 g1 g1n q0 HW1 hB1 HX1 HC W1;generalize (w.alloc (.cells #[.slice (some ⟨b,off,none⟩) l.length ct,.slice a1 n1 c1,.slice a2 n2 c2,.slice (some ⟨bo,oo,none⟩) l.length co] 32)).alloc (.cells #[.int .u8 (nk:Int),.int .i64 np,.string (xH nt),.int .i64 nn,.slice kA kids.length kc] 38)=W2 at *;obtain⟨gp,HGP⟩:∃g,Hid (w.heap.size=g):=⟨_,yG rfl⟩;obtain⟨gn,HGN⟩:∃g,Hid (w.heap.size+1=g):=⟨_,yG rfl⟩;rw[HGN.out] at HN2;rw[HGP.out] at HB2;rw[HGN.out,HGP.out];have z4:W2.cell? ⟨gn,4,none⟩=some (.slice kA kids.length kc):=HN2.out.cell 4
  go_wp2_with fail
  clear z4
  go_loopw [6,8,35] (fun out _ i_ wr=>∃(k m:Nat) (A:Option Addr) (c:Nat),k≤kids.length∧i_=.int .i64 k∧out=.slice A m c∧(A=none→c=0)∧m=(zBI (tN l) of f i k).length∧Hid (wr.ownsRow W2.heap.size 60 3 (.slice A m c) m (tmC (zBI (tN l) of f i k)))∧Hid (Ext W2 wr)) (fun _ _ i_ _=>kids.length-(intOf i_).toNat)
  case atStart=>exact⟨0,0,none,0,zW _,rfl,rfl,fun _=>rfl,by rw[HNS.out]; rfl,yG (by rw[HNS.out]; exact zR _ _ _ _),yG (Ext.refl _)⟩
  case round=>
   obtain⟨k,m,A,c,hk,rfl,rfl,hA,hm,HO,HX⟩:=hrel;obtain⟨wa,rfl⟩:∃wa:World,wa=wr:=⟨_,rfl⟩;have HM:=yG hm;have HZ:=yG hA;clear hm hA
   have hml:m≤l.length:=by
    have h1:=zPB (tN l) of f i k;have h2:=HBD.out;rw[HKS.out] at h1;have h3:=HM.out;omega
   have y4:wa.cell? ⟨gn,4,none⟩=some (.slice kA kids.length kc):=(HN2.out.ext HX.out).cell 4;have y0:wa.cell? ⟨gn,0,none⟩=some (.int .u8 (nk:Int)):=(HN2.out.ext HX.out).cell 0;have y3:wa.cell? ⟨gn,3,none⟩=some (.int .i64 nn):=(HN2.out.ext HX.out).cell 3;have p0:wa.cell? ⟨gp,0,none⟩=some (.slice (some ⟨b,off,none⟩) l.length ct):=(HB2.out.ext HX.out).cell 0;have p1:wa.cell? ⟨gp,1,none⟩=some (.slice a1 n1 c1):=(HB2.out.ext HX.out).cell 1;have p2:wa.cell? ⟨gp,2,none⟩=some (.slice a2 n2 c2):=(HB2.out.ext HX.out).cell 2;have p3:wa.cell? ⟨gp,3,none⟩=some (.slice (some ⟨bo,oo,none⟩) l.length co):=(HB2.out.ext HX.out).cell 3
   by_cases hlt:k<kids.length
   ·obtain⟨kb,ko,rfl,hkb,hkc⟩:=(HKI.out.ext (HX2.out.trans HX.out)).at_ (by rw[vR]; omega);obtain⟨x,HXK⟩:∃x,Hid (kids[k]=x):=⟨_,yG rfl⟩
    have k0:wa.cell? ⟨kb,ko+k,none⟩=some (.int .i64 (x:Int)):=by
     rw[hkc k (by rw[vR]; exact hlt),←HXK.out];simp[ints,hlt]
    have q0:(k:Int)<(kids.length:Int):=by omega
    have hxm:x ∈ kids:=by rw[←HXK.out]; exact yO hlt
    have HXM:=yG hxm;clear hkc hkb hxm
    by_cases hin:23≤nk∧nk≤26
    ·have g0:decide ((23:Int)≤(nk:Int))=true:=yS (by omega);have g1:decide ((nk:Int)≤(26:Int))=true:=yS (by omega)
     have HST:Hid (zBI (tN l) of f i (k+1)=zBI (tN l) of f i k++vD (tN l) of f x):=yG (by
      have h:=zRe (t:=tN l) (of:=of) (f:=f) (i:=i) (k:=k) (by rw[HKS.out]; exact hlt) (by rw[HNK.out]; exact hin);rw[h]
      congr 2
      have:(xB (tN l) i).kids[k]?=kids[k]?:=by rw[HKS.out]
      rw[yJ (by rw[HKS.out]; exact hlt),yJ hlt,HXK.out] at this
      injection this)
     have HSM:Hid (m+(vD (tN l) of f x).length≤l.length):=yG (by
      have h1:=zPB (tN l) of f i (k+1);rw[HST.out,yP,HKS.out] at h1;have h2:=HBD.out;have h3:=HM.out
      omega)
     go_wp2_with fail
     refine(HIH.out x wa HXM.out (HV.out.ext (HX2.out.trans HX.out))).mono ?_;rintro e w3 ⟨A3,c3,rfl,hz3,hc3,hx3⟩;have HX3:=yG (HX.out.trans hx3);have HO3:=yG (zBt HO.out hx3);have HC3:=yG hc3;clear hx3 hc3 y4 y0 y3 p0 p1 p2 p3 k0;have hsz:=HX3.out.size;generalize hn3:(vD (tN l) of f x).length=n3 at *;have HN3:=yG hn3;clear hn3
     go_wp2_with (at_builtin; refine YN rfl (.tmp 47) (.tmp 50) 35 rfl W2.heap.size 60 i0 _ 3 24 Tryz.underlying35 hi0 hz0 hz1 hz2 rfl (by decide) _ m _ rfl HO3.out A3 n3 c3 (tmC (vD (tN l) of f x)) rfl hz3 (by rw[zFJ,HN3.out]) HC3.out (zFZ _) (by have:=HSM.out; unfold maxLen; omega) (by have:=HSM.out; omega) hsz ?_; intro A4 c4 w4 z4 ho4 hg4)
     have HX4:Hid (Ext W2 w4):=yG (Below.grown HX3.out hg4 hsz (fun q hq=>(HO3.out.lt q hq).1));have HO4:Hid (w4.ownsRow W2.heap.size 60 3 (.slice A4 (m+n3) c4) (m+n3) (tmC (zBI (tN l) of f i (k+1)))):=yG (by rw[HST.out,zGk]; exact ho4);clear ho4 hg4
     go_wp2_with fail
     go_roundw
     case rel=>
      exact⟨k+1,m+n3,A4,c4,by omega,by go_num,rfl,z4,by rw[HST.out,yP,←HM.out,HN3.out],HO4,HX4⟩
     case measure=>simp[intOf]; omega
    ·have HN0:Hid (zBI (tN l) of f i (k+1)=zBI (tN l) of f i k):=yG (by rw[zPw (by rw[HNK.out]; exact hin),zPw (by rw[HNK.out]; exact hin)])
     by_cases h23:23≤nk
     ·have g0:decide ((23:Int)≤(nk:Int))=true:=yS (by omega);have g1:decide ((nk:Int)≤(26:Int))=false:=yR (by omega)
      go_wp2_with fail
      go_roundw
      case rel=>exact⟨k+1,m,A,c,by omega,by go_num,rfl,HZ.out,by rw[HN0.out]; exact HM.out,yG (by rw[HN0.out]; exact HO.out),HX⟩
      case measure=>simp[intOf]; omega
     ·have g0:decide ((23:Int)≤(nk:Int))=false:=yR (by omega)
      go_wp2_with fail
      go_roundw
      case rel=>exact⟨k+1,m,A,c,by omega,by go_num,rfl,HZ.out,by rw[HN0.out]; exact HM.out,yG (by rw[HN0.out]; exact HO.out),HX⟩
      case measure=>simp[intOf]; omega
   ·obtain rfl:k=kids.length:=by omega
    have d0:decide ((kids.length:Int)<(kids.length:Int))=false:=by simp
    have hsz:=HX.out.size;have HXW:Hid (Ext w wa):=yG (HX2.out.trans HX.out);have HXB:Hid (Below w.heap.size w W2):=yG HX2.out;have HWW:=yG (HX2.out.size);have HOF3:=yG ((HXW.out.cell (p:=⟨bo,oo+i,none⟩) HOF.out.2).trans HOF.out.1);clear HX2 HV HIH HKI;obtain⟨ov,HOV⟩:∃ov,Hid (of.getD i (-1)=ov):=⟨_,yG rfl⟩
    by_cases h21:nk=21
    ·subst h21;have HT:Hid (ts=[.num nn]):=yG (by rw[←HTS.out,vD]; rw[HNK.out,if_pos rfl,HNN.out])
     go_wp2_with fail
     go_ret;refine⟨some ⟨wa.heap.size,0,none⟩,1,by rw[HT.out]; rfl,(fun h=>by cases h),?_,HXW.out.trans (Ext.alloc _ _)⟩;rw[HT.out];exact Cells.new wa 60 #[.int .u8 1,.int .i64 nn,.int .i64 0]
    by_cases h22:nk=22
    ·subst h22;have HT:Hid (ts=[.var ov]):=yG (by rw[←HTS.out,vD]; rw[HNK.out,if_neg (by decide),if_pos rfl,HOV.out])
     have o3:wa.cell? ⟨bo,oo+i,none⟩=some (.int .i64 ov):=by rw[HOF3.out,HOV.out]
     have q0:(i:Int)<(l.length:Int):=by omega
     go_wp2_with fail
     go_ret;refine⟨some ⟨wa.heap.size,0,none⟩,1,by rw[HT.out]; rfl,(fun h=>by cases h),?_,HXW.out.trans (Ext.alloc _ _)⟩;rw[HT.out];exact Cells.new wa 60 #[.int .u8 2,.int .i64 0,.int .i64 ov]
    by_cases h23:nk=23
    ·subst h23
     have HT:Hid (ts=zBI (tN l) of f i kids.length++[.plus]):=yG (by
      have h:=zFR (t:=tN l) (of:=of) (f:=f) (i:=i) (by rw[HNK.out]; omega);rw[←HTS.out,vD]
      try dsimp only
      rw[HNK.out,if_neg (by decide),if_neg (by decide),if_pos rfl,←h,HKS.out])
     have HCN:=yG (Cells.new wa 60 #[.int .u8 3,.int .i64 0,.int .i64 0]);have HO5:=yG (HO.out.alloc (.cells #[.int .u8 3,.int .i64 0,.int .i64 0] 60));have HSM:Hid (m+1≤9001):=yG (by omega);have hX5:Hid (Ext W2 (wa.alloc (.cells #[.int .u8 3,.int .i64 0,.int .i64 0] 60))):=yG (HX.out.trans (Ext.alloc _ _));have hsz5:=hX5.out.size
     go_wp2_with (at_builtin; refine YN rfl (.tmp 72) (.tmp 74) 35 rfl W2.heap.size 60 i0 _ 3 24 Tryz.underlying35 hi0 hz0 hz1 hz2 rfl (by decide) _ m _ rfl HO5.out (some ⟨wa.heap.size,0,none⟩) 1 1 (tmC [.plus]) rfl (fun h=>by cases h) (by rw[zFJ]; rfl) HCN.out (zFZ _) (by unfold maxLen; omega) (by omega) hsz5 ?_; intro A4 c4 w4 z4 ho4 hg4)
     have hX6:Ext W2 w4:=Below.grown hX5.out hg4 hsz5 (fun q hq=>(HO5.out.lt q hq).1);have HX6:Hid (Ext w w4):=yG (Below.trans HXB.out (Below.mono hX6 HWW.out));have HC6:Hid (Cells w4 A4 (tmC (zBI (tN l) of f i kids.length++[.plus]))):=yG (by rw[zGk]; exact Cells.own ho4);clear ho4 hg4 hX6
     go_wp2_with fail
     go_ret;refine⟨A4,c4,by rw[HT.out,yP,←HM.out]; rfl,z4,?_,HX6.out⟩;rw[HT.out];exact HC6.out
    by_cases h24:nk=24
    ·subst h24
     have HT:Hid (ts=zBI (tN l) of f i kids.length++[.minus]):=yG (by
      have h:=zFR (t:=tN l) (of:=of) (f:=f) (i:=i) (by rw[HNK.out]; omega);rw[←HTS.out,vD]
      try dsimp only
      rw[HNK.out,if_neg (by decide),if_neg (by decide),if_neg (by decide),if_pos rfl,←h,HKS.out])
     have HCN:=yG (Cells.new wa 60 #[.int .u8 4,.int .i64 0,.int .i64 0]);have HO5:=yG (HO.out.alloc (.cells #[.int .u8 4,.int .i64 0,.int .i64 0] 60));have HSM:Hid (m+1≤9001):=yG (by omega);have hX5:Hid (Ext W2 (wa.alloc (.cells #[.int .u8 4,.int .i64 0,.int .i64 0] 60))):=yG (HX.out.trans (Ext.alloc _ _));have hsz5:=hX5.out.size
     go_wp2_with (at_builtin; refine YN rfl (.tmp 78) (.tmp 80) 35 rfl W2.heap.size 60 i0 _ 3 24 Tryz.underlying35 hi0 hz0 hz1 hz2 rfl (by decide) _ m _ rfl HO5.out (some ⟨wa.heap.size,0,none⟩) 1 1 (tmC [.minus]) rfl (fun h=>by cases h) (by rw[zFJ]; rfl) HCN.out (zFZ _) (by unfold maxLen; omega) (by omega) hsz5 ?_; intro A4 c4 w4 z4 ho4 hg4)
     have hX6:Ext W2 w4:=Below.grown hX5.out hg4 hsz5 (fun q hq=>(HO5.out.lt q hq).1);have HX6:Hid (Ext w w4):=yG (Below.trans HXB.out (Below.mono hX6 HWW.out));have HC6:Hid (Cells w4 A4 (tmC (zBI (tN l) of f i kids.length++[.minus]))):=yG (by rw[zGk]; exact Cells.own ho4);clear ho4 hg4 hX6
     go_wp2_with fail
     go_ret;refine⟨A4,c4,by rw[HT.out,yP,←HM.out]; rfl,z4,?_,HX6.out⟩;rw[HT.out];exact HC6.out
    by_cases h25:nk=25
    ·subst h25
     have HT:Hid (ts=zBI (tN l) of f i kids.length++[.times]):=yG (by
      have h:=zFR (t:=tN l) (of:=of) (f:=f) (i:=i) (by rw[HNK.out]; omega);rw[←HTS.out,vD]
      try dsimp only
      rw[HNK.out,if_neg (by decide),if_neg (by decide),if_neg (by decide),if_neg (by decide),if_pos rfl,←h,HKS.out])
     have HCN:=yG (Cells.new wa 60 #[.int .u8 5,.int .i64 0,.int .i64 0]);have HO5:=yG (HO.out.alloc (.cells #[.int .u8 5,.int .i64 0,.int .i64 0] 60));have HSM:Hid (m+1≤9001):=yG (by omega);have hX5:Hid (Ext W2 (wa.alloc (.cells #[.int .u8 5,.int .i64 0,.int .i64 0] 60))):=yG (HX.out.trans (Ext.alloc _ _));have hsz5:=hX5.out.size
     go_wp2_with (at_builtin; refine YN rfl (.tmp 84) (.tmp 86) 35 rfl W2.heap.size 60 i0 _ 3 24 Tryz.underlying35 hi0 hz0 hz1 hz2 rfl (by decide) _ m _ rfl HO5.out (some ⟨wa.heap.size,0,none⟩) 1 1 (tmC [.times]) rfl (fun h=>by cases h) (by rw[zFJ]; rfl) HCN.out (zFZ _) (by unfold maxLen; omega) (by omega) hsz5 ?_; intro A4 c4 w4 z4 ho4 hg4)
     have hX6:Ext W2 w4:=Below.grown hX5.out hg4 hsz5 (fun q hq=>(HO5.out.lt q hq).1);have HX6:Hid (Ext w w4):=yG (Below.trans HXB.out (Below.mono hX6 HWW.out));have HC6:Hid (Cells w4 A4 (tmC (zBI (tN l) of f i kids.length++[.times]))):=yG (by rw[zGk]; exact Cells.own ho4);clear ho4 hg4 hX6
     go_wp2_with fail
     go_ret;refine⟨A4,c4,by rw[HT.out,yP,←HM.out]; rfl,z4,?_,HX6.out⟩;rw[HT.out];exact HC6.out
    by_cases h26:nk=26
    ·subst h26
     have HT:Hid (ts=zBI (tN l) of f i kids.length++[.neg]):=yG (by
      have h:=zFR (t:=tN l) (of:=of) (f:=f) (i:=i) (by rw[HNK.out]; omega);rw[←HTS.out,vD]
      try dsimp only
      rw[HNK.out,if_neg (by decide),if_neg (by decide),if_neg (by decide),if_neg (by decide),if_neg (by decide),if_pos rfl,←h,HKS.out])
     have HCN:=yG (Cells.new wa 60 #[.int .u8 6,.int .i64 0,.int .i64 0]);have HO5:=yG (HO.out.alloc (.cells #[.int .u8 6,.int .i64 0,.int .i64 0] 60));have HSM:Hid (m+1≤9001):=yG (by omega);have hX5:Hid (Ext W2 (wa.alloc (.cells #[.int .u8 6,.int .i64 0,.int .i64 0] 60))):=yG (HX.out.trans (Ext.alloc _ _));have hsz5:=hX5.out.size
     go_wp2_with (at_builtin; refine YN rfl (.tmp 90) (.tmp 92) 35 rfl W2.heap.size 60 i0 _ 3 24 Tryz.underlying35 hi0 hz0 hz1 hz2 rfl (by decide) _ m _ rfl HO5.out (some ⟨wa.heap.size,0,none⟩) 1 1 (tmC [.neg]) rfl (fun h=>by cases h) (by rw[zFJ]; rfl) HCN.out (zFZ _) (by unfold maxLen; omega) (by omega) hsz5 ?_; intro A4 c4 w4 z4 ho4 hg4)
     have hX6:Ext W2 w4:=Below.grown hX5.out hg4 hsz5 (fun q hq=>(HO5.out.lt q hq).1);have HX6:Hid (Ext w w4):=yG (Below.trans HXB.out (Below.mono hX6 HWW.out));have HC6:Hid (Cells w4 A4 (tmC (zBI (tN l) of f i kids.length++[.neg]))):=yG (by rw[zGk]; exact Cells.own ho4);clear ho4 hg4 hX6
     go_wp2_with fail
     go_ret;refine⟨A4,c4,by rw[HT.out,yP,←HM.out]; rfl,z4,?_,HX6.out⟩;rw[HT.out];exact HC6.out
    ·have HT:Hid (ts=[]):=yG (by
      rw[←HTS.out,vD]
      try dsimp only
      rw[HNK.out,if_neg h21,if_neg h22,if_neg h23,if_neg h24,if_neg h25,if_neg h26])
     have g1:((nk:Int)==21)=false:=beq_eq_false_iff_ne.2 (by omega);have g2:((nk:Int)==22)=false:=beq_eq_false_iff_ne.2 (by omega);have g3:((nk:Int)==23)=false:=beq_eq_false_iff_ne.2 (by omega);have g4:((nk:Int)==24)=false:=beq_eq_false_iff_ne.2 (by omega);have g5:((nk:Int)==25)=false:=beq_eq_false_iff_ne.2 (by omega);have g6:((nk:Int)==26)=false:=beq_eq_false_iff_ne.2 (by omega)
     go_wp2_with fail
     go_ret;exact⟨none,0,by rw[HT.out]; rfl,fun _=>rfl,by rw[HT.out]; exact .inl rfl,HXW.out⟩
theorem zHm {t:List Nd}(F:zD3 t)(of vars:List Int)(hv:∀i,i<t.length→(xB t i).kind=22→0≤of.getD i (-1)∧of.getD i (-1)<(vars.length:Int))(i:Nat)(hi:i<t.length)(hx:zAS (xB t i).kind):EV.zA2 vars ((vD t of t.length i).map tmD)=(XA A64 t of vars t.length i,true):=by
 have h:=zOz F.right F.exT A64 of vars hv i hi hx;unfold zSK at h;unfold EV.zA2;rw[zA4]
 split at h
 ·rename_i x hr;rw[hr];injection h with h;rw[h]
 ·cases h
structure zOY (t:List Nd)(of vars:List Int):Prop where
 R:XK t
 E:ExT t
 vars:∀i,i<t.length→(xB t i).kind=22→0≤of.getD i (-1)∧of.getD i (-1)<(vars.length:Int)
theorem zEw (l:List Tx)(of vars:List Int)(hM:zOY (tN l) of vars)(hlen:l.length≤9000)(hkl:∀i,(xB (tN l) i).kids.length≤9000)(hvl:vars.length≤9000)
  (tA Ao vA:Option Addr) (ct co vc m nv:Nat) (hm:m=l.length) (hnv:nv=vars.length):∀(f i:Nat) (w:World),l.length≤f+i→i<l.length→zAS (xB (tN l) i).kind→PV w tA l Ao of→Cells w vA (EV.YW vars) →
  Calls Tryz.prog 11 #[.agg #[.slice tA m ct],.slice Ao m co,.int .i64 (i:Int),.slice vA nv vc] w fun e w'=>e=.returned (.int .i64 (XA A64 (tN l) of vars f i))∧Ext w w'
 | 0,i,w,hf,hi,hx,hv,hw=>absurd hf (by omega)
 | f+1,i,w,hf,hi,hx,hv,hw=>by
  subst hm hnv;have hke:=zLQ hM.R (t:=tN l) (i:=i) (by rw[jF]; exact hi) hx;have hup:=hM.R.up i;rw[jF] at hke hup;have IH:=fun (k:Nat) (w:World) (hk:k ∈ (xB (tN l) i).kids) (hv:PV w tA l Ao of) (hw:Cells w vA (EV.YW vars))=>zEw l of vars hM hlen hkl hvl tA Ao vA ct co vc l.length vars.length rfl rfl f k w (by have:=(hup k hk).1; omega) (hup k hk).2 (hke k hk).1 hv hw;have HIH:=yG IH;clear IH hke hup;have H2:=yG (hM.E.two i (by rw[jF]; exact hi));have H1:=yG (hM.E.one i (by rw[jF]; exact hi));have HVR:=yG (hM.vars i (by rw[jF]; exact hi));have hkb:=hkl i;obtain⟨b,off,rfl,hb,hc⟩:=hv.at_ i hi;obtain⟨bo,oo,rfl,hbo,hco⟩:=hv.zT1 i hi;have HOF:Hid (w.cell? ⟨bo,oo+i,none⟩=some (.int .i64 (of.getD i (-1)))∧bo<w.heap.size):=yG ⟨hco,hbo⟩;have HKI:=yG (hv.kid i hi);have HV:=yG hv;have HW:=yG hw;have HHX:=yG hx;obtain⟨mv,HMV⟩:∃mv,Hid (XA A64 (tN l) of vars (f+1) i=mv):=⟨_,yG rfl⟩;rw[HMV.out];obtain⟨kids,HKS⟩:∃kids,Hid ((xB (tN l) i).kids=kids):=⟨_,yG rfl⟩;obtain⟨nk,HNK⟩:∃nk,Hid ((xB (tN l) i).kind=nk):=⟨_,yG rfl⟩;obtain⟨nn,HNN⟩:∃nn,Hid ((xB (tN l) i).num=nn):=⟨_,yG rfl⟩
  have HC:Hid (∀j,j<5→w.cell? ⟨b,off+i*5+j,none⟩=[Value.int .u8 (nk:Int),.int .i64 (YQ l i),.string (xH (xB (tN l) i).text),.int .i64 nn,.slice (hdN l i).1 kids.length (hdN l i).2][j]?):=yG (by
   rw[←HNK.out,←HNN.out,←HKS.out]
   exact hc)
  rw[HKS.out] at HKI HIH hkb H2 H1;rw[HNK.out] at H2 H1 HVR HHX;clear hv hc hco hbo hw hx;generalize YQ l i=np at *;generalize (xB (tN l) i).text=nt at *;generalize (hdN l i).1=kA at *;generalize (hdN l i).2=kc at *;have HX1:Hid (Ext w (w.alloc (.cells #[.slice (some ⟨b,off,none⟩) l.length ct] 27))):=yG (Ext.alloc _ _);have e0:(w.alloc (.cells #[.slice (some ⟨b,off,none⟩) l.length ct] 27)).cell? ⟨b,off+i*5,none⟩=some (.int .u8 (nk:Int)):=(HX1.out.cell (p:=⟨b,_,none⟩) hb).trans (HC.out 0 (by decide));have e1:(w.alloc (.cells #[.slice (some ⟨b,off,none⟩) l.length ct] 27)).cell? ⟨b,off+i*5+1,none⟩=some (.int .i64 np):=(HX1.out.cell (p:=⟨b,_,none⟩) hb).trans (HC.out 1 (by decide));have e2:(w.alloc (.cells #[.slice (some ⟨b,off,none⟩) l.length ct] 27)).cell? ⟨b,off+i*5+2,none⟩=some (.string (xH nt)):=(HX1.out.cell (p:=⟨b,_,none⟩) hb).trans (HC.out 2 (by decide));have e3:(w.alloc (.cells #[.slice (some ⟨b,off,none⟩) l.length ct] 27)).cell? ⟨b,off+i*5+3,none⟩=some (.int .i64 nn):=(HX1.out.cell (p:=⟨b,_,none⟩) hb).trans (HC.out 3 (by decide));have e4:(w.alloc (.cells #[.slice (some ⟨b,off,none⟩) l.length ct] 27)).cell? ⟨b,off+i*5+4,none⟩=some (.slice kA kids.length kc):=(HX1.out.cell (p:=⟨b,_,none⟩) hb).trans (HC.out 4 (by decide))
  have q0:(i:Int)<(l.length:Int):=by omega
  go_enter Tryz.func11,Tryz.ntmps11
  go_upto_region 2 with fail
  have HX2:Hid (Ext w ((w.alloc (.cells #[.slice (some ⟨b,off,none⟩) l.length ct] 27)).alloc (.cells #[.int .u8 (nk:Int),.int .i64 np,.string (xH nt),.int .i64 nn,.slice kA kids.length kc] 38))):=yG ((Ext.alloc _ _).trans (Ext.alloc _ _));have HB2:Hid (Blk ((w.alloc (.cells #[.slice (some ⟨b,off,none⟩) l.length ct] 27)).alloc (.cells #[.int .u8 (nk:Int),.int .i64 np,.string (xH nt),.int .i64 nn,.slice kA kids.length kc] 38)) w.heap.size 27 #[.slice (some ⟨b,off,none⟩) l.length ct]):=yG ((Blk.new _ _ _).alloc _)
  have HN2:Hid (Blk ((w.alloc (.cells #[.slice (some ⟨b,off,none⟩) l.length ct] 27)).alloc (.cells #[.int .u8 (nk:Int),.int .i64 np,.string (xH nt),.int .i64 nn,.slice kA kids.length kc] 38)) (w.heap.size+1) 38 #[.int .u8 (nk:Int),.int .i64 np,.string (xH nt),.int .i64 nn,.slice kA kids.length kc]):=yG (by
   have:=Blk.new (w.alloc (.cells #[.slice (some ⟨b,off,none⟩) l.length ct] 27)) 38 #[.int .u8 (nk:Int),.int .i64 np,.string (xH nt),.int .i64 nn,.slice kA kids.length kc]
   rwa [yT] at this)
  clear e0 e1 e2 e3 e4 HX1 HC;generalize (w.alloc (.cells #[.slice (some ⟨b,off,none⟩) l.length ct] 27)).alloc (.cells #[.int .u8 (nk:Int),.int .i64 np,.string (xH nt),.int .i64 nn,.slice kA kids.length kc] 38)=W2 at *;obtain⟨gp,HGP⟩:∃g,Hid (w.heap.size=g):=⟨_,yG rfl⟩;obtain⟨gn,HGN⟩:∃g,Hid (w.heap.size+1=g):=⟨_,yG rfl⟩;rw[HGN.out] at HN2;rw[HGP.out] at HB2;rw[HGN.out,HGP.out];have y0:W2.cell? ⟨gn,0,none⟩=some (.int .u8 (nk:Int)):=HN2.out.cell 0;have y3:W2.cell? ⟨gn,3,none⟩=some (.int .i64 nn):=HN2.out.cell 3;have y4:W2.cell? ⟨gn,4,none⟩=some (.slice kA kids.length kc):=HN2.out.cell 4;have p0:W2.cell? ⟨gp,0,none⟩=some (.slice (some ⟨b,off,none⟩) l.length ct):=HB2.out.cell 0;have gnl:gn<W2.heap.size:=HN2.out.lt;have gpl:gp<W2.heap.size:=HB2.out.lt
  by_cases h21:nk=21
  ·subst h21;have HT:Hid (mv=nn):=yG (by rw[←HMV.out,XA,HNK.out,if_pos rfl,HNN.out])
   go_wp2_with fail
   go_ret;exact⟨by rw[HT.out]; rfl,HX2.out⟩
  by_cases h22:nk=22
  ·subst h22;obtain⟨hv0,hv1⟩:=HVR.out rfl;obtain⟨q,hq⟩:∃q:Nat,of.getD i (-1)=(q:Int):=⟨(of.getD i (-1)).toNat,by omega⟩;have HT:Hid (mv=vars.getD q 0):=yG (by rw[←HMV.out,XA,HNK.out,if_neg (by decide),if_pos rfl,hq,zI]);have o3:W2.cell? ⟨bo,oo+i,none⟩=some (.int .i64 (q:Int)):=((HX2.out.cell (p:=⟨bo,oo+i,none⟩) HOF.out.2).trans HOF.out.1).trans (by rw[hq])
   have hql:q<vars.length:=by omega
   obtain⟨vb,vo,rfl,hvb,hvc⟩:=HW.out.at_ (by simp[EV.YW]; omega)
   have v3:W2.cell? ⟨vb,vo+q,none⟩=some (.int .i64 (vars.getD q 0)):=by
    refine((HX2.out.cell (p:=⟨vb,vo+q,none⟩) hvb).trans (hvc q (by simp[EV.YW]; omega))).trans ?_;simp[EV.YW,hql]
   have q1:(q:Int)<(vars.length:Int):=by omega
   clear hvc hq hv0 hv1;generalize vars.getD q 0=vq at *
   go_wp2_with fail
   go_ret;exact⟨by rw[HT.out]; rfl,HX2.out⟩
  by_cases h26:nk=26
  ·subst h26;obtain⟨x,hx⟩:=H1.out rfl;subst hx;have HT:Hid (mv=wrap64 (-(XA A64 (tN l) of vars f x))):=yG (by rw[←HMV.out,XA,HNK.out,if_neg (by decide),if_neg (by decide),if_pos rfl,zCN HKS.out]; show wrap64 (0-_)=_; rw[Int.zero_sub]);have HI:=yG (HIH.out x · (by simp));obtain⟨kb,ko,rfl,hkb,hkc⟩:=(HKI.out.ext HX2.out).at_ (by simp[ints]);have k0:W2.cell? ⟨kb,ko,none⟩=some (.int .i64 (x:Int)):=hkc 0 (by simp[ints]);generalize XA A64 (tN l) of vars f x=mx at *
   go_upto_region 8 with fail
   apply ZP (by kernel_rfl) (by kernel_rfl) (by kernel_rfl);apply yZ (.agg #[.slice (some ⟨b,off,none⟩) l.length ct]) rfl rfl rfl
   ·intro w' hw' hH;clear hH;have z0:=(hw'.cell (p:=⟨gp,0,none⟩) gpl).trans p0;simp[xA,go_sem,z0,q0];exact Ext.refl _
   apply yZ (.slice (some ⟨bo,oo,none⟩) l.length co) rfl rfl rfl
   ·intro w' hw' hH;clear hH;simp[xA,go_sem,q0];exact Ext.refl _
   apply yZ (.pointer (some ⟨gn,4,none⟩)) rfl rfl rfl
   ·intro w' hw' hH;clear hH;simp[xA,go_sem,q0];exact Ext.refl _
   apply yZ (.slice (some ⟨kb,ko,none⟩) 1 kc) rfl rfl rfl
   ·intro w' hw' hH;clear hH;have z0:=(hw'.cell (p:=⟨gn,4,none⟩) gnl).trans y4;simp[xA,go_sem,z0,q0];exact Ext.refl _
   apply yZ (.pointer (some ⟨kb,ko,none⟩)) rfl rfl rfl
   ·intro w' hw' hH;clear hH;simp[xA,go_sem,q0];exact Ext.refl _
   apply yZ (.int .i64 (x:Int)) rfl rfl rfl
   ·intro w' hw' hH;clear hH;have z0:=(hw'.cell (p:=⟨kb,ko,none⟩) hkb).trans k0;simp[xA,go_sem,z0,q0];exact Ext.refl _
   apply yZ (.slice vA vars.length vc) rfl rfl rfl
   ·intro w' hw' hH;clear hH;simp[xA,go_sem,q0];exact Ext.refl _
   apply yZ (.int .i64 mx) rfl rfl rfl
   ·intro w' hw' hH;clear hH;simp[xA,go_sem];refine(HI.out w' (HV.out.ext (HX2.out.trans hw')) (HW.out.ext (HX2.out.trans hw'))).mono ?_;rintro e w2 ⟨rfl,hx⟩;exact⟨_,rfl,rfl,hx⟩
   apply yZ (.int .i64 (wrap64 (-mx))) rfl rfl rfl
   ·intro w' hw' hH;clear hH;simp[xA,go_sem];exact⟨IntWalk.i64_left _,Ext.refl _⟩
   apply yZ (.int .i64 (wrap64 (-mx))) rfl rfl rfl
   ·intro w' hw' hH;clear hH;simp[xA,go_sem,q0];exact Ext.refl _
   apply xX;intro w2 hw2 hH;clear hH;have HX3:Hid (Ext w w2):=yG (HX2.out.trans hw2);clear hw2
   try simp only[Act.put,yD,yF,yE]
   go_wp2_with fail
   go_ret;exact⟨by rw[HT.out]; rfl,HX3.out⟩
  have h345:nk=23∨nk=24∨nk=25:=by have:=HHX.out; unfold zAS at this; omega
  obtain⟨x,y,hxy⟩:=H2.out h345;subst hxy;have HI:=yG (HIH.out x · (by simp));have HJ:=yG (HIH.out y · (by simp))
  have HT:Hid (mv=if nk=23 then wrap64 (XA A64 (tN l) of vars f x+XA A64 (tN l) of vars f y) else if nk=24 then wrap64 (XA A64 (tN l) of vars f x-XA A64 (tN l) of vars f y) else wrap64 (XA A64 (tN l) of vars f x*XA A64 (tN l) of vars f y)):=yG (by
   rw[←HMV.out,XA,HNK.out,if_neg h21,if_neg h22,if_neg h26,zCN HKS.out,zHs HKS.out]
   rfl)
  obtain⟨kb,ko,rfl,hkb,hkc⟩:=(HKI.out.ext HX2.out).at_ (by simp[ints]);have k0:W2.cell? ⟨kb,ko,none⟩=some (.int .i64 (x:Int)):=hkc 0 (by simp[ints]);have k1:W2.cell? ⟨kb,ko+1,none⟩=some (.int .i64 (y:Int)):=hkc 1 (by simp[ints]);generalize XA A64 (tN l) of vars f x=mx at *;generalize XA A64 (tN l) of vars f y=my at *;have g1:((nk:Int)==21)=false:=beq_eq_false_iff_ne.2 (by omega);have g2:((nk:Int)==22)=false:=beq_eq_false_iff_ne.2 (by omega);have g6:((nk:Int)==26)=false:=beq_eq_false_iff_ne.2 (by omega)
  go_upto_region 9 with fail
  apply ZP (by kernel_rfl) (by kernel_rfl) (by kernel_rfl);apply yZ (.agg #[.slice (some ⟨b,off,none⟩) l.length ct]) rfl rfl rfl
  ·intro w' hw' hH;clear hH;have z0:=(hw'.cell (p:=⟨gp,0,none⟩) gpl).trans p0;simp[xA,go_sem,z0,q0];exact Ext.refl _
  apply yZ (.slice (some ⟨bo,oo,none⟩) l.length co) rfl rfl rfl
  ·intro w' hw' hH;clear hH;simp[xA,go_sem,q0];exact Ext.refl _
  apply yZ (.pointer (some ⟨gn,4,none⟩)) rfl rfl rfl
  ·intro w' hw' hH;clear hH;simp[xA,go_sem,q0];exact Ext.refl _
  apply yZ (.slice (some ⟨kb,ko,none⟩) 2 kc) rfl rfl rfl
  ·intro w' hw' hH;clear hH;have z0:=(hw'.cell (p:=⟨gn,4,none⟩) gnl).trans y4;simp[xA,go_sem,z0,q0];exact Ext.refl _
  apply yZ (.pointer (some ⟨kb,ko,none⟩)) rfl rfl rfl
  ·intro w' hw' hH;clear hH;simp[xA,go_sem,q0];exact Ext.refl _
  apply yZ (.int .i64 (x:Int)) rfl rfl rfl
  ·intro w' hw' hH;clear hH;have z0:=(hw'.cell (p:=⟨kb,ko,none⟩) hkb).trans k0;simp[xA,go_sem,z0,q0];exact Ext.refl _
  apply yZ (.slice vA vars.length vc) rfl rfl rfl
  ·intro w' hw' hH;clear hH;simp[xA,go_sem,q0];exact Ext.refl _
  apply yZ (.int .i64 mx) rfl rfl rfl
  ·intro w' hw' hH;clear hH;simp[xA,go_sem];refine(HI.out w' (HV.out.ext (HX2.out.trans hw')) (HW.out.ext (HX2.out.trans hw'))).mono ?_;rintro e w2 ⟨rfl,hx⟩;exact⟨_,rfl,rfl,hx⟩
  apply yZ (.agg #[.slice (some ⟨b,off,none⟩) l.length ct]) rfl rfl rfl
  ·intro w' hw' hH;clear hH;have z0:=(hw'.cell (p:=⟨gp,0,none⟩) gpl).trans p0;simp[xA,go_sem,z0,q0];exact Ext.refl _
  apply yZ (.slice (some ⟨bo,oo,none⟩) l.length co) rfl rfl rfl
  ·intro w' hw' hH;clear hH;simp[xA,go_sem,q0];exact Ext.refl _
  apply yZ (.pointer (some ⟨gn,4,none⟩)) rfl rfl rfl
  ·intro w' hw' hH;clear hH;simp[xA,go_sem,q0];exact Ext.refl _
  apply yZ (.slice (some ⟨kb,ko,none⟩) 2 kc) rfl rfl rfl
  ·intro w' hw' hH;clear hH;have z0:=(hw'.cell (p:=⟨gn,4,none⟩) gnl).trans y4;simp[xA,go_sem,z0,q0];exact Ext.refl _
  apply yZ (.pointer (some ⟨kb,ko+1,none⟩)) rfl rfl rfl
  ·intro w' hw' hH;clear hH;simp[xA,go_sem,q0];exact Ext.refl _
  apply yZ (.int .i64 (y:Int)) rfl rfl rfl
  ·intro w' hw' hH;clear hH;have z0:=(hw'.cell (p:=⟨kb,ko+1,none⟩) hkb).trans k1;simp[xA,go_sem,z0,q0];exact Ext.refl _
  apply yZ (.slice vA vars.length vc) rfl rfl rfl
  ·intro w' hw' hH;clear hH;simp[xA,go_sem,q0];exact Ext.refl _
  apply yZ (.int .i64 my) rfl rfl rfl
  ·intro w' hw' hH;clear hH;simp[xA,go_sem];refine(HJ.out w' (HV.out.ext (HX2.out.trans hw')) (HW.out.ext (HX2.out.trans hw'))).mono ?_;rintro e w2 ⟨rfl,hx⟩;exact⟨_,rfl,rfl,hx⟩
  apply yZ (.int .i64 mx) rfl rfl rfl
  ·intro w' hw' hH;clear hH;simp[xA,go_sem,q0];exact Ext.refl _
  apply yZ (.int .i64 my) rfl rfl rfl
  ·intro w' hw' hH;clear hH;simp[xA,go_sem,q0];exact Ext.refl _
  apply xX;intro w2 hw2 hH;clear hH;have HX3:Hid (Ext w w2):=yG (HX2.out.trans hw2);have y0':w2.cell? ⟨gn,0,none⟩=some (.int .u8 (nk:Int)):=(HN2.out.ext hw2).cell 0;clear hw2 g1 g2 g6
  try simp only[Act.put,yD,yF,yE]
  rcases h345 with rfl | rfl | rfl
  all_goals
   go_wp2_with fail
   go_ret;exact⟨by rw[HT.out]; rfl,HX3.out⟩
end Go.Proofs.YtbadjmmjbpeocaaGreat
namespace Go.Proofs.YtbadjmmjbpeocaaGreat.EV
open Go Go.RowKit
theorem zFz (A V:Option Addr)(l:List zBy)(vars:List Int)(n m c d:Nat)(a:Int)(b:Bool)(w:World)(hn:n=l.length)(hm:m=vars.length)(hl:l.length≤9000)(hv:vars.length≤9000)(hA:Cells w A (zBV l))(hV:Cells w V (YW vars))(hok:∀t ∈ l,t.ok)(hvk:∀n ∈ vars,-9223372036854775808≤n∧n≤9223372036854775807)(h:Hid (zA2 vars l=(a,b))) :
  Calls Tryz.prog 10 #[.slice A n c,.slice V m d] w fun e w'=>e=.returned (.tuple #[.int .i64 a,.bool b])∧Ext w w':=by
 subst hn hm;refine(zRN A V l vars c d w hl hv hA hV hok hvk).mono fun e w' ⟨he,hx⟩=>⟨?_,hx⟩;rw[he,h.out]
theorem zC8 (w:World)(g:Nat)(t:TypeId)(cs:Array Value)(hg:g=w.heap.size):Cells (w.alloc (.cells cs t)) (some ⟨g,0,none⟩) cs.toList:=by
 subst hg; exact Cells.new w t cs
theorem tok (k n v:Int)(h:0≤k∧k<256)(hn:-9223372036854775808≤n∧n≤9223372036854775807)(hv:-9223372036854775808≤v∧v≤9223372036854775807):zBy.ok (k,n,v):=⟨h,hn,hv⟩
theorem zIc {l:List zBy}(h:l.all (fun t=>decide (0≤t.1∧t.1<256)&&decide (-9223372036854775808≤t.2.1∧t.2.1≤9223372036854775807)&&decide (-9223372036854775808≤t.2.2∧t.2.2≤9223372036854775807))=true):∀t ∈ l,t.ok:=by
 intro t ht
 have:=List.all_eq_true.1 h t ht
 simp only[zG,zF] at this;exact⟨this.1.1,this.1.2,this.2⟩
theorem zTW (w:World):Calls Tryz.prog 7 #[] w fun e w'=>e=.returned (.bool true)∧Ext w w':=by
 have hv56:∀n ∈ [(5:Int),6],-9223372036854775808≤n∧n≤9223372036854775807:=by
  intro n hn; simp at hn; omega
 have HV56:=yG hv56;clear hv56
 go_enter Tryz.func7,Tryz.ntmps7
 go_wp2_with fail
 have HV:Hid (Cells (w.alloc (.cells #[.int .i64 5,.int .i64 6] 2)) (some ⟨w.heap.size,0,none⟩) (YW [5,6])):=zC8 w _ 2 #[.int .i64 5,.int .i64 6] rfl;have HX0:Hid (Ext w (w.alloc (.cells #[.int .i64 5,.int .i64 6] 2))):=Ext.alloc _ _;rw[show w.heap.size+1=(w.alloc (.cells #[.int .i64 5,.int .i64 6] 2)).heap.size from by simp];generalize hVA:(some ⟨w.heap.size,0,none⟩:Option Addr)=V at *;clear hVA;generalize w.alloc (.cells #[.int .i64 5,.int .i64 6] 2)=w0 at *;refine(zFz _ _ [(2,0,0),(1,2,0),(5,0,0),(2,0,1),(4,0,0)] [5,6] _ _ _ _ 4 true _ rfl rfl (by decide) (by decide) (zC8 w0 _ 60 _ rfl) (HV.out.ext (Ext.alloc _ _)) (zIc (by decide)) HV56.out (yG (by decide +kernel))).mono ?_;rintro e w1 ⟨rfl,hx1⟩;have HX1:Hid (Ext w0 w1):=Ext.trans (Ext.alloc _ _) hx1;clear hx1
 go_wp2_with fail
 refine(zFz _ _ [(1,1,0),(3,0,0)] [5,6] _ _ _ _ 0 false _ rfl rfl (by decide) (by decide) (zC8 w1 _ 60 _ rfl) (HV.out.ext (Ext.trans HX1.out (Ext.alloc _ _))) (zIc (by decide)) HV56.out (yG (by decide +kernel))).mono ?_;rintro e w2 ⟨rfl,hx2⟩;have HX2:Hid (Ext w0 w2):=Ext.trans HX1.out (Ext.trans (Ext.alloc _ _) hx2);clear hx2
 go_wp2_with fail
 refine(zFz _ _ [] [5,6] _ _ _ _ 0 false _ rfl rfl (by decide) (by decide) (.inl rfl) (HV.out.ext HX2.out) (zIc (by decide)) HV56.out (yG (by decide +kernel))).mono ?_;rintro e w3 ⟨rfl,hx3⟩;have HX3:Hid (Ext w0 w3):=Ext.trans HX2.out hx3;clear hx3
 go_wp2_with fail
 refine(zFz _ _ [(2,0,2)] [5,6] _ _ _ _ 0 false _ rfl rfl (by decide) (by decide) (zC8 w3 _ 60 _ rfl) (HV.out.ext (Ext.trans HX3.out (Ext.alloc _ _))) (zIc (by decide)) HV56.out (yG (by decide +kernel))).mono ?_;rintro e w4 ⟨rfl,hx4⟩;have HX4:Hid (Ext w0 w4):=Ext.trans HX3.out (Ext.trans (Ext.alloc _ _) hx4);clear hx4
 go_wp2_with fail
 refine(zFz _ _ [(1,1,0),(6,0,0)] [5,6] _ _ _ _ (-1) true _ rfl rfl (by decide) (by decide) (zC8 w4 _ 60 _ rfl) (HV.out.ext (Ext.trans HX4.out (Ext.alloc _ _))) (zIc (by decide)) HV56.out (yG (by decide +kernel))).mono ?_;rintro e w5 ⟨rfl,hx5⟩;have HX5:Hid (Ext w w5):=Ext.trans HX0.out (Ext.trans HX4.out (Ext.trans (Ext.alloc _ _) hx5));clear hx5
 go_wp2_with fail
 go_ret;exact⟨rfl,HX5.out⟩
end Go.Proofs.YtbadjmmjbpeocaaGreat.EV
