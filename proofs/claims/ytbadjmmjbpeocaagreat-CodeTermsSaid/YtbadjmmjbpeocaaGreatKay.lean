/- The program's program: tables and procedures to the end. (and what follows of it). The conditions stand at each lemma. -/
import Derived.Test.YtbadjmmjbpeocaaGreatKaa
import Derived.Test.YtbadjmmjbpeocaaGreatKax
import Derived.Test.YtbadjmmjbpeocaaGreatKaf
set_option linter.unusedVariables false
set_option linter.unusedSimpArgs false
set_option maxRecDepth 100000
set_option maxHeartbeats 16000000
namespace Go.Proofs.YtbadjmmjbpeocaaGreat
open Go Go.RowKit
theorem zRd {f:Nat}{s:Ps}(h:s.hd.kind=4):YB (f+1) s=.ok () s:=by unfold YB; rw[if_pos h]
theorem zMP {f:Nat}{s:Ps}(h:s.hd.kind≠4)(h1:isP [116,97,98,108,101] s=true):YB (f+1) s=(zCW 0 s).bind fun _ s=>YB f s:=by rw[YB,if_neg h,if_pos h1]
theorem zN2 {f:Nat}{s:Ps}(h:s.hd.kind≠4)(h1:isP [116,97,98,108,101] s=false)(h2:isP [112,114,111,99] s=true):YB (f+1) s=(zEt 0 s).bind fun _ s=>YB f s:=by
 rw[YB,if_neg h,h1,if_pos h2]
 rfl
theorem zQn {f:Nat}{s:Ps}(h:s.hd.kind≠4)(h1:isP [116,97,98,108,101] s=false)(h2:isP [112,114,111,99] s=false):YB (f+1) s=.err 50 s.hd.at_:=by
 rw[YB,if_neg h,h1,h2]
 rfl
theorem zJ1 (w:World)(p B gp:Nat)(s:Ps)(R:xU)(i:Nat)(hi0:i=0)(h:PS w p B s R)(hG:Good s)(hi:i<s.nd.length)(hbig:s.phi≤1000000)(hb:Safe w (xK p R) gp 99 #[.pointer (some ⟨p,0,none⟩)]) :
  Calls Tryz.prog 72 #[.int .i64 (i:Int),.pointer (some ⟨gp,0,none⟩)] w (xM w p B R (YB (s.ts.length+1) s)):=by
 have HS0:=yG (Ran.refl h hG);have HI:=yG hi;have HBG:=yG hbig;have HBX:=yG hb;have HI0:=yG hi0;have hf0:=zDd;obtain⟨whole,HL0⟩:∃x,Hid (x=YB (s.ts.length+1) s):=⟨_,yG rfl⟩;rw[←HL0.out];clear h hG hi hbig hb hi0
 go_enter Tryz.func72,Tryz.ntmps72
 go_wp2_with fail
 go_loopw [] (fun wr=>∃(s':Ps) (R':xU) (m:Nat),Hid (Ran w p B R s wr R' s')∧Hid (s'.ts.length<m)∧Hid (whole=YB m s')) (fun wr=>JM p wr)
 case atStart=>exact⟨s,R,s.ts.length+1,HS0,yG (Nat.lt_succ_self _),HL0⟩
 case round=>
  obtain⟨s',R',m,HS,HM,HL⟩:=hrel;obtain⟨wa,rfl⟩:∃wa:World,wa=wr:=⟨_,rfl⟩;obtain⟨m',rfl⟩:∃m',m=m'+1:=⟨m-1,by have:=HM.out; omega⟩;have cb:=(HBX.out.xE HS.out.mv).1.cell 0;simp only[yL,yM] at cb
  by_cases hk:s'.hd.kind=4
  ·have HR:Hid (whole=.ok () s'):=yG (by rw[HL.out,zRd hk])
   have b4:((s'.hd.kind:Int) != 4)=false:=by rw[hk]; rfl
   have c4:(s'.hd.kind:Int)=4:=by rw[hk]; rfl
   clear hk
   go_wp2_with fail
   refine(ZF wa p s' R' HS.out.ps.ts).mono ?_;rintro e w2 ⟨rfl,hx⟩;have HS2:=yG (HS.out.ext hx);clear hx cb;unfold ZZ
   go_wp2_with fail
   go_end0;rw[HR.out];exact xM.ok HS2.out.okp
  ·have HK:=yG hk
   have b4:((s'.hd.kind:Int) != 4)=true:=by rw[zE]; omega
   have c4:¬(s'.hd.kind:Int)=4:=by omega
   clear hk
   go_wp2_with fail
   refine(ZF wa p s' R' HS.out.ps.ts).mono ?_;rintro e w2 ⟨rfl,hx⟩;have HS2:=yG (HS.out.ext hx);clear hx cb;unfold ZZ;have cb2:=(HBX.out.xE HS2.out.mv).1.cell 0;simp only[yL,yM] at cb2
   cases hi:isP [116,97,98,108,101] s' with
   | true=>
    have HIT:=yG hi;have HQ:Hid (whole=(zCW i s').bind fun _ s=>YB m' s):=yG (by rw[HL.out,HI0.out,zMP HK.out hi]);clear hi
    go_wp2_with fail
    refine(XR _ p B s' R' [116,97,98,108,101] true HIT HS2.out.ps).mono ?_;rintro e w4 ⟨rfl,hx⟩;have HS4:=yG (HS2.out.ext hx);clear hx;have cb4:=(HBX.out.xE HS4.out.mv).1.cell 0;simp only[yL,yM] at cb4
    go_wp2_with fail
    refine(zOn w4 p B s' R' i HS4.out.ps HS4.out.lt.xR (HS4.out.idx HI.out) (HS4.out.phi HBG.out)).mono ?_;intro e w5 hp
    rcases Ran.goF HQ HS4 (zIJ i _ HS4.out.lt.xR) hp with ⟨s5,R5,HE5,HL5,rfl,HS5⟩ | ⟨er,a,rfl,HX,HY⟩
    rotate_left
    ·refine xD (P:=Tryz.prog) (fn:=Tryz.f72) rfl ?_;rw[HX.out];exact HY.out
    clear hp cb4;have HLT:=yG (zM8 HS4.out.lt.xR HE5.out);have HM5:Hid (s5.ts.length<m'):=yG (by have:=HLT.out; have:=HM.out; omega);have HLL:Hid (JM p w5<JM p wa):=yG (by rw[HS5.out.ps.JM,HS.out.ps.JM]; exact HLT.out)
    go_wp2_with fail
    go_roundw
    case rel=>exact⟨s5,R5,m',HS5,HM5,HL5⟩
    case measure=>exact HLL.out
   | false=>
    have HIT:=yG hi;clear hi
    go_wp2_with fail
    refine(XR _ p B s' R' [116,97,98,108,101] false HIT HS2.out.ps).mono ?_;rintro e w3 ⟨rfl,hx⟩;have HS3:=yG (HS2.out.ext hx);clear hx cb2;have cb3:=(HBX.out.xE HS3.out.mv).1.cell 0;simp only[yL,yM] at cb3
    cases hi:isP [112,114,111,99] s' with
    | true=>
     have HIP:=yG hi;have HQ:Hid (whole=(zEt i s').bind fun _ s=>YB m' s):=yG (by rw[HL.out,HI0.out,zN2 HK.out HIT.out hi]);clear hi
     go_wp2_with fail
     refine(XR _ p B s' R' [112,114,111,99] true HIP HS3.out.ps).mono ?_;rintro e w4 ⟨rfl,hx⟩;have HS4:=yG (HS3.out.ext hx);clear hx;have cb4:=(HBX.out.xE HS4.out.mv).1.cell 0;simp only[yL,yM] at cb4
     go_wp2_with fail
     refine(zQb w4 p B s' R' i HS4.out.ps HS4.out.lt.xR (HS4.out.idx HI.out) (HS4.out.phi HBG.out)).mono ?_;intro e w5 hp
     rcases Ran.goF HQ HS4 (zKf i _ HS4.out.lt.xR) hp with ⟨s5,R5,HE5,HL5,rfl,HS5⟩ | ⟨er,a,rfl,HX,HY⟩
     rotate_left
     ·refine xD (P:=Tryz.prog) (fn:=Tryz.f72) rfl ?_;rw[HX.out];exact HY.out
     clear hp cb4;have HLT:=yG (zOa HS4.out.lt.xR HE5.out);have HM5:Hid (s5.ts.length<m'):=yG (by have:=HLT.out; have:=HM.out; omega);have HLL:Hid (JM p w5<JM p wa):=yG (by rw[HS5.out.ps.JM,HS.out.ps.JM]; exact HLT.out)
     go_wp2_with fail
     go_roundw
     case rel=>exact⟨s5,R5,m',HS5,HM5,HL5⟩
     case measure=>exact HLL.out
    | false=>
     have HIP:=yG hi;have HQ:Hid (whole=.err 50 s'.hd.at_):=yG (by rw[HL.out,zQn HK.out HIT.out hi]);clear hi
     go_wp2_with fail
     refine(XR _ p B s' R' [112,114,111,99] false HIP HS3.out.ps).mono ?_;rintro e w4 ⟨rfl,hx⟩;have HS4:=yG (HS3.out.ext hx);clear hx;have cb4:=(HBX.out.xE HS4.out.mv).1.cell 0;simp only[yL,yM] at cb4
     go_wp2_with fail
     refine(zBk _ p 50).mono ?_;rintro e w5 ⟨rfl,rfl⟩;have HF:Hid (xM w p B R whole (jW 50) w4):=yG (by rw[HQ.out]; exact⟨rfl,s',rfl,HS4.out.okp⟩);exact xD (P:=Tryz.prog) (fn:=Tryz.f72) rfl HF.out
theorem zQz {s:Ps}(h:Good s)(k:Nat):Good (s.node k):=by
 refine⟨h.last,h.deep,fun n hn=>?_⟩
 have hl:(s.node k).nd.length=s.nd.length+1:=by show(s.nd++[_]).length=_; simp
 rw[hl]
 rcases List.mem_append.1 (show n ∈ s.nd++[_] from hn) with hn | hn
 ·have:=h.few n hn; omega
 ·rw[List.mem_singleton.1 hn]; simp
theorem zMm (s:Ps)(k:Nat):(s.node k).nd.length=s.nd.length+1:=by show(s.nd++[_]).length=_; simp
theorem zMa (w:World)(p B:Nat)(s:Ps)(R:xU)(h:PS w p B s R)(hG:Good s)(h0:s.nd.length=0)(hbig:s.phi≤999999) :
  Calls Tryz.prog 44 #[.pointer (some ⟨p,0,none⟩)] w (xM w p B R (zDp s)):=by
 have HP:=yG h;have HG:=yG hG;have H0:=yG h0;have HBG:=yG hbig;have HX1:Hid (Ext w (w.alloc (.cells #[.pointer (some ⟨p,0,none⟩)] 99))):=yG (Ext.alloc _ _);have HB0:=yG (h.fresh 99 #[.pointer (some ⟨p,0,none⟩)]);have HP1:=yG (h.ext HX1.out);have cb:=HB0.out.1.cell 0;simp only[yL,yM] at cb;obtain⟨whole,HL0⟩:∃x,Hid (x=zDp s):=⟨_,yG rfl⟩;rw[←HL0.out];have hm:=hmf;obtain⟨gb,HGB⟩:∃gb,Hid (w.heap.size=gb):=⟨_,yG rfl⟩;rw[HGB.out] at HB0 cb;clear h hG hbig h0
 go_enter Tryz.func44,Tryz.ntmps44
 go_upto_region 1 with fail
 rw[HGB.out];generalize w.alloc (.cells #[.pointer (some ⟨p,0,none⟩)] 99)=W0 at *;have HF:=yG (HP1.out.fresh 119 #[.func (.func 72) #[] #[.pointer (some ⟨gb,0,none⟩)]]);have HX2:Hid (Ext W0 (W0.alloc (.cells #[.func (.func 72) #[] #[.pointer (some ⟨gb,0,none⟩)]] 119))):=yG (Ext.alloc _ _)
 go_wp2_with fail
 refine(zLb _ p B s R 1 _ [⟨72,#[],#[.pointer (some ⟨gb,0,none⟩)],fun t=>YB (t.ts.length+1) t⟩] 1 (HP1.out.ext HX2.out) (by have:=HBG.out; unfold Ps.phi at this; omega) (by simp) HF.out.row (fun f hf=>by
  rw[List.mem_singleton.1 hf]
  exact enters_of Tryz.func72 (by kernel_rfl) rfl) (fun k hk s' wr R' h1 h2 h3=>by
  obtain rfl:k=0:=by simp at hk; omega
  injection h1 with _ h1;subst h1
  exact zJ1 wr p B gb _ R' s.nd.length H0.out h3 (zQz HG.out 1) (by rw[zMm]; omega) (by
   have h1:=HBG.out;unfold Ps.phi at h1 ⊢;rw[zMm]
   show s.nd.length+1+2*s.ts.length≤_
   omega) ((HB0.out.ext HX2.out).xE h2))).mono ?_
 intro e w1 hpost;rw[zCs] at hpost
 rcases hpost.unit with ⟨s',hr,rfl,ho⟩ | ⟨er,a,hr,he⟩
 ·have HR:Hid (whole=.ok () s'):=yG (HL0.out.trans hr);have HO:=yG (OkP.trans (xC.ext (HX1.out.trans HX2.out)) ho);clear hpost hr ho
  go_wp2_with fail
  go_end0;rw[HR.out];exact xM.ok HO.out
 ·have HE:=yG (VD.trans (xC.ext (HX1.out.trans HX2.out)) he);have HR:Hid (whole=.err er a):=yG (HL0.out.trans hr);obtain⟨rfl,_⟩:=he;refine xD (P:=Tryz.prog) (fn:=Tryz.f44) rfl ?_;rw[HR.out];exact HE.out
end Go.Proofs.YtbadjmmjbpeocaaGreat
namespace Go.Proofs.YtbadjmmjbpeocaaGreat
def Lst (s:Ps):Prop:=∃l e,s.ts=l++[e]∧e.kind=4
theorem Lst.ne {s:Ps}(h:Lst s):s.ts≠[]:=by obtain⟨l,e,h,_⟩:=h; rw[h]; simp
theorem Lst.pos {s:Ps}(h:Lst s):0<s.ts.length:=List.length_pos_iff.2 h.ne
theorem Lst.hd {s:Ps}(h:Lst s):s.hd ∈ s.ts:=by
 unfold Ps.hd
 cases hs:s.ts with
 | nil=>exact absurd hs h.ne
 | cons t r=>exact List.mem_cons_self ..
theorem Lst.adv {s:Ps}(h:Lst s)(hk:s.hd.kind≠4):Lst s.adv:=by
 obtain⟨l,e,hl,he⟩:=h
 cases l with
 | nil=>
  exfalso
  apply hk;unfold Ps.hd;rw[hl];exact he
 | cons t r=>exact⟨r,e,by show s.ts.tail=_; rw[hl]; rfl,he⟩
theorem Lst.len {s:Ps}(h:Lst s)(hk:s.hd.kind≠4):s.adv.ts.length<s.ts.length:=by
 have:=h.pos
 have:=jX (s:=s)
 omega
def Tl (s s':Ps):Prop:=∃pre,s.ts=pre++s'.ts
theorem Tl.refl (s:Ps):Tl s s:=⟨[],rfl⟩
theorem Tl.trans {a b c:Ps}(h:Tl a b)(k:Tl b c):Tl a c:=by
 obtain⟨p,hp⟩:=h;obtain⟨q,hq⟩:=k;exact⟨p++q,by rw[hp,hq,List.append_assoc]⟩
theorem Tl.adv (s:Ps):Tl s s.adv:=by
 cases hs:s.ts with
 | nil=>exact⟨[],by show s.ts=_; rw[show s.adv.ts=s.ts.tail from rfl,hs]; rfl⟩
 | cons t r=>exact⟨[t],by rw[show s.adv.ts=s.ts.tail from rfl,hs]; rfl⟩
theorem Tl.mem {s s':Ps}(h:Tl s s'){t:Tok}(ht:t ∈ s'.ts):t ∈ s.ts:=by
 obtain⟨p,hp⟩:=h;rw[hp];exact List.mem_append_right _ ht
theorem Tl.len {s s':Ps}(h:Tl s s'):s'.ts.length≤s.ts.length:=by
 obtain⟨p,hp⟩:=h;rw[hp,yP];omega
def jA {α:Type}(s:Ps):Res α→Prop
 | .ok _ s'=>Lst s'∧Tl s s'
 | .err e a=>(e=50∨e=51)∧∃t ∈ s.ts,t.at_=a∧(e=51→t.kind≠4)
def YY {α:Type}(s:Ps):Res α→Prop
 | .ok _ s'=>Lst s'∧Tl s s'∧s'.ts.length<s.ts.length
 | .err e a=>(e=50∨e=51)∧∃t ∈ s.ts,t.at_=a∧(e=51→t.kind≠4)
theorem YY.at {α:Type}{s:Ps}{r:Res α}(h:YY s r):jA s r:=by
 cases r with
 | ok a t=>exact⟨h.1,h.2.1⟩
 | err e a=>exact h
theorem jA.of {α:Type}{s s2:Ps}(e:s2.ts=s.ts){r:Res α}(h:jA s2 r):jA s r:=by
 cases r with
 | ok a t=>exact⟨h.1,by obtain⟨p,hp⟩:=h.2; exact⟨p,by rw[←e,hp]⟩⟩
 | err c a=>obtain⟨h1,x,hx,hxa⟩:=h; exact⟨h1,x,by rw[←e]; exact hx,hxa⟩
theorem YY.of {α:Type}{s s2:Ps}(e:s2.ts=s.ts){r:Res α}(h:YY s2 r):YY s r:=by
 cases r with
 | ok a t=>exact⟨h.1,by obtain⟨p,hp⟩:=h.2.1; exact⟨p,by rw[←e,hp]⟩,by rw[←e]; exact h.2.2⟩
 | err c a=>obtain⟨h1,x,hx,hxa⟩:=h; exact⟨h1,x,by rw[←e]; exact hx,hxa⟩
theorem jA.trans {α:Type}{s t:Ps}{r:Res α}(h:Tl s t)(k:jA t r):jA s r:=by
 cases r with
 | ok a u=>exact⟨k.1,h.trans k.2⟩
 | err c a=>obtain⟨h1,x,hx,hxa⟩:=k; exact⟨h1,x,h.mem hx,hxa⟩
theorem YY.trans {α:Type}{s t:Ps}{r:Res α}(h:Tl s t)(hl:t.ts.length<s.ts.length)(k:jA t r):YY s r:=by
 cases r with
 | ok a u=>exact⟨k.1,h.trans k.2,Nat.lt_of_le_of_lt k.2.len hl⟩
 | err c a=>obtain⟨h1,x,hx,hxa⟩:=k; exact⟨h1,x,h.mem hx,hxa⟩
theorem jA.bind {α β:Type}{s:Ps}{r:Res α}{f:α→Ps→Res β}(h:jA s r)(k:∀a t,r=.ok a t→Lst t→t.ts.length≤s.ts.length→jA t (f a t)):jA s (r.bind f):=by
 cases r with
 | ok a t=>exact jA.trans h.2 (k a t rfl h.1 h.2.len)
 | err e a=>exact h
theorem YY.bind {α β:Type}{s:Ps}{r:Res α}{f:α→Ps→Res β}(h:YY s r)(k:∀a t,r=.ok a t→Lst t→t.ts.length<s.ts.length→jA t (f a t)):YY s (r.bind f):=by
 cases r with
 | ok a t=>exact YY.trans h.2.1 h.2.2 (k a t rfl h.1 h.2.2)
 | err e a=>exact h
theorem zTu {α:Type}{s:Ps}(h:Lst s)(e:Int)(he:e=50∨e=51)(hk:e=51→s.hd.kind≠4):jA s (.err e s.hd.at_:Res α):=⟨he,_,h.hd,rfl,hk⟩
theorem zEj {α:Type}{s:Ps}(h:Lst s)(e:Int)(he:e=50∨e=51)(hk:e=51→s.hd.kind≠4):YY s (.err e s.hd.at_:Res α):=⟨he,_,h.hd,rfl,hk⟩
theorem zHL {α:Type}{s:Ps}{a:α}(h:Lst s)(hk:s.hd.kind≠4):YY s (.ok a s.adv):=⟨h.adv hk,Tl.adv s,h.len hk⟩
theorem ZH {α:Type}{s t:Ps}{a:α}(h:Lst s)(e:t.ts=s.ts):jA s (.ok a t):=⟨by obtain⟨l,x,hl,hx⟩:=h; exact⟨l,x,by rw[e,hl],hx⟩,⟨[],by rw[e]; rfl⟩⟩
theorem Lst.of {s t:Ps}(h:Lst s)(e:t.ts=s.ts):Lst t:=by obtain⟨l,x,hl,hx⟩:=h; exact⟨l,x,by rw[e,hl],hx⟩
theorem ZA (t:Bs){s:Ps}(h:Lst s):YY s (vX t s):=by
 unfold vX
 split
 ·rename_i hi;exact zHL h (vN hi).1
 ·exact zEj h 50 (.inl rfl) (fun h=>absurd h (by decide))
theorem zRh (k:Nat)(hk:k≠4){s:Ps}(h:Lst s):YY s (ofP k s):=by
 unfold ofP
 split
 ·rename_i hi;exact zHL h (by rw[hi]; exact hk)
 ·exact zEj h 50 (.inl rfl) (fun h=>absurd h (by decide))
theorem VX (i:Nat){s:Ps}(h:Lst s):YY s (jT i s):=(zRh 1 (by decide) h).bind fun t u _ hu _=>ZH hu rfl
theorem zDc (i:Nat){s:Ps}(h:Lst s):YY s (zAH i s):=YY.of rfl (VX _ (h.of rfl))
theorem zIC (i:Nat){s:Ps}(h:Lst s):YY s (zCx i s):=YY.of (s2:=s.xI i 21) rfl ((zRh 2 (by decide) (h.of (t:=s.xI i 21) rfl)).bind fun t u _ hu _=>ZH hu rfl)
theorem zDD {α:Type}(a z:Bs){body:Pm α}{s:Ps}(h:Lst s)(hb:∀t,Lst t→t.ts.length<s.ts.length→jA t (body t)):YY s (jE a z body s):=by
 unfold jE
 split
 ·rename_i hi
  split
  ·exact zEj h 51 (.inr rfl) (fun _=>(vN hi).1)
  ·have hk:=(vN hi).1;have hl:=h.len hk;refine YY.trans (t:={ s.adv with deep:=s.deep+1 }) (Tl.adv s) hl ((hb _ ((h.adv hk).of (t:={ s.adv with deep:=s.deep+1 }) rfl) hl).bind fun x t _ ht _=>?_)
   split
   ·exact ZH ht rfl
   ·exact((ZA z ht).at).bind fun _ u _ hu _=>ZH hu rfl
 ·exact zEj h 50 (.inl rfl) (fun h=>absurd h (by decide))
theorem zNo {ms:List (Bs × Nat)}{part:Pm Ex}(n:Nat)(hp:∀t,Lst t→t.ts.length≤n→jA t (part t)):∀(f:Nat) (e:Ex) (t:Ps),Lst t→t.ts.length≤n→t.ts.length<f→jA t (VU ms part f e t)
 | 0,_,_,_,_,h=>absurd h (by omega)
 | f+1,e,t,g,hl,hf=>by
  unfold VU
  split
  ·exact ZH g rfl
  ·rename_i k hk;have h4:=zH4 hk;have hln:=g.len h4;exact jA.trans (Tl.adv t) ((hp _ (g.adv h4) (by omega)).bind fun r u _ hu hl2=>zNo n hp f _ u hu (by omega) (by omega))
theorem zKM {ms:List (Bs × Nat)}{part:Pm Ex}(n:Nat)(hp:∀t,Lst t→t.ts.length≤n→jA t (part t)){s:Ps}(g:Lst s)(hl:s.ts.length≤n):jA s (XD ms part s):=
 (hp s g hl).bind fun e u _ hu hl2=>zNo n hp _ e u hu (by omega) (Nat.lt_succ_self _)
theorem zPp {part:Pm Ex}(n:Nat)(hp:∀t,Lst t→t.ts.length≤n→jA t (part t)){s:Ps}(g:Lst s)(hl:s.ts.length≤n):jA s (zEA part s):=
 zKM n (fun t gt ht=>zKM n hp gt ht) g hl
theorem zFk:∀(f:Nat) (s:Ps),Lst s→s.ts.length≤f→jA s (vL f s)
 | 0,s,g,hl=>absurd g.pos (by omega)
 | f+1,s,g,hl=>by
  unfold vL
  split
  ·rename_i hk;exact(zHL g (by omega)).at
  ·split
   ·rename_i hk;exact(zHL g (by omega)).at
   ·split
    ·exact(zDD [45] [] g fun t gt ht=>zFk f t gt (by omega)).at.bind fun a t _ ht _=>ZH ht rfl
    ·exact(zDD [40] [41] g fun t gt ht=>zPp f (fun t gt ht=>zFk f t gt ht) gt (by omega)).at
theorem zRX {s:Ps}(g:Lst s):jA s (zP7 s):=zPp _ (fun t gt ht=>zFk _ t gt ht) g (zX _)
theorem zCo (i:Nat){s:Ps}(g:Lst s):jA s (zAB i s):=(zRX g).bind fun e t _ ht _=>ZH ht (zCA e i t).2.1
theorem zNq {one:Pm Unit}(h:∀s,Lst s→jA s (one s)):∀(f:Nat) (s:Ps),Lst s→s.ts.length<f→jA s (zBF one f s)
 | 0,_,_,hl=>absurd hl (by omega)
 | f+1,s,g,hl=>by
  unfold zBF
  split
  ·rename_i hi;have hk:=(vN hi).1;have hln:=g.len hk;exact jA.trans (Tl.adv s) ((h _ (g.adv hk)).bind fun _ t _ ht hl2=>zNq h f t ht (by omega))
  ·exact ZH g rfl
theorem zIm {one:Pm Unit}(h:∀s,Lst s→jA s (one s)){s:Ps}(g:Lst s):jA s (zAc one s):=(h s g).bind fun _ t _ ht hl=>zNq h _ t ht (Nat.lt_succ_self _)
theorem zO9 (i:Nat){s:Ps}(g:Lst s):YY s (zGo i s):=zDD [91] [93] g fun t gt _=>zCo i gt
theorem zLz (i:Nat){s:Ps}(g:Lst s):jA s (zJH i s):=jA.of (s2:=s.xI i 20) rfl ((VX _ (g.of (t:=s.xI i 20) rfl)).at.bind fun _ t _ ht _=>(zO9 _ ht).at)
theorem zMG (i:Nat){s:Ps}(g:Lst s):jA s (zIR i s):=(zLz i g).bind fun _ t _ ht _=>(ZA _ ht).at.bind fun _ t _ ht _=>(zDc i ht).at
theorem zSJ (i:Nat){s:Ps}(g:Lst s):jA s (zK9 i s):=(VX i g).at.bind fun _ t _ ht _=>(ZA _ ht).at.bind fun _ t _ ht _=>(zMG i ht).bind fun _ t _ ht _=>by
 split
 ·rename_i hi;exact jA.trans (Tl.adv t) ((ZA _ (ht.adv (vN hi).1)).at.bind fun _ u _ hu _=>ZH hu rfl)
 ·exact ZH ht rfl
theorem zTR (i:Nat){s:Ps}(g:Lst s):jA s (zQA i s):=(zMG i g).bind fun _ t _ ht _=>(ZA _ ht).at.bind fun _ t _ ht _=>zCo i ht
theorem zOs (i:Nat){s:Ps}(g:Lst s):jA s (zE3 i s):=(zLz i g).bind fun _ t _ ht _=>(ZA _ ht).at.bind fun _ t _ ht _=>(zIm (fun s g=>zCo i g) ht).bind fun _ t _ ht _=>(ZA _ ht).at
theorem zRB (i:Nat){s:Ps}(g:Lst s):jA s (zKl i s):=(VX i g).at.bind fun _ t _ ht _=>(ZA _ ht).at.bind fun _ t _ ht _=>(zDc i ht).at.bind fun _ t _ ht _=>(ZA _ ht).at.bind fun _ t _ ht _=>(zDc i ht).at
theorem zRP (i:Nat){s:Ps}(g:Lst s):jA s (zKu i s):=(zDc i g).at.bind fun _ t _ ht _=>by
 split
 ·rename_i hi;exact jA.trans (Tl.adv t) (ZH (ht.adv (vN hi).1) rfl)
 ·exact(ZA _ ht).at
theorem zNR (i:Nat){s:Ps}(g:Lst s):jA s (zDq i s):=jA.of (s2:=s.xI i 5) rfl ((VX _ (g.of (t:=s.xI i 5) rfl)).at.bind fun _ t _ ht _=>by
 split
 ·exact jA.of (s2:=t.kind s.nd.length 20) rfl (zO9 _ (ht.of (t:=t.kind s.nd.length 20) rfl)).at
 ·exact ZH ht rfl)
theorem zSA (i:Nat){s:Ps}(g:Lst s):jA s (zFf i s):=by
 unfold zFf
 split
 ·rename_i hi;exact jA.trans (Tl.adv s) (ZH (g.adv (vN hi).1) rfl)
 ·exact(ZA _ g).at
theorem zTI (i:Nat){s:Ps}(g:Lst s):jA s (zPW i s):=(VX i g).at.bind fun _ t _ ht _=>(ZA _ ht).at.bind fun _ t _ ht _=>zCo i ht
def zO5 (n:Nat)(st:Nat→Pm Unit):Prop:=∀i s,Lst s→s.ts.length≤n→YY s (st i s)
theorem zKX {n:Nat}{st:Nat→Pm Unit}(h:zO5 n st)(i:Nat):∀f s,Lst s→s.ts.length≤n→s.ts.length<f→jA s (XC st i f s)
 | 0,_,_,_,hf=>absurd hf (by omega)
 | f+1,s,g,hl,hf=>by
  unfold XC
  split
  ·exact ZH g rfl
  ·exact((h i s g hl).bind fun _ t _ ht hl2=>zKX h i f t ht (by omega) (by omega)).at
theorem zE5 {n:Nat}{st:Nat→Pm Unit}(h:zO5 n st)(i:Nat){s:Ps}(g:Lst s)(hl:s.ts.length≤n+1):YY s (zAU st i s):=
 YY.of (s2:=s.xI i 6) rfl (zDD [123] [125] (g.of (t:=s.xI i 6) rfl) fun t gt ht=>zKX h _ _ t gt (by rw[YV] at ht; omega) (Nat.lt_succ_self _))
theorem zRJ {n:Nat}{st:Nat→Pm Unit}(h:zO5 n st)(i:Nat){s:Ps}(g:Lst s)(hl:s.ts.length≤n+1):jA s (zGT st i s):=by
 unfold zGT
 split
 ·rename_i hi;have hk:=(vN hi).1
  have:=g.len hk
  exact jA.trans (Tl.adv s) (zE5 h i (g.adv hk) (by omega)).at
 ·exact ZH g rfl
theorem zN5 {n:Nat}{st:Nat→Pm Unit}(h:zO5 n st)(i:Nat){s:Ps}(g:Lst s)(hl:s.ts.length≤n+1):jA s (zDr st i s):=
 (zCo i g).bind fun _ t _ gt l1=>(zSA i gt).bind fun _ t _ gt l2=>(zCo i gt).bind fun _ t _ gt l3=>(zE5 h i gt (by omega)).at.bind fun _ t _ gt l4=>zRJ h i gt (by omega)
theorem zPV {n:Nat}{st:Nat→Pm Unit}(h:zO5 n st)(i:Nat){s:Ps}(g:Lst s)(hl:s.ts.length≤n+1):jA s (zGA st i s):=
 (VX i g).at.bind fun _ t _ gt l1=>(ZA _ gt).at.bind fun _ t _ gt l2=>(zIC i gt).at.bind fun _ t _ gt l3=>(ZA _ gt).at.bind fun _ t _ gt l4=>(zIC i gt).at.bind fun _ t _ gt l5=>(zE5 h i gt (by omega)).at
theorem zPJ {n:Nat}{st:Nat→Pm Unit}(h:zO5 n st)(k i:Nat){s:Ps}(g:Lst s)(hl:s.ts.length≤n+1):jA s (VI st k i s):=by
 unfold VI
 split
 ·exact zSJ i g
 split
 ·exact zTR i g
 split
 ·exact zOs i g
 split
 ·exact zLz i g
 split
 ·exact zRB i g
 split
 ·exact zRP i g
 split
 ·exact zNR i g
 split
 ·exact zN5 h i g hl
 split
 ·exact zPV h i g hl
 split
 ·exact zTI i g
 split
 ·exact zCo i g
 ·exact ZH g rfl
theorem zNW:∀f,zO5 f (YS f)
 | 0,i,s,g,hl=>absurd g.pos (by omega)
 | f+1,i,s,g,hl=>by
  unfold YS
  split
  ·exact zEj g 50 (.inl rfl) (fun h=>absurd h (by decide))
  ·rename_i k hk
   have h1:s.hd.kind=1:=by
    split at hk
    ·assumption
    ·cases hk
   have h4:s.hd.kind≠4:=by omega
   have hln:=g.len h4;have e:(s.xI i k).adv.ts=s.adv.ts:=rfl;refine YY.trans (t:=s.adv) (Tl.adv s) hln (jA.of (s2:=(s.xI i k).adv) rfl ((zPJ (zNW f) k s.nd.length ((g.adv h4).of (t:=(s.xI i k).adv) rfl) (by rw[e]; omega)).bind fun _ u _ gu _=>?_))
   split
   ·exact ZH gu rfl
   ·exact(ZA _ gu).at
theorem zN9 (i:Nat){s:Ps}(g:Lst s):YY s (zEa i s):=zE5 (zNW s.ts.length) i g (by omega)
theorem zP3 (i:Nat){s:Ps}(g:Lst s):YY s (zCW i s):=YY.of (s2:=s.xI i 2) rfl ((ZA _ (g.of (t:=s.xI i 2) rfl)).bind fun _ t _ gt _=>(VX _ gt).at.bind fun _ t _ gt _=>(ZA _ gt).at.bind fun _ t _ gt _=>(zIm (fun s g=>(zDc _ g).at) gt).bind fun _ t _ gt _=>(ZA _ gt).at.bind fun _ t _ gt _=>(ZA _ gt).at)
theorem zQo (i:Nat){s:Ps}(g:Lst s):jA s (zBT i s):=by
 have e:zBT i s=if isP [41] (s.xI i 4)=true then .ok () (s.xI i 4) else zAc (zAH s.nd.length) (s.xI i 4):=rfl;rw[e]
 cases hi:isP [41] (s.xI i 4) with
 | true=>simp only[if_true]; exact ZH g rfl
 | false=>simp only[Bool.false_eq_true,if_false]; exact jA.of (s2:=s.xI i 4) rfl (zIm (fun s g=>(zDc _ g).at) (g.of (t:=s.xI i 4) rfl))
theorem zO3 (i:Nat){s:Ps}(g:Lst s):jA s (VY i s):=by
 unfold VY
 split
 ·rename_i hi;exact jA.trans (Tl.adv s) (ZH (g.adv (vN hi).1) rfl)
 ·exact ZH g rfl
theorem zSr (i:Nat){s:Ps}(g:Lst s):YY s (zEt i s):=YY.of (s2:=s.xI i 3) rfl ((ZA _ (g.of (t:=s.xI i 3) rfl)).bind fun _ t _ gt _=>(VX _ gt).at.bind fun _ t _ gt _=>(ZA _ gt).at.bind fun _ t _ gt _=>(zQo _ gt).bind fun _ t _ gt _=>(ZA _ gt).at.bind fun _ t _ gt _=>(zO3 _ gt).bind fun _ t _ gt _=>(zN9 _ gt).at)
theorem zGq:∀(f:Nat) (s:Ps),Lst s→s.ts.length<f→jA s (YB f s)
 | 0,_,_,h=>absurd h (by omega)
 | f+1,s,g,hf=>by
  unfold YB
  split
  ·exact ZH g rfl
  ·split
   ·exact((zP3 0 g).bind fun _ t _ gt hl=>zGq f t gt (by omega)).at
   ·split
    ·exact((zSr 0 g).bind fun _ t _ gt hl=>zGq f t gt (by omega)).at
    ·exact zTu g 50 (.inl rfl) (fun h=>absurd h (by decide))
theorem zMQ {s:Ps}(g:Lst s):jA s (zDp s):=jA.of (s2:=s.node 1) rfl (zGq _ _ (g.of (t:=s.node 1) rfl) (Nat.lt_succ_self _))
end Go.Proofs.YtbadjmmjbpeocaaGreat
