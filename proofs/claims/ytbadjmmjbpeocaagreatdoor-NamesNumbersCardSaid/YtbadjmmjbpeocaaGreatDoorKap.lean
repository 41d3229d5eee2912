/- The program's table, proc and program. (and what follows of it). The conditions stand at each lemma. -/
import Derived.Test.YtbadjmmjbpeocaaGreatDoorKaa
import Derived.Test.YtbadjmmjbpeocaaGreatDoorKao
import Derived.Test.YtbadjmmjbpeocaaGreatDoorKaf
set_option linter.unusedVariables false
set_option linter.unusedSimpArgs false
set_option maxRecDepth 100000
set_option maxHeartbeats 16000000
namespace Go.Proofs.YtbadjmmjbpeocaaGreatDoor
open Go Go.RowKit
theorem Ran.goF {α:Type}{w w1 w2:World}{p B:Nat}{R R1:xV}{s s1:Ps}{r:Res Unit}{whole:Res α}{f:Unit→Ps→Res α}{e:Ending}(HL:Hid (whole=r.bind f))(h:Hid (Ran w p B R s w1 R1 s1))(hf:jO s1 r)(hp:xN w1 p B R1 r e w2) :
  (∃s2 R2,Hid (r=.ok () s2)∧Hid (whole=f () s2)∧e=.returned (.tuple #[])∧Hid (Ran w p B R s w2 R2 s2))∨(∃er a,e=jW er∧Hid (whole=.err er a)∧Hid (VH w p B R er a (jW er) w2)):=by
 cases r with
 | ok a s2=>
  obtain⟨h1,R2,h2,h3⟩:=hp;exact .inl ⟨s2,R2,yG rfl,yG HL.out,h1,yG ⟨h2,h.out.mv.trans h3,h.out.lt.trans hf⟩⟩
 | err er a=>
  obtain⟨h1,h2⟩:=hp;exact .inr ⟨er,a,h1,yG HL.out,yG (VH.trans h.out.mv ⟨rfl,h2⟩)⟩
theorem zDG {s s1:Ps}{i k:Nat}{t:Bs}(g:Good s)(h:vW t (s.xJ i k)=.ok () s1):s.nd.length<s1.nd.length∧s1.phi+1≤s.phi∧s1.ts.length+1≤s.ts.length:=by
 have hf:=zFz t (vM g i k);rw[h] at hf;obtain⟨_,h2,h3,h4,_⟩:=hf;rw[jT] at h4;rw[zCO] at h2;rw[YR] at h3;omega
theorem zAS {s:Ps}{i k:Nat}(t:Bs)(g:Good s):jO s (vW t (s.xJ i k)):=JM.at (zFz t (vM g i k))
theorem zMP {i:Nat}{s s':Ps}(g:Good s)(h:zCX i s=.ok () s'):s'.ts.length<s.ts.length:=by
 unfold zCX at h
 cases hr:vW [116,97,98,108,101] (s.xJ i 2) with
 | err e q=>rw[hr] at h; cases h
 | ok a s1=>
  rw[hr] at h;have h1:=zDG g hr;have gf:=zAS (i:=i) (k:=2) [116,97,98,108,101] g;rw[hr] at gf;have h2:=(ZQ s.nd.length s1 gf.xS).bind fun _ t _ gt=>(xQ [40] t gt).bind fun _ t _ gt=>(zBu (YB s.nd.length) t gt).bind fun _ t _ gt=>(xQ [41] t gt).bind fun _ t _ gt=>xQ [59] t gt;rw[VR] at h;rw[h] at h2
  have:=h2.ts
  omega
theorem zN7 (w:World)(p B:Nat)(s:Ps)(R:xV)(i:Nat)(h:PS w p B s R)(hG:Good s)(hi:i<s.nd.length)(hbig:s.phi≤1000000) :
  Calls Tryz.prog 49 #[.pointer (some ⟨p,0,none⟩),.int .i64 (i:Int)] w (xN w p B R (zCX i s)):=by
 have HP:=yG h;have HG:=yG hG;have HS0:=yG (Ran.refl h hG);have HI:=yG hi;have HBG:=yG hbig;obtain⟨whole,HL0⟩:∃x,Hid (x=zCX i s):=⟨_,yG rfl⟩;rw[←HL0.out];have hm:=hmf;clear h hG hi hbig
 go_enter Tryz.func49,Tryz.ntmps49
 go_wp2_with fail
 refine(zEK w p B s R i 2 HP.out HI.out (by have:=HBG.out; unfold Ps.phi at this; omega) HG.out).mono ?_;rintro e w1 ⟨rfl,R1,hp1,hm1⟩;have HP1:=yG hp1;have HM1:=yG (hm1);clear hp1 hm1
 go_wp2_with fail
 refine(jH _ p B _ R1 [116,97,98,108,101] HP1.out).mono ?_;intro e w2 hp
 rcases Ran.goF HL0 HS0 (zAS [116,97,98,108,101] HG.out) (xN.trans HM1.out hp) with ⟨s2,R2,HE2,HL2,rfl,HS2⟩ | ⟨er,a,rfl,HX,HY⟩
 rotate_left
 ·refine xE (P:=Tryz.prog) (fn:=Tryz.f49) rfl ?_;rw[HX.out];exact HY.out
 clear hp;have HI2:Hid (s.nd.length<s2.nd.length):=yG (zDG HG.out HE2.out).1;have HBG2:Hid (s2.phi≤1000000):=yG (HS2.out.phi HBG.out);have HBH2:Hid (s2.phi+1≤s.phi):=yG (zDG HG.out HE2.out).2.1;have HMB:=yG (HS2.out.mv);have HSB:=yG (Ran.refl HS2.out.ps HS2.out.lt.xS)
 go_wp2_with fail
 refine(JV _ p B s2 R2 s.nd.length HSB.out.ps (HSB.out.idx HI2.out)).mono ?_;intro e w1 hp
 rcases Ran.go HL2 HSB (ZQ s.nd.length _ HSB.out.lt.xS) hp with ⟨s1,R1,HL1,rfl,HS1⟩ | ⟨er,a,rfl,HX,HY⟩
 rotate_left
 ·refine xE (P:=Tryz.prog) (fn:=Tryz.f49) rfl ?_;refine xN.trans HMB.out ?_;rw[HX.out];exact HY.out
 clear hp
 go_wp2_with fail
 refine(jH _ p B s1 R1 [40] HS1.out.ps).mono ?_;intro e w2 hp
 rcases Ran.go HL1 HS1 (xQ _ _ HS1.out.lt.xS) hp with ⟨s2,R2,HL2,rfl,HS2⟩ | ⟨er,a,rfl,HX,HY⟩
 rotate_left
 ·refine xE (P:=Tryz.prog) (fn:=Tryz.f49) rfl ?_;refine xN.trans HMB.out ?_;rw[HX.out];exact HY.out
 clear hp
 go_wp2_with fail
 refine(zGI _ p B s2 R2 s.nd.length ⟨92,#[.pointer (some ⟨p,0,none⟩)],#[],zAI s.nd.length⟩ HS2.out.ps HS2.out.lt.xS (enters_of Tryz.func92 (by kernel_rfl) rfl) (YB s.nd.length) (fun wr s9 R9 hl9 hm9 hp9=>zCn wr p B s9 R9 s.nd.length hp9 hl9.xS (yU (HS2.out.idx HI2.out) hl9.nd) (by have h1:=hl9.phi; have h2:=HS2.out.phi HBG2.out; unfold Ps.phi at h1 h2; omega))).mono ?_;intro e w3 hp
 rcases Ran.go HL2 HS2 (zBu (YB s.nd.length) _ HS2.out.lt.xS) hp with ⟨s3,R3,HL3,rfl,HS3⟩ | ⟨er,a,rfl,HX,HY⟩
 rotate_left
 ·refine xE (P:=Tryz.prog) (fn:=Tryz.f49) rfl ?_;refine xN.trans HMB.out ?_;rw[HX.out];exact HY.out
 clear hp
 go_wp2_with fail
 refine(jH _ p B s3 R3 [41] HS3.out.ps).mono ?_;intro e w4 hp
 rcases Ran.go HL3 HS3 (xQ _ _ HS3.out.lt.xS) hp with ⟨s4,R4,HL4,rfl,HS4⟩ | ⟨er,a,rfl,HX,HY⟩
 rotate_left
 ·refine xE (P:=Tryz.prog) (fn:=Tryz.f49) rfl ?_;refine xN.trans HMB.out ?_;rw[HX.out];exact HY.out
 clear hp;have HB5:=yG (ZF HL4.out)
 go_wp2_with fail
 refine(jH _ p B s4 R4 [59] HS4.out.ps).mono ?_;intro e w5 hp
 rcases Ran.go HB5 HS4 (xQ _ _ HS4.out.lt.xS) hp with ⟨s5,R5,HL5,rfl,HS5⟩ | ⟨er,a,rfl,HX,HY⟩
 rotate_left
 ·refine xE (P:=Tryz.prog) (fn:=Tryz.f49) rfl ?_;refine xN.trans HMB.out ?_;rw[HX.out];exact HY.out
 clear hp
 go_wp2_with fail
 go_end0;refine xN.trans HMB.out ?_;rw[HL5.out];exact xN.ok HS5.out.okp
theorem zNN {α:Type}{whole:Res α}{r:Res Unit}{f:Unit→Ps→Res α}{t:Ps}(h:Hid (whole=r.bind f))(e:r=.ok () t):whole=f () t:=by rw[h.out,e]; rfl
theorem zOw {i:Nat}{s:Ps}(h:Hid (isP [115,105,110,103,108,101] s=true)):zAd i s=.ok () (s.adv.num i 1):=by unfold zAd; rw[if_pos h.out]
theorem zQW {i:Nat}{s:Ps}(h:Hid (isP [115,105,110,103,108,101] s=false)):zAd i s=.ok () s:=by unfold zAd; rw[h.out]; rfl
theorem zEw (n:Nat)(s:Ps)(g:Good s):match zB6 n s with
  | .ok _ t=>Good t∧t.phi≤s.phi+1∧s.nd.length+1≤t.nd.length∧t.ts.length≤s.ts.length∧t.deep=s.deep
  | .err _ _=>True:=by
 have hk:=zCO s n 4;have hl:=jT s n 4;have e:zB6 n s=if isP [41] (s.xJ n 4)=true then .ok () (s.xJ n 4) else zAh (zAI s.nd.length) (s.xJ n 4):=rfl;rw[e]
 cases hi:isP [41] (s.xJ n 4) with
 | true=>
  simp only[if_true];exact⟨vM g n 4,by omega,by omega,zX _,rfl⟩
 | false=>
  simp only[Bool.false_eq_true,if_false];have h:=zBu (YB s.nd.length) _ (vM g n 4)
  cases hr:zAh (zAI s.nd.length) (s.xJ n 4) with
  | err e q=>trivial
  | ok a t=>
   rw[hr] at h;have h1:=h.phi;have h2:=h.nd;exact⟨h.xS,by omega,by omega,h.ts,h.deep⟩
theorem zJU (i:Nat):zA8 (zEl i):=fun s g=>by
 unfold zEl
 cases hr:vW [112,114,111,99] (s.xJ i 3) with
 | err e q=>trivial
 | ok a s2=>
  have h1:=zDG g hr;have gf:=zAS (i:=i) (k:=3) [112,114,111,99] g;rw[hr] at gf;have g2:=gf.xS;have hl2:=((ZQ s.nd.length s2 g2).bind fun _ t _ gt=>xQ [40] t gt:jO s2 _);rw[VR]
  cases hr3:(jS s.nd.length s2).bind fun _ t=>vW [40] t with
  | err e q=>
   have:∀ {f:Ps→Res Unit},((jS s.nd.length s2).bind fun _ t=>(vW [40] t).bind fun _ t=>f t)=.err e q:=by
    intro f
    cases hn:jS s.nd.length s2 with
    | err e2 q2=>rw[hn] at hr3; exact hr3
    | ok b t=>rw[hn] at hr3; rw[VR] at hr3 ⊢; rw[hr3]; rfl
   rw[this (f:=fun t=>(zB6 s.nd.length t).bind fun _ t=>(vW [41] t).bind fun _ t=>(zAd s.nd.length t).bind fun _ t=>zD3 s.nd.length t)]
   trivial
  | ok b s4=>
   rw[hr3] at hl2
   have:∀ {f:Ps→Res Unit},((jS s.nd.length s2).bind fun _ t=>(vW [40] t).bind fun _ t=>f t)=f s4:=by
    intro f
    cases hn:jS s.nd.length s2 with
    | err e2 q2=>rw[hn] at hr3; cases hr3
    | ok b t=>rw[hn] at hr3; rw[VR] at hr3 ⊢; rw[hr3]; rfl
   rw[this (f:=fun t=>(zB6 s.nd.length t).bind fun _ t=>(vW [41] t).bind fun _ t=>(zAd s.nd.length t).bind fun _ t=>zD3 s.nd.length t)];have hn:=zEw s.nd.length s4 hl2.xS
   cases hr5:zB6 s.nd.length s4 with
   | err e q=>trivial
   | ok c s5=>
    rw[hr5] at hn;obtain⟨n1,n2,n3,n4,n5⟩:=hn;have m1:=hl2.phi;have m2:=hl2.nd;have m3:=hl2.ts;have m4:=hl2.deep;have l5:ZI s s5:=⟨n1,by omega,by omega,by omega,by rw[n5,m4,gf.deep]⟩;rw[VR];exact jO.trans l5 ((xQ [41] s5 n1).bind fun _ t _ gt=>(zGT s.nd.length t gt).bind fun _ t _ gt=>zCV s.nd.length t gt)
theorem zNU {i:Nat}{s s':Ps}(g:Good s)(h:zEl i s=.ok () s'):s'.ts.length<s.ts.length:=by
 unfold zEl at h
 cases hr:vW [112,114,111,99] (s.xJ i 3) with
 | err e q=>rw[hr] at h; cases h
 | ok a s1=>
  have h1:=zDG g hr;have gf:=zAS (i:=i) (k:=3) [112,114,111,99] g;rw[hr] at gf h;rw[VR] at h
  have h2:∀ {t:Ps},Good t→t.ts.length≤s1.ts.length→∀ {r:Res Unit},jO t r→r=.ok () s'→s'.ts.length≤s1.ts.length:=fun gt hl _ hf e=>by rw[e] at hf; have:=hf.ts; omega
  cases hn:jS s.nd.length s1 with
  | err e q=>rw[hn] at h; cases h
  | ok b t=>
   have f1:=ZQ s.nd.length s1 gf.xS;rw[hn] at f1 h;rw[VR] at h
   cases hk:vW [40] t with
   | err e q=>rw[hk] at h; cases h
   | ok c t2=>
    have f2:=xQ [40] t f1.xS;rw[hk] at f2 h;rw[VR] at h
    cases hm:zB6 s.nd.length t2 with
    | err e q=>rw[hm] at h; cases h
    | ok d t3=>
     have f3:=zEw s.nd.length t2 f2.xS;rw[hm] at f3 h;rw[VR] at h;have f4:=(xQ [41] t3 f3.1).bind fun _ t _ gt=>(zGT s.nd.length t gt).bind fun _ t _ gt=>zCV s.nd.length t gt;rw[h] at f4;have a1:=f1.ts;have a2:=f2.ts;have a3:=f3.2.2.2.1;have a4:=f4.ts;omega
theorem zOq (w:World)(p B gp:Nat)(s:Ps)(R:xV)(i:Nat)(h:PS w p B s R)(hG:Good s)(hi:i<s.nd.length)(hbig:s.phi≤1000000)(hb:Safe w (xL p R) gp 70 #[.pointer (some ⟨p,0,none⟩)]) :
  Calls Tryz.prog 93 #[.int .i64 (i:Int),.pointer (some ⟨gp,0,none⟩)] w (xN w p B R (if isP [41] s=true then .ok () s else zAh (zAI i) s)):=by
 have HS0:=yG (Ran.refl h hG);have HI:=yG hi;have HBG:=yG hbig;have HBX:=yG hb;obtain⟨whole,HL0⟩:∃x,Hid (x=if isP [41] s=true then .ok () s else zAh (zAI i) s):=⟨_,yG rfl⟩;rw[←HL0.out];have hm:=hmf;clear h hG hi hbig hb
 go_enter Tryz.func93,Tryz.ntmps93
 cases hi6:isP [41] s with
 | false=>
  have HI6:=yG hi6;clear hi6;have HL6:=yG (zKf (t:=[41]) (s:=s) HL0 HI6);have cb:=(HBX.out.xG HS0.out.mv).1.cell 0;simp only[yL,yM] at cb
  go_wp2_with fail
  try clear cb
  refine(XO _ p B s R [41] false HI6 HS0.out.ps).mono ?_;rintro e w6 ⟨rfl,hx⟩;have HS6:=yG (HS0.out.ext hx);clear hx;have HB7:=yG (ZF HL6.out);have cb:=(HBX.out.xG HS6.out.mv).1.cell 0;simp only[yL,yM] at cb
  go_wp2_with fail
  try clear cb
  refine(zGI _ p B s R i ⟨92,#[.pointer (some ⟨p,0,none⟩)],#[],zAI i⟩ HS6.out.ps HS6.out.lt.xS (enters_of Tryz.func92 (by kernel_rfl) rfl) (YB i) (fun wr s9 R9 hl9 hm9 hp9=>zCn wr p B s9 R9 i hp9 hl9.xS (yU (HS6.out.idx HI.out) hl9.nd) (by have h1:=hl9.phi; have h2:=HS6.out.phi HBG.out; unfold Ps.phi at h1 h2; omega))).mono ?_;intro e w7 hp
  rcases Ran.go HB7 HS6 (zBu (YB i) _ HS6.out.lt.xS) hp with ⟨s7,R7,HL7,rfl,HS7⟩ | ⟨er,a,rfl,HX,HY⟩
  rotate_left
  ·refine xE (P:=Tryz.prog) (fn:=Tryz.f93) rfl ?_;rw[HX.out];exact HY.out
  clear hp;have cb:=(HBX.out.xG HS7.out.mv).1.cell 0;simp only[yL,yM] at cb
  go_wp2_with fail
  try clear cb
  go_end0;rw[HL7.out];exact xN.ok HS7.out.okp
 | true=>
  have HI6:=yG hi6;clear hi6;have HL6:=yG (zGM (t:=[41]) (s:=s) HL0 HI6);have cb:=(HBX.out.xG HS0.out.mv).1.cell 0;simp only[yL,yM] at cb
  go_wp2_with fail
  try clear cb
  refine(XO _ p B s R [41] true HI6 HS0.out.ps).mono ?_;rintro e w6 ⟨rfl,hx⟩;have HS6:=yG (HS0.out.ext hx);clear hx;have cb:=(HBX.out.xG HS6.out.mv).1.cell 0;simp only[yL,yM] at cb
  go_wp2_with fail
  try clear cb
  go_end0;rw[HL6.out];exact xN.ok HS6.out.okp
theorem zP9 (w:World)(p B:Nat)(s:Ps)(R:xV)(i:Nat)(h:PS w p B s R)(hG:Good s)(hi:i<s.nd.length)(hbig:s.phi≤1000000) :
  Calls Tryz.prog 50 #[.pointer (some ⟨p,0,none⟩),.int .i64 (i:Int)] w (xN w p B R (zEl i s)):=by
 have HP:=yG h;have HG:=yG hG;have HS0:=yG (Ran.refl h hG);have HI:=yG hi;have HBG:=yG hbig;obtain⟨whole,HL0⟩:∃x,Hid (x=zEl i s):=⟨_,yG rfl⟩;rw[←HL0.out];have hm:=hmf;have HX1:Hid (Ext w (w.alloc (.cells #[.pointer (some ⟨p,0,none⟩)] 70))):=yG (Ext.alloc _ _);have HBX:=yG (h.fresh 70 #[.pointer (some ⟨p,0,none⟩)]);have HPX:=yG (h.ext HX1.out);clear HS0;have HS0:=yG (Ran.refl HPX.out hG);obtain⟨gp,HGP⟩:∃gp,Hid (w.heap.size=gp):=⟨_,yG rfl⟩;rw[HGP.out] at HBX;have cb:=HBX.out.1.cell 0;simp only[yL,yM] at cb;clear h hG hi hbig
 go_enter Tryz.func50,Tryz.ntmps50
 go_upto_region 1 with fail
 rw[HGP.out];generalize w.alloc (.cells #[.pointer (some ⟨p,0,none⟩)] 70)=W0 at *
 go_wp2_with fail
 refine(zEK W0 p B s R i 3 HPX.out HI.out (by have:=HBG.out; unfold Ps.phi at this; omega) HG.out).mono ?_;rintro e w1 ⟨rfl,R1,hp1,hm1⟩;have HP1:=yG hp1;have HM1:=yG (hm1);clear hp1 hm1;have cb:=(HBX.out.xG HM1.out).1.cell 0;simp only[yL,yM] at cb
 go_wp2_with fail
 refine(jH _ p B _ R1 [112,114,111,99] HP1.out).mono ?_;intro e w2 hp
 rcases Ran.goF HL0 HS0 (zAS [112,114,111,99] HG.out) (xN.trans HM1.out hp) with ⟨s2,R2,HE2,HL2,rfl,HS2⟩ | ⟨er,a,rfl,HX,HY⟩
 rotate_left
 ·refine xE (P:=Tryz.prog) (fn:=Tryz.f50) rfl ?_;refine xN.trans (xD.ext HX1.out) ?_;rw[HX.out];exact HY.out
 clear hp;have HI2:Hid (s.nd.length<s2.nd.length):=yG (zDG HG.out HE2.out).1;have HBG2:Hid (s2.phi≤1000000):=yG (HS2.out.phi HBG.out);have HBH2:Hid (s2.phi+1≤s.phi):=yG (zDG HG.out HE2.out).2.1;have HMB:=yG (((xD.ext (M:=xL p R) HX1.out).trans HS2.out.mv));have HBY:=yG (HBX.out.xG HS2.out.mv);have HSB:=yG (Ran.refl HS2.out.ps HS2.out.lt.xS);have cb:=(HBY.out.xG HSB.out.mv).1.cell 0;simp only[yL,yM] at cb
 go_wp2_with fail
 try clear cb
 refine(JV _ p B s2 R2 s.nd.length HSB.out.ps (HSB.out.idx HI2.out)).mono ?_;intro e w8 hp
 rcases Ran.go HL2 HSB (ZQ s.nd.length _ HSB.out.lt.xS) hp with ⟨s8,R8,HL8,rfl,HS8⟩ | ⟨er,a,rfl,HX,HY⟩
 rotate_left
 ·refine xE (P:=Tryz.prog) (fn:=Tryz.f50) rfl ?_;refine xN.trans HMB.out ?_;rw[HX.out];exact HY.out
 clear hp;have cb:=(HBY.out.xG HS8.out.mv).1.cell 0;simp only[yL,yM] at cb
 go_wp2_with fail
 try clear cb
 refine(jH _ p B s8 R8 [40] HS8.out.ps).mono ?_;intro e w9 hp
 rcases Ran.go HL8 HS8 (xQ _ _ HS8.out.lt.xS) hp with ⟨s9,R9,HL9,rfl,HS9⟩ | ⟨er,a,rfl,HX,HY⟩
 rotate_left
 ·refine xE (P:=Tryz.prog) (fn:=Tryz.f50) rfl ?_;refine xN.trans HMB.out ?_;rw[HX.out];exact HY.out
 clear hp;have HF:=yG (HS9.out.ps.fresh 90 #[.func (.func 93) #[] #[.pointer (some ⟨gp,0,none⟩)]]);have HXF:Hid (Ext w9 (w9.alloc (.cells #[.func (.func 93) #[] #[.pointer (some ⟨gp,0,none⟩)]] 90))):=yG (Ext.alloc _ _);have HBF:=yG ((HBY.out.xG HS9.out.mv).ext HXF.out);have cb:=(HBY.out.xG HS9.out.mv).1.cell 0;simp only[yL,yM] at cb
 go_wp2_with fail
 try clear cb
 refine(zCw _ p B s9 R9 s.nd.length 4 _ [⟨93,#[],#[.pointer (some ⟨gp,0,none⟩)],fun t=>if isP [41] t=true then .ok () t else zAh (zAI s9.nd.length) t⟩] 1 (HS9.out.ps.ext HXF.out) (HS9.out.idx HI2.out) (HS9.out.nd HBG2.out) (by simp) HS9.out.lt.xS HF.out.row (fun f hf=>by
  rw[List.mem_singleton.1 hf]
  exact enters_of Tryz.func93 (by kernel_rfl) rfl) (fun k hk s' wr R' h1 h2 h3=>by
  obtain rfl:k=0:=by simp at hk; omega
  injection h1 with _ h1;subst h1
  exact zOq wr p B gp _ R' s9.nd.length h3 (vM HS9.out.lt.xS s.nd.length 4) (by rw[jT]; omega) (by
   rw[zCO];have h1:=HS9.out.lt.phi;have h2:=HBH2.out;have h3:=HBG.out
   omega) (HBF.out.xG h2))).mono ?_
 intro e w50 hp;rw[zCE] at hp;have hp':zDS _ p B R9 (.int .i64 (s9.nd.length:Int)) (zB6 s.nd.length s9) e w50:=hp;have hnl:=zEw s.nd.length s9 HS9.out.lt.xS
 cases hq:zB6 s.nd.length s9 with
 | err er a=>
  rw[hq] at hp';obtain⟨rfl,ho⟩:=hp'
  have HF9:Hid (xN w p B R whole (jW er) w50):=yG (by
   refine xN.trans HMB.out ?_;rw[HL9.out,hq]
   exact VH.trans (HS9.out.mv.trans (xD.ext HXF.out)) ⟨rfl,ho⟩)
  exact xE (P:=Tryz.prog) (fn:=Tryz.f50) rfl HF9.out
 | ok a s50=>
  rw[hq] at hp' hnl;obtain⟨rfl,R50,hp50,hm50⟩:=hp';obtain⟨n1,n2,n3,n4,n5⟩:=hnl;have HMC:=yG (HMB.out.trans ((HS9.out.mv.trans (xD.ext HXF.out)).trans hm50));have HBZ:=yG (HBF.out.xG hm50);have HI5:Hid (s.nd.length<s50.nd.length):=yG (by have h1:=HS9.out.lt.nd; have h2:=HI2.out; omega);have HBG5:Hid (s50.phi≤1000000):=yG (by have h1:=HS9.out.lt.phi; have h2:=HBH2.out; have h3:=HBG.out; omega);have HSC:=yG (Ran.refl hp50 n1);have HL50:Hid (whole=(vW [41] s50).bind fun _ t=>(zAd s.nd.length t).bind fun _ t=>zD3 s.nd.length t):=yG (by rw[HL9.out,hq]; rfl);clear hp hq hp50 hm50 n1 n2 n3 n4 n5;have cb:=(HBZ.out.xG HSC.out.mv).1.cell 0;simp only[yL,yM] at cb
  go_wp2_with fail
  try clear cb
  refine(jH _ p B s50 R50 [41] HSC.out.ps).mono ?_;intro e w10 hp
  rcases Ran.go HL50 HSC (xQ _ _ HSC.out.lt.xS) hp with ⟨s10,R10,HL10,rfl,HS10⟩ | ⟨er,a,rfl,HX,HY⟩
  rotate_left
  ·refine xE (P:=Tryz.prog) (fn:=Tryz.f50) rfl ?_;refine xN.trans HMC.out ?_;rw[HX.out];exact HY.out
  clear hp
  cases hi11:isP [115,105,110,103,108,101] s10 with
  | false=>
   have HI11:=yG hi11;clear hi11;have HL11:=yG (zNN HL10 (zQW HI11));have cb:=(HBZ.out.xG HS10.out.mv).1.cell 0;simp only[yL,yM] at cb
   go_wp2_with fail
   try clear cb
   refine(zAR _ p B s10 R10 [115,105,110,103,108,101] HI11 HS10.out.ps).mono ?_;rintro e w11 ⟨rfl,hx⟩;have HS11:=yG (HS10.out.ext hx);clear hx;have HB12:=yG (ZF HL11.out);have cb:=(HBZ.out.xG HS11.out.mv).1.cell 0;simp only[yL,yM] at cb
   go_wp2_with fail
   try clear cb
   refine(zI7 _ p B s10 R10 s.nd.length HS11.out.ps HS11.out.lt.xS (HS11.out.idx HI5.out) (HS11.out.phi HBG5.out)).mono ?_;intro e w12 hp
   rcases Ran.go HB12 HS11 (zCV s.nd.length _ HS11.out.lt.xS) hp with ⟨s12,R12,HL12,rfl,HS12⟩ | ⟨er,a,rfl,HX,HY⟩
   rotate_left
   ·refine xE (P:=Tryz.prog) (fn:=Tryz.f50) rfl ?_;refine xN.trans HMC.out ?_;rw[HX.out];exact HY.out
   clear hp;have cb:=(HBZ.out.xG HS12.out.mv).1.cell 0;simp only[yL,yM] at cb
   go_wp2_with fail
   try clear cb
   go_end0;refine xN.trans HMC.out ?_;rw[HL12.out];exact xN.ok HS12.out.okp
  | true=>
   have HI11:=yG hi11;clear hi11;have HL11:=yG (bind_eq HL10 (zOw HI11));have cb:=(HBZ.out.xG HS10.out.mv).1.cell 0;simp only[yL,yM] at cb
   go_wp2_with fail
   try clear cb
   refine(VN _ p B s10 R10 [115,105,110,103,108,101] HI11 HS10.out.ps).mono ?_;rintro e w11 ⟨rfl,ho⟩;obtain⟨R11,hs⟩:=HS10.out.then ho (zBl HS10.out.lt.xS HI11);have HS11:=yG hs;clear ho hs;have cb:=(HBZ.out.xG HS11.out.mv).1.cell 0;simp only[yL,yM] at cb
   go_wp2_with fail
   try clear cb
   refine(zCN _ p B s10.adv R11 s.nd.length HS11.out.ps (HS11.out.idx HI5.out)).mono ?_;intro e w13 hp
   rcases Ran.go HL11 HS11 (ZI.num HS11.out.lt.xS s.nd.length 1) hp with ⟨s13,R13,HL13,rfl,HS13⟩ | ⟨er,a,rfl,HX,HY⟩
   rotate_left
   ·refine xE (P:=Tryz.prog) (fn:=Tryz.f50) rfl ?_;refine xN.trans HMC.out ?_;rw[HX.out];exact HY.out
   clear hp;have HB14:=yG (ZF HL13.out);have cb:=(HBZ.out.xG HS13.out.mv).1.cell 0;simp only[yL,yM] at cb
   go_wp2_with fail
   try clear cb
   refine(zI7 _ p B s13 R13 s.nd.length HS13.out.ps HS13.out.lt.xS (HS13.out.idx HI5.out) (HS13.out.phi HBG5.out)).mono ?_;intro e w14 hp
   rcases Ran.go HB14 HS13 (zCV s.nd.length _ HS13.out.lt.xS) hp with ⟨s14,R14,HL14,rfl,HS14⟩ | ⟨er,a,rfl,HX,HY⟩
   rotate_left
   ·refine xE (P:=Tryz.prog) (fn:=Tryz.f50) rfl ?_;refine xN.trans HMC.out ?_;rw[HX.out];exact HY.out
   clear hp;have cb:=(HBZ.out.xG HS14.out.mv).1.cell 0;simp only[yL,yM] at cb
   go_wp2_with fail
   try clear cb
   go_end0;refine xN.trans HMC.out ?_;rw[HL14.out];exact xN.ok HS14.out.okp
theorem zRd {f:Nat}{s:Ps}(h:s.hd.kind=4):ZY (f+1) s=.ok () s:=by unfold ZY; rw[if_pos h]
theorem zMt {f:Nat}{s:Ps}(h:s.hd.kind≠4)(h1:isP [116,97,98,108,101] s=true):ZY (f+1) s=(zCX 0 s).bind fun _ s=>ZY f s:=by rw[ZY,if_neg h,if_pos h1]
theorem zNJ {f:Nat}{s:Ps}(h:s.hd.kind≠4)(h1:isP [116,97,98,108,101] s=false)(h2:isP [112,114,111,99] s=true):ZY (f+1) s=(zEl 0 s).bind fun _ s=>ZY f s:=by
 rw[ZY,if_neg h,h1,if_pos h2]
 rfl
theorem zQm {f:Nat}{s:Ps}(h:s.hd.kind≠4)(h1:isP [116,97,98,108,101] s=false)(h2:isP [112,114,111,99] s=false):ZY (f+1) s=.err 50 s.hd.at_:=by
 rw[ZY,if_neg h,h1,h2]
 rfl
theorem zJR (w:World)(p B gp:Nat)(s:Ps)(R:xV)(i:Nat)(hi0:i=0)(h:PS w p B s R)(hG:Good s)(hi:i<s.nd.length)(hbig:s.phi≤1000000)(hb:Safe w (xL p R) gp 70 #[.pointer (some ⟨p,0,none⟩)]) :
  Calls Tryz.prog 47 #[.int .i64 (i:Int),.pointer (some ⟨gp,0,none⟩)] w (xN w p B R (ZY (s.ts.length+1) s)):=by
 have HS0:=yG (Ran.refl h hG);have HI:=yG hi;have HBG:=yG hbig;have HBX:=yG hb;have HI0:=yG hi0;have hf0:=zC7;obtain⟨whole,HL0⟩:∃x,Hid (x=ZY (s.ts.length+1) s):=⟨_,yG rfl⟩;rw[←HL0.out];clear h hG hi hbig hb hi0
 go_enter Tryz.func47,Tryz.ntmps47
 go_wp2_with fail
 go_loopw [] (fun wr=>∃(s':Ps) (R':xV) (m:Nat),Hid (Ran w p B R s wr R' s')∧Hid (s'.ts.length<m)∧Hid (whole=ZY m s')) (fun wr=>JH p wr)
 case atStart=>exact⟨s,R,s.ts.length+1,HS0,yG (Nat.lt_succ_self _),HL0⟩
 case round=>
  obtain⟨s',R',m,HS,HM,HL⟩:=hrel;obtain⟨wa,rfl⟩:∃wa:World,wa=wr:=⟨_,rfl⟩;obtain⟨m',rfl⟩:∃m',m=m'+1:=⟨m-1,by have:=HM.out; omega⟩;have cb:=(HBX.out.xG HS.out.mv).1.cell 0;simp only[yL,yM] at cb
  by_cases hk:s'.hd.kind=4
  ·have HR:Hid (whole=.ok () s'):=yG (by rw[HL.out,zRd hk])
   have b4:((s'.hd.kind:Int) != 4)=false:=by rw[hk]; rfl
   have c4:(s'.hd.kind:Int)=4:=by rw[hk]; rfl
   clear hk
   go_wp2_with fail
   refine(ZE wa p s' R' HS.out.ps.ts).mono ?_;rintro e w2 ⟨rfl,hx⟩;have HS2:=yG (HS.out.ext hx);clear hx cb;unfold ZW
   go_wp2_with fail
   go_end0;rw[HR.out];exact xN.ok HS2.out.okp
  ·have HK:=yG hk
   have b4:((s'.hd.kind:Int) != 4)=true:=by rw[zE]; omega
   have c4:¬(s'.hd.kind:Int)=4:=by omega
   clear hk
   go_wp2_with fail
   refine(ZE wa p s' R' HS.out.ps.ts).mono ?_;rintro e w2 ⟨rfl,hx⟩;have HS2:=yG (HS.out.ext hx);clear hx cb;unfold ZW;have cb2:=(HBX.out.xG HS2.out.mv).1.cell 0;simp only[yL,yM] at cb2
   cases hi:isP [116,97,98,108,101] s' with
   | true=>
    have HIT:=yG hi;have HQ:Hid (whole=(zCX i s').bind fun _ s=>ZY m' s):=yG (by rw[HL.out,HI0.out,zMt HK.out hi]);clear hi
    go_wp2_with fail
    refine(XO _ p B s' R' [116,97,98,108,101] true HIT HS2.out.ps).mono ?_;rintro e w4 ⟨rfl,hx⟩;have HS4:=yG (HS2.out.ext hx);clear hx;have cb4:=(HBX.out.xG HS4.out.mv).1.cell 0;simp only[yL,yM] at cb4
    go_wp2_with fail
    refine(zN7 w4 p B s' R' i HS4.out.ps HS4.out.lt.xS (HS4.out.idx HI.out) (HS4.out.phi HBG.out)).mono ?_;intro e w5 hp
    rcases Ran.goF HQ HS4 (zJt i _ HS4.out.lt.xS) hp with ⟨s5,R5,HE5,HL5,rfl,HS5⟩ | ⟨er,a,rfl,HX,HY⟩
    rotate_left
    ·refine xE (P:=Tryz.prog) (fn:=Tryz.f47) rfl ?_;rw[HX.out];exact HY.out
    clear hp cb4;have HLT:=yG (zMP HS4.out.lt.xS HE5.out);have HM5:Hid (s5.ts.length<m'):=yG (by have:=HLT.out; have:=HM.out; omega);have HLL:Hid (JH p w5<JH p wa):=yG (by rw[HS5.out.ps.JH,HS.out.ps.JH]; exact HLT.out)
    go_wp2_with fail
    go_roundw
    case rel=>exact⟨s5,R5,m',HS5,HM5,HL5⟩
    case measure=>exact HLL.out
   | false=>
    have HIT:=yG hi;clear hi
    go_wp2_with fail
    refine(XO _ p B s' R' [116,97,98,108,101] false HIT HS2.out.ps).mono ?_;rintro e w3 ⟨rfl,hx⟩;have HS3:=yG (HS2.out.ext hx);clear hx cb2;have cb3:=(HBX.out.xG HS3.out.mv).1.cell 0;simp only[yL,yM] at cb3
    cases hi:isP [112,114,111,99] s' with
    | true=>
     have HIP:=yG hi;have HQ:Hid (whole=(zEl i s').bind fun _ s=>ZY m' s):=yG (by rw[HL.out,HI0.out,zNJ HK.out HIT.out hi]);clear hi
     go_wp2_with fail
     refine(XO _ p B s' R' [112,114,111,99] true HIP HS3.out.ps).mono ?_;rintro e w4 ⟨rfl,hx⟩;have HS4:=yG (HS3.out.ext hx);clear hx;have cb4:=(HBX.out.xG HS4.out.mv).1.cell 0;simp only[yL,yM] at cb4
     go_wp2_with fail
     refine(zP9 w4 p B s' R' i HS4.out.ps HS4.out.lt.xS (HS4.out.idx HI.out) (HS4.out.phi HBG.out)).mono ?_;intro e w5 hp
     rcases Ran.goF HQ HS4 (zJU i _ HS4.out.lt.xS) hp with ⟨s5,R5,HE5,HL5,rfl,HS5⟩ | ⟨er,a,rfl,HX,HY⟩
     rotate_left
     ·refine xE (P:=Tryz.prog) (fn:=Tryz.f47) rfl ?_;rw[HX.out];exact HY.out
     clear hp cb4;have HLT:=yG (zNU HS4.out.lt.xS HE5.out);have HM5:Hid (s5.ts.length<m'):=yG (by have:=HLT.out; have:=HM.out; omega);have HLL:Hid (JH p w5<JH p wa):=yG (by rw[HS5.out.ps.JH,HS.out.ps.JH]; exact HLT.out)
     go_wp2_with fail
     go_roundw
     case rel=>exact⟨s5,R5,m',HS5,HM5,HL5⟩
     case measure=>exact HLL.out
    | false=>
     have HIP:=yG hi;have HQ:Hid (whole=.err 50 s'.hd.at_):=yG (by rw[HL.out,zQm HK.out HIT.out hi]);clear hi
     go_wp2_with fail
     refine(XO _ p B s' R' [112,114,111,99] false HIP HS3.out.ps).mono ?_;rintro e w4 ⟨rfl,hx⟩;have HS4:=yG (HS3.out.ext hx);clear hx;have cb4:=(HBX.out.xG HS4.out.mv).1.cell 0;simp only[yL,yM] at cb4
     go_wp2_with fail
     refine(zBo _ p 50).mono ?_;rintro e w5 ⟨rfl,rfl⟩;have HF:Hid (xN w p B R whole (jW 50) w4):=yG (by rw[HQ.out]; exact⟨rfl,s',rfl,HS4.out.okp⟩);exact xE (P:=Tryz.prog) (fn:=Tryz.f47) rfl HF.out
theorem zQA {s:Ps}(h:Good s)(k:Nat):Good (s.node k):=by
 refine⟨h.last,h.deep,fun n hn=>?_⟩
 have hl:(s.node k).nd.length=s.nd.length+1:=by show(s.nd++[_]).length=_; simp
 rw[hl]
 rcases List.mem_append.1 (show n ∈ s.nd++[_] from hn) with hn | hn
 ·have:=h.few n hn; omega
 ·rw[List.mem_singleton.1 hn]; simp
theorem zLZ (s:Ps)(k:Nat):(s.node k).nd.length=s.nd.length+1:=by show(s.nd++[_]).length=_; simp
theorem zLN (w:World)(p B:Nat)(s:Ps)(R:xV)(h:PS w p B s R)(hG:Good s)(h0:s.nd.length=0)(hbig:s.phi≤999999) :
  Calls Tryz.prog 24 #[.pointer (some ⟨p,0,none⟩)] w (xN w p B R (zDh s)):=by
 have HP:=yG h;have HG:=yG hG;have H0:=yG h0;have HBG:=yG hbig;have HX1:Hid (Ext w (w.alloc (.cells #[.pointer (some ⟨p,0,none⟩)] 70))):=yG (Ext.alloc _ _);have HB0:=yG (h.fresh 70 #[.pointer (some ⟨p,0,none⟩)]);have HP1:=yG (h.ext HX1.out);have cb:=HB0.out.1.cell 0;simp only[yL,yM] at cb;obtain⟨whole,HL0⟩:∃x,Hid (x=zDh s):=⟨_,yG rfl⟩;rw[←HL0.out];have hm:=hmf;obtain⟨gb,HGB⟩:∃gb,Hid (w.heap.size=gb):=⟨_,yG rfl⟩;rw[HGB.out] at HB0 cb;clear h hG hbig h0
 go_enter Tryz.func24,Tryz.ntmps24
 go_upto_region 1 with fail
 rw[HGB.out];generalize w.alloc (.cells #[.pointer (some ⟨p,0,none⟩)] 70)=W0 at *;have HF:=yG (HP1.out.fresh 90 #[.func (.func 47) #[] #[.pointer (some ⟨gb,0,none⟩)]]);have HX2:Hid (Ext W0 (W0.alloc (.cells #[.func (.func 47) #[] #[.pointer (some ⟨gb,0,none⟩)]] 90))):=yG (Ext.alloc _ _)
 go_wp2_with fail
 refine(zKO _ p B s R 1 _ [⟨47,#[],#[.pointer (some ⟨gb,0,none⟩)],fun t=>ZY (t.ts.length+1) t⟩] 1 (HP1.out.ext HX2.out) (by have:=HBG.out; unfold Ps.phi at this; omega) (by simp) HF.out.row (fun f hf=>by
  rw[List.mem_singleton.1 hf]
  exact enters_of Tryz.func47 (by kernel_rfl) rfl) (fun k hk s' wr R' h1 h2 h3=>by
  obtain rfl:k=0:=by simp at hk; omega
  injection h1 with _ h1;subst h1
  exact zJR wr p B gb _ R' s.nd.length H0.out h3 (zQA HG.out 1) (by rw[zLZ]; omega) (by
   have h1:=HBG.out;unfold Ps.phi at h1 ⊢;rw[zLZ]
   show s.nd.length+1+2*s.ts.length≤_
   omega) ((HB0.out.ext HX2.out).xG h2))).mono ?_
 intro e w1 hpost;rw[zCE] at hpost
 rcases hpost.unit with ⟨s',hr,rfl,ho⟩ | ⟨er,a,hr,he⟩
 ·have HR:Hid (whole=.ok () s'):=yG (HL0.out.trans hr);have HO:=yG (OkP.trans (xD.ext (HX1.out.trans HX2.out)) ho);clear hpost hr ho
  go_wp2_with fail
  go_end0;rw[HR.out];exact xN.ok HO.out
 ·have HE:=yG (VH.trans (xD.ext (HX1.out.trans HX2.out)) he);have HR:Hid (whole=.err er a):=yG (HL0.out.trans hr);obtain⟨rfl,_⟩:=he;refine xE (P:=Tryz.prog) (fn:=Tryz.f24) rfl ?_;rw[HR.out];exact HE.out
end Go.Proofs.YtbadjmmjbpeocaaGreatDoor
namespace Go.Proofs.YtbadjmmjbpeocaaGreatDoor
def Lst (s:Ps):Prop:=∃l e,s.ts=l++[e]∧e.kind=4
theorem Lst.ne {s:Ps}(h:Lst s):s.ts≠[]:=by obtain⟨l,e,h,_⟩:=h; rw[h]; simp
theorem Lst.pos {s:Ps}(h:Lst s):0<s.ts.length:=List.length_pos_iff.2 h.ne
theorem Lst.hd {s:Ps}(h:Lst s):s.hd ∈ s.ts:=by
 unfold Ps.hd
 cases hs:s.ts with
 | nil=>exact absurd hs h.ne
 | cons t r=>exact List.mem_cons_self ..
theorem Lst.adv {s:Ps}(h:Lst s)(hk:s.hd.kind≠4):Lst s.adv:=by
 obtain⟨l,e,hl,he⟩:=h
 cases l with
 | nil=>
  exfalso
  apply hk;unfold Ps.hd;rw[hl];exact he
 | cons t r=>exact⟨r,e,by show s.ts.tail=_; rw[hl]; rfl,he⟩
theorem Lst.len {s:Ps}(h:Lst s)(hk:s.hd.kind≠4):s.adv.ts.length<s.ts.length:=by
 have:=h.pos
 have:=jX (s:=s)
 omega
def Tl (s s':Ps):Prop:=∃pre,s.ts=pre++s'.ts
theorem Tl.refl (s:Ps):Tl s s:=⟨[],rfl⟩
theorem Tl.trans {a b c:Ps}(h:Tl a b)(k:Tl b c):Tl a c:=by
 obtain⟨p,hp⟩:=h;obtain⟨q,hq⟩:=k;exact⟨p++q,by rw[hp,hq,List.append_assoc]⟩
theorem Tl.adv (s:Ps):Tl s s.adv:=by
 cases hs:s.ts with
 | nil=>exact⟨[],by show s.ts=_; rw[show s.adv.ts=s.ts.tail from rfl,hs]; rfl⟩
 | cons t r=>exact⟨[t],by rw[show s.adv.ts=s.ts.tail from rfl,hs]; rfl⟩
theorem Tl.mem {s s':Ps}(h:Tl s s'){t:Tok}(ht:t ∈ s'.ts):t ∈ s.ts:=by
 obtain⟨p,hp⟩:=h;rw[hp];exact List.mem_append_right _ ht
theorem Tl.len {s s':Ps}(h:Tl s s'):s'.ts.length≤s.ts.length:=by
 obtain⟨p,hp⟩:=h;rw[hp,yP];omega
def jB {α:Type}(s:Ps):Res α→Prop
 | .ok _ s'=>Lst s'∧Tl s s'
 | .err e a=>(e=50∨e=51)∧∃t ∈ s.ts,t.at_=a∧(e=51→t.kind≠4)
def YV {α:Type}(s:Ps):Res α→Prop
 | .ok _ s'=>Lst s'∧Tl s s'∧s'.ts.length<s.ts.length
 | .err e a=>(e=50∨e=51)∧∃t ∈ s.ts,t.at_=a∧(e=51→t.kind≠4)
theorem YV.at {α:Type}{s:Ps}{r:Res α}(h:YV s r):jB s r:=by
 cases r with
 | ok a t=>exact⟨h.1,h.2.1⟩
 | err e a=>exact h
theorem jB.of {α:Type}{s s2:Ps}(e:s2.ts=s.ts){r:Res α}(h:jB s2 r):jB s r:=by
 cases r with
 | ok a t=>exact⟨h.1,by obtain⟨p,hp⟩:=h.2; exact⟨p,by rw[←e,hp]⟩⟩
 | err c a=>obtain⟨h1,x,hx,hxa⟩:=h; exact⟨h1,x,by rw[←e]; exact hx,hxa⟩
theorem YV.of {α:Type}{s s2:Ps}(e:s2.ts=s.ts){r:Res α}(h:YV s2 r):YV s r:=by
 cases r with
 | ok a t=>exact⟨h.1,by obtain⟨p,hp⟩:=h.2.1; exact⟨p,by rw[←e,hp]⟩,by rw[←e]; exact h.2.2⟩
 | err c a=>obtain⟨h1,x,hx,hxa⟩:=h; exact⟨h1,x,by rw[←e]; exact hx,hxa⟩
theorem jB.trans {α:Type}{s t:Ps}{r:Res α}(h:Tl s t)(k:jB t r):jB s r:=by
 cases r with
 | ok a u=>exact⟨k.1,h.trans k.2⟩
 | err c a=>obtain⟨h1,x,hx,hxa⟩:=k; exact⟨h1,x,h.mem hx,hxa⟩
theorem YV.trans {α:Type}{s t:Ps}{r:Res α}(h:Tl s t)(hl:t.ts.length<s.ts.length)(k:jB t r):YV s r:=by
 cases r with
 | ok a u=>exact⟨k.1,h.trans k.2,Nat.lt_of_le_of_lt k.2.len hl⟩
 | err c a=>obtain⟨h1,x,hx,hxa⟩:=k; exact⟨h1,x,h.mem hx,hxa⟩
theorem jB.bind {α β:Type}{s:Ps}{r:Res α}{f:α→Ps→Res β}(h:jB s r)(k:∀a t,r=.ok a t→Lst t→t.ts.length≤s.ts.length→jB t (f a t)):jB s (r.bind f):=by
 cases r with
 | ok a t=>exact jB.trans h.2 (k a t rfl h.1 h.2.len)
 | err e a=>exact h
theorem YV.bind {α β:Type}{s:Ps}{r:Res α}{f:α→Ps→Res β}(h:YV s r)(k:∀a t,r=.ok a t→Lst t→t.ts.length<s.ts.length→jB t (f a t)):YV s (r.bind f):=by
 cases r with
 | ok a t=>exact YV.trans h.2.1 h.2.2 (k a t rfl h.1 h.2.2)
 | err e a=>exact h
theorem zTK {α:Type}{s:Ps}(h:Lst s)(e:Int)(he:e=50∨e=51)(hk:e=51→s.hd.kind≠4):jB s (.err e s.hd.at_:Res α):=⟨he,_,h.hd,rfl,hk⟩
theorem zEb {α:Type}{s:Ps}(h:Lst s)(e:Int)(he:e=50∨e=51)(hk:e=51→s.hd.kind≠4):YV s (.err e s.hd.at_:Res α):=⟨he,_,h.hd,rfl,hk⟩
theorem zIy {α:Type}{s:Ps}{a:α}(h:Lst s)(hk:s.hd.kind≠4):YV s (.ok a s.adv):=⟨h.adv hk,Tl.adv s,h.len hk⟩
theorem ZG {α:Type}{s t:Ps}{a:α}(h:Lst s)(e:t.ts=s.ts):jB s (.ok a t):=⟨by obtain⟨l,x,hl,hx⟩:=h; exact⟨l,x,by rw[e,hl],hx⟩,⟨[],by rw[e]; rfl⟩⟩
theorem Lst.of {s t:Ps}(h:Lst s)(e:t.ts=s.ts):Lst t:=by obtain⟨l,x,hl,hx⟩:=h; exact⟨l,x,by rw[e,hl],hx⟩
theorem ZB (t:Bs){s:Ps}(h:Lst s):YV s (vW t s):=by
 unfold vW
 split
 ·rename_i hi;exact zIy h (vN hi).1
 ·exact zEb h 50 (.inl rfl) (fun h=>absurd h (by decide))
theorem zRh (k:Nat)(hk:k≠4){s:Ps}(h:Lst s):YV s (ofP k s):=by
 unfold ofP
 split
 ·rename_i hi;exact zIy h (by rw[hi]; exact hk)
 ·exact zEb h 50 (.inl rfl) (fun h=>absurd h (by decide))
theorem zAc (i:Nat){s:Ps}(h:Lst s):YV s (jS i s):=(zRh 1 (by decide) h).bind fun t u _ hu _=>ZG hu rfl
theorem zC6 (i:Nat){s:Ps}(h:Lst s):YV s (zAI i s):=YV.of rfl (zAc _ (h.of rfl))
theorem zJn (i:Nat){s:Ps}(h:Lst s):YV s (zCG i s):=YV.of (s2:=s.xJ i 21) rfl ((zRh 2 (by decide) (h.of (t:=s.xJ i 21) rfl)).bind fun t u _ hu _=>ZG hu rfl)
theorem zDw {α:Type}(a z:Bs){body:Pm α}{s:Ps}(h:Lst s)(hb:∀t,Lst t→t.ts.length<s.ts.length→jB t (body t)):YV s (jF a z body s):=by
 unfold jF
 split
 ·rename_i hi
  split
  ·exact zEb h 51 (.inr rfl) (fun _=>(vN hi).1)
  ·have hk:=(vN hi).1;have hl:=h.len hk;refine YV.trans (t:={ s.adv with deep:=s.deep+1 }) (Tl.adv s) hl ((hb _ ((h.adv hk).of (t:={ s.adv with deep:=s.deep+1 }) rfl) hl).bind fun x t _ ht _=>?_)
   split
   ·exact ZG ht rfl
   ·exact((ZB z ht).at).bind fun _ u _ hu _=>ZG hu rfl
 ·exact zEb h 50 (.inl rfl) (fun h=>absurd h (by decide))
theorem zM5 {ms:List (Bs × Nat)}{part:Pm Ex}(n:Nat)(hp:∀t,Lst t→t.ts.length≤n→jB t (part t)):∀(f:Nat) (e:Ex) (t:Ps),Lst t→t.ts.length≤n→t.ts.length<f→jB t (VY ms part f e t)
 | 0,_,_,_,_,h=>absurd h (by omega)
 | f+1,e,t,g,hl,hf=>by
  unfold VY
  split
  ·exact ZG g rfl
  ·rename_i k hk;have h4:=zIP hk;have hln:=g.len h4;exact jB.trans (Tl.adv t) ((hp _ (g.adv h4) (by omega)).bind fun r u _ hu hl2=>zM5 n hp f _ u hu (by omega) (by omega))
theorem zKm {ms:List (Bs × Nat)}{part:Pm Ex}(n:Nat)(hp:∀t,Lst t→t.ts.length≤n→jB t (part t)){s:Ps}(g:Lst s)(hl:s.ts.length≤n):jB s (XB ms part s):=
 (hp s g hl).bind fun e u _ hu hl2=>zM5 n hp _ e u hu (by omega) (Nat.lt_succ_self _)
theorem zPf {part:Pm Ex}(n:Nat)(hp:∀t,Lst t→t.ts.length≤n→jB t (part t)){s:Ps}(g:Lst s)(hl:s.ts.length≤n):jB s (zEr part s):=
 zKm n (fun t gt ht=>zKm n hp gt ht) g hl
theorem zFd:∀(f:Nat) (s:Ps),Lst s→s.ts.length≤f→jB s (vL f s)
 | 0,s,g,hl=>absurd g.pos (by omega)
 | f+1,s,g,hl=>by
  unfold vL
  split
  ·rename_i hk;exact(zIy g (by omega)).at
  ·split
   ·rename_i hk;exact(zIy g (by omega)).at
   ·split
    ·exact(zDw [45] [] g fun t gt ht=>zFd f t gt (by omega)).at.bind fun a t _ ht _=>ZG ht rfl
    ·exact(zDw [40] [41] g fun t gt ht=>zPf f (fun t gt ht=>zFd f t gt ht) gt (by omega)).at
theorem zR2 {s:Ps}(g:Lst s):jB s (zP4 s):=zPf _ (fun t gt ht=>zFd _ t gt ht) g (zX _)
theorem zCB (i:Nat){s:Ps}(g:Lst s):jB s (zAB i s):=(zR2 g).bind fun e t _ ht _=>ZG ht (zCJ e i t).2.1
theorem zM7 {one:Pm Unit}(h:∀s,Lst s→jB s (one s)):∀(f:Nat) (s:Ps),Lst s→s.ts.length<f→jB s (zBI one f s)
 | 0,_,_,hl=>absurd hl (by omega)
 | f+1,s,g,hl=>by
  unfold zBI
  split
  ·rename_i hi;have hk:=(vN hi).1;have hln:=g.len hk;exact jB.trans (Tl.adv s) ((h _ (g.adv hk)).bind fun _ t _ ht hl2=>zM7 h f t ht (by omega))
  ·exact ZG g rfl
theorem zI8 {one:Pm Unit}(h:∀s,Lst s→jB s (one s)){s:Ps}(g:Lst s):jB s (zAh one s):=(h s g).bind fun _ t _ ht hl=>zM7 h _ t ht (Nat.lt_succ_self _)
theorem zOX (i:Nat){s:Ps}(g:Lst s):YV s (zGg i s):=zDw [91] [93] g fun t gt _=>zCB i gt
theorem zLc (i:Nat){s:Ps}(g:Lst s):jB s (zJL i s):=jB.of (s2:=s.xJ i 20) rfl ((zAc _ (g.of (t:=s.xJ i 20) rfl)).at.bind fun _ t _ ht _=>(zOX _ ht).at)
theorem zMl (i:Nat){s:Ps}(g:Lst s):jB s (zJy i s):=(zLc i g).bind fun _ t _ ht _=>(ZB _ ht).at.bind fun _ t _ ht _=>(zC6 i ht).at
theorem zSO (i:Nat){s:Ps}(g:Lst s):jB s (zKM i s):=(zAc i g).at.bind fun _ t _ ht _=>(ZB _ ht).at.bind fun _ t _ ht _=>(zMl i ht).bind fun _ t _ ht _=>by
 split
 ·rename_i hi;exact jB.trans (Tl.adv t) ((ZB _ (ht.adv (vN hi).1)).at.bind fun _ u _ hu _=>ZG hu rfl)
 ·exact ZG ht rfl
theorem zT9 (i:Nat){s:Ps}(g:Lst s):jB s (zQB i s):=(zMl i g).bind fun _ t _ ht _=>(ZB _ ht).at.bind fun _ t _ ht _=>zCB i ht
theorem zOc (i:Nat){s:Ps}(g:Lst s):jB s (zET i s):=(zLc i g).bind fun _ t _ ht _=>(ZB _ ht).at.bind fun _ t _ ht _=>(zI8 (fun s g=>zCB i g) ht).bind fun _ t _ ht _=>(ZB _ ht).at
theorem zRD (i:Nat){s:Ps}(g:Lst s):jB s (zJZ i s):=(zAc i g).at.bind fun _ t _ ht _=>(ZB _ ht).at.bind fun _ t _ ht _=>(zC6 i ht).at.bind fun _ t _ ht _=>(ZB _ ht).at.bind fun _ t _ ht _=>(zC6 i ht).at
theorem zRU (i:Nat){s:Ps}(g:Lst s):jB s (zJ9 i s):=(zC6 i g).at.bind fun _ t _ ht _=>by
 split
 ·rename_i hi;exact jB.trans (Tl.adv t) (ZG (ht.adv (vN hi).1) rfl)
 ·exact(ZB _ ht).at
theorem zNy (i:Nat){s:Ps}(g:Lst s):jB s (zDj i s):=jB.of (s2:=s.xJ i 5) rfl ((zAc _ (g.of (t:=s.xJ i 5) rfl)).at.bind fun _ t _ ht _=>by
 split
 ·exact jB.of (s2:=t.kind s.nd.length 20) rfl (zOX _ (ht.of (t:=t.kind s.nd.length 20) rfl)).at
 ·exact ZG ht rfl)
theorem zSD (i:Nat){s:Ps}(g:Lst s):jB s (zE6 i s):=by
 unfold zE6
 split
 ·rename_i hi;exact jB.trans (Tl.adv s) (ZG (g.adv (vN hi).1) rfl)
 ·exact(ZB _ g).at
theorem zT0 (i:Nat){s:Ps}(g:Lst s):jB s (zPP i s):=(zAc i g).at.bind fun _ t _ ht _=>(ZB _ ht).at.bind fun _ t _ ht _=>zCB i ht
def zOT (n:Nat)(st:Nat→Pm Unit):Prop:=∀i s,Lst s→s.ts.length≤n→YV s (st i s)
theorem zKy {n:Nat}{st:Nat→Pm Unit}(h:zOT n st)(i:Nat):∀f s,Lst s→s.ts.length≤n→s.ts.length<f→jB s (XA st i f s)
 | 0,_,_,_,hf=>absurd hf (by omega)
 | f+1,s,g,hl,hf=>by
  unfold XA
  split
  ·exact ZG g rfl
  ·exact((h i s g hl).bind fun _ t _ ht hl2=>zKy h i f t ht (by omega) (by omega)).at
theorem zEV {n:Nat}{st:Nat→Pm Unit}(h:zOT n st)(i:Nat){s:Ps}(g:Lst s)(hl:s.ts.length≤n+1):YV s (zAX st i s):=
 YV.of (s2:=s.xJ i 6) rfl (zDw [123] [125] (g.of (t:=s.xJ i 6) rfl) fun t gt ht=>zKy h _ _ t gt (by rw[YR] at ht; omega) (Nat.lt_succ_self _))
theorem zRM {n:Nat}{st:Nat→Pm Unit}(h:zOT n st)(i:Nat){s:Ps}(g:Lst s)(hl:s.ts.length≤n+1):jB s (zGO st i s):=by
 unfold zGO
 split
 ·rename_i hi;have hk:=(vN hi).1
  have:=g.len hk
  exact jB.trans (Tl.adv s) (zEV h i (g.adv hk) (by omega)).at
 ·exact ZG g rfl
theorem zNM {n:Nat}{st:Nat→Pm Unit}(h:zOT n st)(i:Nat){s:Ps}(g:Lst s)(hl:s.ts.length≤n+1):jB s (zDk st i s):=
 (zCB i g).bind fun _ t _ gt l1=>(zSD i gt).bind fun _ t _ gt l2=>(zCB i gt).bind fun _ t _ gt l3=>(zEV h i gt (by omega)).at.bind fun _ t _ gt l4=>zRM h i gt (by omega)
theorem zPO {n:Nat}{st:Nat→Pm Unit}(h:zOT n st)(i:Nat){s:Ps}(g:Lst s)(hl:s.ts.length≤n+1):jB s (zGw st i s):=
 (zAc i g).at.bind fun _ t _ gt l1=>(ZB _ gt).at.bind fun _ t _ gt l2=>(zJn i gt).at.bind fun _ t _ gt l3=>(ZB _ gt).at.bind fun _ t _ gt l4=>(zJn i gt).at.bind fun _ t _ gt l5=>(zEV h i gt (by omega)).at
theorem zPB {n:Nat}{st:Nat→Pm Unit}(h:zOT n st)(k i:Nat){s:Ps}(g:Lst s)(hl:s.ts.length≤n+1):jB s (VO st k i s):=by
 unfold VO
 split
 ·exact zSO i g
 split
 ·exact zT9 i g
 split
 ·exact zOc i g
 split
 ·exact zLc i g
 split
 ·exact zRD i g
 split
 ·exact zRU i g
 split
 ·exact zNy i g
 split
 ·exact zNM h i g hl
 split
 ·exact zPO h i g hl
 split
 ·exact zT0 i g
 split
 ·exact zCB i g
 ·exact ZG g rfl
theorem zND:∀f,zOT f (YO f)
 | 0,i,s,g,hl=>absurd g.pos (by omega)
 | f+1,i,s,g,hl=>by
  unfold YO
  split
  ·exact zEb g 50 (.inl rfl) (fun h=>absurd h (by decide))
  ·rename_i k hk
   have h1:s.hd.kind=1:=by
    split at hk
    ·assumption
    ·cases hk
   have h4:s.hd.kind≠4:=by omega
   have hln:=g.len h4;have e:(s.xJ i k).adv.ts=s.adv.ts:=rfl;refine YV.trans (t:=s.adv) (Tl.adv s) hln (jB.of (s2:=(s.xJ i k).adv) rfl ((zPB (zND f) k s.nd.length ((g.adv h4).of (t:=(s.xJ i k).adv) rfl) (by rw[e]; omega)).bind fun _ u _ gu _=>?_))
   split
   ·exact ZG gu rfl
   ·exact(ZB _ gu).at
theorem zNR (i:Nat){s:Ps}(g:Lst s):YV s (zD3 i s):=zEV (zND s.ts.length) i g (by omega)
theorem zPY (i:Nat){s:Ps}(g:Lst s):YV s (zCX i s):=YV.of (s2:=s.xJ i 2) rfl ((ZB _ (g.of (t:=s.xJ i 2) rfl)).bind fun _ t _ gt _=>(zAc _ gt).at.bind fun _ t _ gt _=>(ZB _ gt).at.bind fun _ t _ gt _=>(zI8 (fun s g=>(zC6 _ g).at) gt).bind fun _ t _ gt _=>(ZB _ gt).at.bind fun _ t _ gt _=>(ZB _ gt).at)
theorem zQn (i:Nat){s:Ps}(g:Lst s):jB s (zB6 i s):=by
 have e:zB6 i s=if isP [41] (s.xJ i 4)=true then .ok () (s.xJ i 4) else zAh (zAI s.nd.length) (s.xJ i 4):=rfl;rw[e]
 cases hi:isP [41] (s.xJ i 4) with
 | true=>simp only[if_true]; exact ZG g rfl
 | false=>simp only[Bool.false_eq_true,if_false]; exact jB.of (s2:=s.xJ i 4) rfl (zI8 (fun s g=>(zC6 _ g).at) (g.of (t:=s.xJ i 4) rfl))
theorem zOQ (i:Nat){s:Ps}(g:Lst s):jB s (zAd i s):=by
 unfold zAd
 split
 ·rename_i hi;exact jB.trans (Tl.adv s) (ZG (g.adv (vN hi).1) rfl)
 ·exact ZG g rfl
theorem zSt (i:Nat){s:Ps}(g:Lst s):YV s (zEl i s):=YV.of (s2:=s.xJ i 3) rfl ((ZB _ (g.of (t:=s.xJ i 3) rfl)).bind fun _ t _ gt _=>(zAc _ gt).at.bind fun _ t _ gt _=>(ZB _ gt).at.bind fun _ t _ gt _=>(zQn _ gt).bind fun _ t _ gt _=>(ZB _ gt).at.bind fun _ t _ gt _=>(zOQ _ gt).bind fun _ t _ gt _=>(zNR _ gt).at)
theorem zGi:∀(f:Nat) (s:Ps),Lst s→s.ts.length<f→jB s (ZY f s)
 | 0,_,_,h=>absurd h (by omega)
 | f+1,s,g,hf=>by
  unfold ZY
  split
  ·exact ZG g rfl
  ·split
   ·exact((zPY 0 g).bind fun _ t _ gt hl=>zGi f t gt (by omega)).at
   ·split
    ·exact((zSt 0 g).bind fun _ t _ gt hl=>zGi f t gt (by omega)).at
    ·exact zTK g 50 (.inl rfl) (fun h=>absurd h (by decide))
theorem zMu {s:Ps}(g:Lst s):jB s (zDh s):=jB.of (s2:=s.node 1) rfl (zGi _ _ (g.of (t:=s.node 1) rfl) (Nat.lt_succ_self _))
end Go.Proofs.YtbadjmmjbpeocaaGreatDoor
