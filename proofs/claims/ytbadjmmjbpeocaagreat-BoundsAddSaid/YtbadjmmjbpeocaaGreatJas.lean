/- The program's table, proc and program. (and what follows of it). The conditions stand at each lemma. -/
import Derived.Test.YtbadjmmjbpeocaaGreatJaa
import Derived.Test.YtbadjmmjbpeocaaGreatJar
import Derived.Test.YtbadjmmjbpeocaaGreatJae
set_option linter.unusedVariables false
set_option linter.unusedSimpArgs false
set_option maxRecDepth 100000
set_option maxHeartbeats 16000000
namespace Go.Proofs.YtbadjmmjbpeocaaGreat
open Go Go.RowKit
theorem Ran.goF {α:Type}{w w1 w2:World}{p B:Nat}{R R1:xX}{s s1:Ps}{r:Res Unit}{whole:Res α}{f:Unit→Ps→Res α}{e:Ending}(HL:Hid (whole=r.bind f))(h:Hid (Ran w p B R s w1 R1 s1))(hf:jO s1 r)(hp:xM w1 p B R1 r e w2) :
  (∃s2 R2,Hid (r=.ok () s2)∧Hid (whole=f () s2)∧e=.returned (.tuple #[])∧Hid (Ran w p B R s w2 R2 s2))∨(∃er a,e=jV er∧Hid (whole=.err er a)∧Hid (VF w p B R er a (jV er) w2)):=by
 cases r with
 | ok a s2=>
  obtain⟨h1,R2,h2,h3⟩:=hp;exact .inl ⟨s2,R2,yG rfl,yG HL.out,h1,yG ⟨h2,h.out.mv.trans h3,h.out.lt.trans hf⟩⟩
 | err er a=>
  obtain⟨h1,h2⟩:=hp;exact .inr ⟨er,a,h1,yG HL.out,yG (VF.trans h.out.mv ⟨rfl,h2⟩)⟩
theorem zDR {s s1:Ps}{i k:Nat}{t:Bs}(g:Good s)(h:vX t (s.xI i k)=.ok () s1):s.nd.length<s1.nd.length∧s1.phi+1≤s.phi∧s1.ts.length+1≤s.ts.length:=by
 have hf:=zFG t (vN g i k);rw[h] at hf;obtain⟨_,h2,h3,h4,_⟩:=hf;rw[jT] at h4;rw[zCC] at h2;rw[YS] at h3;omega
theorem zAQ {s:Ps}{i k:Nat}(t:Bs)(g:Good s):jO s (vX t (s.xI i k)):=JS.at (zFG t (vN g i k))
theorem zMW {i:Nat}{s s':Ps}(g:Good s)(h:zCV i s=.ok () s'):s'.ts.length<s.ts.length:=by
 unfold zCV at h
 cases hr:vX [116,97,98,108,101] (s.xI i 2) with
 | err e q=>rw[hr] at h; cases h
 | ok a s1=>
  rw[hr] at h;have h1:=zDR g hr;have gf:=zAQ (i:=i) (k:=2) [116,97,98,108,101] g;rw[hr] at gf;have h2:=(ZT s.nd.length s1 gf.xV).bind fun _ t _ gt=>(xS [40] t gt).bind fun _ t _ gt=>(zBp (YC s.nd.length) t gt).bind fun _ t _ gt=>(xS [41] t gt).bind fun _ t _ gt=>xS [59] t gt;rw[VN] at h;rw[h] at h2
  have:=h2.ts
  omega
theorem zOe (w:World)(p B:Nat)(s:Ps)(R:xX)(i:Nat)(h:PS w p B s R)(hG:Good s)(hi:i<s.nd.length)(hbig:s.phi≤1000000) :
  Calls Tryz.prog 74 #[.pointer (some ⟨p,0,none⟩),.int .i64 (i:Int)] w (xM w p B R (zCV i s)):=by
 have HP:=yG h;have HG:=yG hG;have AV:=yG (Ran.refl h hG);have HI:=yG hi;have AN:=yG hbig;obtain⟨AJ,AP⟩:∃x,Hid (x=zCV i s):=⟨_,yG rfl⟩;rw[←AP.out];have hm:=hmf;clear h hG hi hbig
 go_enter Tryz.func74,Tryz.ntmps74
 go_wp2_with fail
 refine(zEU w p B s R i 2 HP.out HI.out (by have:=AN.out; unfold Ps.phi at this; omega) HG.out).mono ?_;rintro e w1 ⟨rfl,R1,AM,AK⟩;have AQ:=yG AM;have AR:=yG (AK);clear AM AK
 go_wp2_with fail
 refine(jG _ p B _ R1 [116,97,98,108,101] AQ.out).mono ?_;intro e w2 hp
 rcases Ran.goF AP AV (zAQ [116,97,98,108,101] HG.out) (xM.trans AR.out hp) with ⟨s2,R2,AL,AG,rfl,AA⟩ | ⟨er,a,rfl,HX,HY⟩
 rotate_left
 ·refine xD (P:=Tryz.prog) (fn:=Tryz.f74) rfl ?_;rw[HX.out];exact HY.out
 clear hp;have AO:Hid (s.nd.length<s2.nd.length):=yG (zDR HG.out AL.out).1;have AE:Hid (s2.phi≤1000000):=yG (AA.out.phi AN.out);have AT:Hid (s2.phi+1≤s.phi):=yG (zDR HG.out AL.out).2.1;have AB:=yG (AA.out.mv);have AC:=yG (Ran.refl AA.out.ps AA.out.lt.xV)
 go_wp2_with fail
 refine(JY _ p B s2 R2 s.nd.length AC.out.ps (AC.out.idx AO.out)).mono ?_;intro e w1 hp
 rcases Ran.go AG AC (ZT s.nd.length _ AC.out.lt.xV) hp with ⟨s1,R1,AX,rfl,AD⟩ | ⟨er,a,rfl,HX,HY⟩
 rotate_left
 ·refine xD (P:=Tryz.prog) (fn:=Tryz.f74) rfl ?_;refine xM.trans AB.out ?_;rw[HX.out];exact HY.out
 clear hp
 go_wp2_with fail
 refine(jG _ p B s1 R1 [40] AD.out.ps).mono ?_;intro e w2 hp
 rcases Ran.go AX AD (xS _ _ AD.out.lt.xV) hp with ⟨s2,R2,AG,rfl,AA⟩ | ⟨er,a,rfl,HX,HY⟩
 rotate_left
 ·refine xD (P:=Tryz.prog) (fn:=Tryz.f74) rfl ?_;refine xM.trans AB.out ?_;rw[HX.out];exact HY.out
 clear hp
 go_wp2_with fail
 refine(zGG _ p B s2 R2 s.nd.length ⟨108,#[.pointer (some ⟨p,0,none⟩)],#[],zAI s.nd.length⟩ AA.out.ps AA.out.lt.xV (enters_of Tryz.func108 (by kernel_rfl) rfl) (YC s.nd.length) (fun wr s9 R9 AI Ab AZ=>zB6 wr p B s9 R9 s.nd.length AZ AI.xV (yU (AA.out.idx AO.out) AI.nd) (by have h1:=AI.phi; have h2:=AA.out.phi AE.out; unfold Ps.phi at h1 h2; omega))).mono ?_;intro e w3 hp
 rcases Ran.go AG AA (zBp (YC s.nd.length) _ AA.out.lt.xV) hp with ⟨s3,R3,AW,rfl,AF⟩ | ⟨er,a,rfl,HX,HY⟩
 rotate_left
 ·refine xD (P:=Tryz.prog) (fn:=Tryz.f74) rfl ?_;refine xM.trans AB.out ?_;rw[HX.out];exact HY.out
 clear hp
 go_wp2_with fail
 refine(jG _ p B s3 R3 [41] AF.out.ps).mono ?_;intro e w4 hp
 rcases Ran.go AW AF (xS _ _ AF.out.lt.xV) hp with ⟨s4,R4,AS,rfl,AH⟩ | ⟨er,a,rfl,HX,HY⟩
 rotate_left
 ·refine xD (P:=Tryz.prog) (fn:=Tryz.f74) rfl ?_;refine xM.trans AB.out ?_;rw[HX.out];exact HY.out
 clear hp;have AU:=yG (ZE AS.out)
 go_wp2_with fail
 refine(jG _ p B s4 R4 [59] AH.out.ps).mono ?_;intro e w5 hp
 rcases Ran.go AU AH (xS _ _ AH.out.lt.xV) hp with ⟨s5,R5,AY,rfl,Aa⟩ | ⟨er,a,rfl,HX,HY⟩
 rotate_left
 ·refine xD (P:=Tryz.prog) (fn:=Tryz.f74) rfl ?_;refine xM.trans AB.out ?_;rw[HX.out];exact HY.out
 clear hp
 go_wp2_with fail
 go_end0;refine xM.trans AB.out ?_;rw[AY.out];exact xM.ok Aa.out.okp
theorem zNW {α:Type}{whole:Res α}{r:Res Unit}{f:Unit→Ps→Res α}{t:Ps}(h:Hid (whole=r.bind f))(e:r=.ok () t):whole=f () t:=by rw[h.out,e]; rfl
theorem zOy {i:Nat}{s:Ps}(h:Hid (isP [115,105,110,103,108,101] s=true)):zAd i s=.ok () (s.adv.num i 1):=by unfold zAd; rw[if_pos h.out]
theorem zQS {i:Nat}{s:Ps}(h:Hid (isP [115,105,110,103,108,101] s=false)):zAd i s=.ok () s:=by unfold zAd; rw[h.out]; rfl
theorem zEE (n:Nat)(s:Ps)(g:Good s):match zBR n s with
  | .ok _ t=>Good t∧t.phi≤s.phi+1∧s.nd.length+1≤t.nd.length∧t.ts.length≤s.ts.length∧t.deep=s.deep
  | .err _ _=>True:=by
 have hk:=zCC s n 4;have hl:=jT s n 4;have e:zBR n s=if isP [41] (s.xI n 4)=true then .ok () (s.xI n 4) else zAg (zAI s.nd.length) (s.xI n 4):=rfl;rw[e]
 cases hi:isP [41] (s.xI n 4) with
 | true=>
  simp only[if_true];exact⟨vN g n 4,by omega,by omega,zX _,rfl⟩
 | false=>
  simp only[Bool.false_eq_true,if_false];have h:=zBp (YC s.nd.length) _ (vN g n 4)
  cases hr:zAg (zAI s.nd.length) (s.xI n 4) with
  | err e q=>trivial
  | ok a t=>
   rw[hr] at h;have h1:=h.phi;have h2:=h.nd;exact⟨h.xV,by omega,by omega,h.ts,h.deep⟩
theorem zJ2 (i:Nat):zA5 (zEw i):=fun s g=>by
 unfold zEw
 cases hr:vX [112,114,111,99] (s.xI i 3) with
 | err e q=>trivial
 | ok a s2=>
  have h1:=zDR g hr;have gf:=zAQ (i:=i) (k:=3) [112,114,111,99] g;rw[hr] at gf;have g2:=gf.xV;have AA:=((ZT s.nd.length s2 g2).bind fun _ t _ gt=>xS [40] t gt:jO s2 _);rw[VN]
  cases hr3:(jS s.nd.length s2).bind fun _ t=>vX [40] t with
  | err e q=>
   have:∀ {f:Ps→Res Unit},((jS s.nd.length s2).bind fun _ t=>(vX [40] t).bind fun _ t=>f t)=.err e q:=by
    intro f
    cases hn:jS s.nd.length s2 with
    | err e2 q2=>rw[hn] at hr3; exact hr3
    | ok b t=>rw[hn] at hr3; rw[VN] at hr3 ⊢; rw[hr3]; rfl
   rw[this (f:=fun t=>(zBR s.nd.length t).bind fun _ t=>(vX [41] t).bind fun _ t=>(zAd s.nd.length t).bind fun _ t=>zEf s.nd.length t)]
   trivial
  | ok b s4=>
   rw[hr3] at AA
   have:∀ {f:Ps→Res Unit},((jS s.nd.length s2).bind fun _ t=>(vX [40] t).bind fun _ t=>f t)=f s4:=by
    intro f
    cases hn:jS s.nd.length s2 with
    | err e2 q2=>rw[hn] at hr3; cases hr3
    | ok b t=>rw[hn] at hr3; rw[VN] at hr3 ⊢; rw[hr3]; rfl
   rw[this (f:=fun t=>(zBR s.nd.length t).bind fun _ t=>(vX [41] t).bind fun _ t=>(zAd s.nd.length t).bind fun _ t=>zEf s.nd.length t)];have hn:=zEE s.nd.length s4 AA.xV
   cases hr5:zBR s.nd.length s4 with
   | err e q=>trivial
   | ok c s5=>
    rw[hr5] at hn;obtain⟨n1,n2,n3,n4,n5⟩:=hn;have m1:=AA.phi;have m2:=AA.nd;have m3:=AA.ts;have m4:=AA.deep;have l5:ZI s s5:=⟨n1,by omega,by omega,by omega,by rw[n5,m4,gf.deep]⟩;rw[VN];exact jO.trans l5 ((xS [41] s5 n1).bind fun _ t _ gt=>(zGR s.nd.length t gt).bind fun _ t _ gt=>zCJ s.nd.length t gt)
theorem zN2 {i:Nat}{s s':Ps}(g:Good s)(h:zEw i s=.ok () s'):s'.ts.length<s.ts.length:=by
 unfold zEw at h
 cases hr:vX [112,114,111,99] (s.xI i 3) with
 | err e q=>rw[hr] at h; cases h
 | ok a s1=>
  have h1:=zDR g hr;have gf:=zAQ (i:=i) (k:=3) [112,114,111,99] g;rw[hr] at gf h;rw[VN] at h
  have h2:∀ {t:Ps},Good t→t.ts.length≤s1.ts.length→∀ {r:Res Unit},jO t r→r=.ok () s'→s'.ts.length≤s1.ts.length:=fun gt hl _ hf e=>by rw[e] at hf; have:=hf.ts; omega
  cases hn:jS s.nd.length s1 with
  | err e q=>rw[hn] at h; cases h
  | ok b t=>
   have f1:=ZT s.nd.length s1 gf.xV;rw[hn] at f1 h;rw[VN] at h
   cases hk:vX [40] t with
   | err e q=>rw[hk] at h; cases h
   | ok c t2=>
    have f2:=xS [40] t f1.xV;rw[hk] at f2 h;rw[VN] at h
    cases hm:zBR s.nd.length t2 with
    | err e q=>rw[hm] at h; cases h
    | ok d t3=>
     have f3:=zEE s.nd.length t2 f2.xV;rw[hm] at f3 h;rw[VN] at h;have f4:=(xS [41] t3 f3.1).bind fun _ t _ gt=>(zGR s.nd.length t gt).bind fun _ t _ gt=>zCJ s.nd.length t gt;rw[h] at f4;have a1:=f1.ts;have a2:=f2.ts;have a3:=f3.2.2.2.1;have a4:=f4.ts;omega
theorem zOv (w:World)(p B gp:Nat)(s:Ps)(R:xX)(i:Nat)(h:PS w p B s R)(hG:Good s)(hi:i<s.nd.length)(hbig:s.phi≤1000000)(hb:Safe w (xK p R) gp 99 #[.pointer (some ⟨p,0,none⟩)]) :
  Calls Tryz.prog 109 #[.int .i64 (i:Int),.pointer (some ⟨gp,0,none⟩)] w (xM w p B R (if isP [41] s=true then .ok () s else zAg (zAI i) s)):=by
 have AB:=yG (Ran.refl h hG);have HI:=yG hi;have AM:=yG hbig;have AD:=yG hb;obtain⟨AH,AG⟩:∃x,Hid (x=if isP [41] s=true then .ok () s else zAg (zAI i) s):=⟨_,yG rfl⟩;rw[←AG.out];have hm:=hmf;clear h hG hi hbig hb
 go_enter Tryz.func109,Tryz.ntmps109
 cases hi6:isP [41] s with
 | false=>
  have AC:=yG hi6;clear hi6;have AE:=yG (zKn (t:=[41]) (s:=s) AG AC);have cb:=(AD.out.xE AB.out.mv).1.cell 0;simp only[yL,yM] at cb
  go_wp2_with fail
  try clear cb
  refine(XP _ p B s R [41] false AC AB.out.ps).mono ?_;rintro e w6 ⟨rfl,hx⟩;have AA:=yG (AB.out.ext hx);clear hx;have AK:=yG (ZE AE.out);have cb:=(AD.out.xE AA.out.mv).1.cell 0;simp only[yL,yM] at cb
  go_wp2_with fail
  try clear cb
  refine(zGG _ p B s R i ⟨108,#[.pointer (some ⟨p,0,none⟩)],#[],zAI i⟩ AA.out.ps AA.out.lt.xV (enters_of Tryz.func108 (by kernel_rfl) rfl) (YC i) (fun wr s9 R9 AF AN AL=>zB6 wr p B s9 R9 i AL AF.xV (yU (AA.out.idx HI.out) AF.nd) (by have h1:=AF.phi; have h2:=AA.out.phi AM.out; unfold Ps.phi at h1 h2; omega))).mono ?_;intro e w7 hp
  rcases Ran.go AK AA (zBp (YC i) _ AA.out.lt.xV) hp with ⟨s7,R7,AJ,rfl,AI⟩ | ⟨er,a,rfl,HX,HY⟩
  rotate_left
  ·refine xD (P:=Tryz.prog) (fn:=Tryz.f109) rfl ?_;rw[HX.out];exact HY.out
  clear hp;have cb:=(AD.out.xE AI.out.mv).1.cell 0;simp only[yL,yM] at cb
  go_wp2_with fail
  try clear cb
  go_end0;rw[AJ.out];exact xM.ok AI.out.okp
 | true=>
  have AC:=yG hi6;clear hi6;have AE:=yG (zGK (t:=[41]) (s:=s) AG AC);have cb:=(AD.out.xE AB.out.mv).1.cell 0;simp only[yL,yM] at cb
  go_wp2_with fail
  try clear cb
  refine(XP _ p B s R [41] true AC AB.out.ps).mono ?_;rintro e w6 ⟨rfl,hx⟩;have AA:=yG (AB.out.ext hx);clear hx;have cb:=(AD.out.xE AA.out.mv).1.cell 0;simp only[yL,yM] at cb
  go_wp2_with fail
  try clear cb
  go_end0;rw[AE.out];exact xM.ok AA.out.okp
theorem zP1 (w:World)(p B:Nat)(s:Ps)(R:xX)(i:Nat)(h:PS w p B s R)(hG:Good s)(hi:i<s.nd.length)(hbig:s.phi≤1000000) :
  Calls Tryz.prog 75 #[.pointer (some ⟨p,0,none⟩),.int .i64 (i:Int)] w (xM w p B R (zEw i s)):=by
 have HP:=yG h;have HG:=yG hG;have Aj:=yG (Ran.refl h hG);have HI:=yG hi;have AY:=yG hbig;obtain⟨AG,Au⟩:∃x,Hid (x=zEw i s):=⟨_,yG rfl⟩;rw[←Au.out];have hm:=hmf;have Ah:Hid (Ext w (w.alloc (.cells #[.pointer (some ⟨p,0,none⟩)] 99))):=yG (Ext.alloc _ _);have AU:=yG (h.fresh 99 #[.pointer (some ⟨p,0,none⟩)]);have Aq:=yG (h.ext Ah.out);clear Aj;have Aj:=yG (Ran.refl Aq.out hG);obtain⟨gp,Av⟩:∃gp,Hid (w.heap.size=gp):=⟨_,yG rfl⟩;rw[Av.out] at AU;have cb:=AU.out.1.cell 0;simp only[yL,yM] at cb;clear h hG hi hbig
 go_enter Tryz.func75,Tryz.ntmps75
 go_upto_region 1 with fail
 rw[Av.out];generalize w.alloc (.cells #[.pointer (some ⟨p,0,none⟩)] 99)=W0 at *
 go_wp2_with fail
 refine(zEU W0 p B s R i 3 Aq.out HI.out (by have:=AY.out; unfold Ps.phi at this; omega) HG.out).mono ?_;rintro e w1 ⟨rfl,R1,As,An⟩;have Ax:=yG As;have Ao:=yG (An);clear As An;have cb:=(AU.out.xE Ao.out).1.cell 0;simp only[yL,yM] at cb
 go_wp2_with fail
 refine(jG _ p B _ R1 [112,114,111,99] Ax.out).mono ?_;intro e w2 hp
 rcases Ran.goF Au Aj (zAQ [112,114,111,99] HG.out) (xM.trans Ao.out hp) with ⟨s2,R2,Ap,A3,rfl,AQ⟩ | ⟨er,a,rfl,HX,HY⟩
 rotate_left
 ·refine xD (P:=Tryz.prog) (fn:=Tryz.f75) rfl ?_;refine xM.trans (xC.ext Ah.out) ?_;rw[HX.out];exact HY.out
 clear hp;have Al:Hid (s.nd.length<s2.nd.length):=yG (zDR HG.out Ap.out).1;have Ac:Hid (s2.phi≤1000000):=yG (AQ.out.phi AY.out);have AP:Hid (s2.phi+1≤s.phi):=yG (zDR HG.out Ap.out).2.1;have AW:=yG (((xC.ext (M:=xK p R) Ah.out).trans AQ.out.mv));have AZ:=yG (AU.out.xE AQ.out.mv);have AN:=yG (Ran.refl AQ.out.ps AQ.out.lt.xV);have cb:=(AZ.out.xE AN.out.mv).1.cell 0;simp only[yL,yM] at cb
 go_wp2_with fail
 try clear cb
 refine(JY _ p B s2 R2 s.nd.length AN.out.ps (AN.out.idx Al.out)).mono ?_;intro e w8 hp
 rcases Ran.go A3 AN (ZT s.nd.length _ AN.out.lt.xV) hp with ⟨s8,R8,A0,rfl,AX⟩ | ⟨er,a,rfl,HX,HY⟩
 rotate_left
 ·refine xD (P:=Tryz.prog) (fn:=Tryz.f75) rfl ?_;refine xM.trans AW.out ?_;rw[HX.out];exact HY.out
 clear hp;have cb:=(AZ.out.xE AX.out.mv).1.cell 0;simp only[yL,yM] at cb
 go_wp2_with fail
 try clear cb
 refine(jG _ p B s8 R8 [40] AX.out.ps).mono ?_;intro e w9 hp
 rcases Ran.go A0 AX (xS _ _ AX.out.lt.xV) hp with ⟨s9,R9,At,rfl,AD⟩ | ⟨er,a,rfl,HX,HY⟩
 rotate_left
 ·refine xD (P:=Tryz.prog) (fn:=Tryz.f75) rfl ?_;refine xM.trans AW.out ?_;rw[HX.out];exact HY.out
 clear hp;have HF:=yG (AD.out.ps.fresh 119 #[.func (.func 109) #[] #[.pointer (some ⟨gp,0,none⟩)]]);have Aa:Hid (Ext w9 (w9.alloc (.cells #[.func (.func 109) #[] #[.pointer (some ⟨gp,0,none⟩)]] 119))):=yG (Ext.alloc _ _);have Aw:=yG ((AZ.out.xE AD.out.mv).ext Aa.out);have cb:=(AZ.out.xE AD.out.mv).1.cell 0;simp only[yL,yM] at cb
 go_wp2_with fail
 try clear cb
 refine(zCd _ p B s9 R9 s.nd.length 4 _ [⟨109,#[],#[.pointer (some ⟨gp,0,none⟩)],fun t=>if isP [41] t=true then .ok () t else zAg (zAI s9.nd.length) t⟩] 1 (AD.out.ps.ext Aa.out) (AD.out.idx Al.out) (AD.out.nd Ac.out) (by simp) AD.out.lt.xV HF.out.row (fun f hf=>by
  rw[List.mem_singleton.1 hf]
  exact enters_of Tryz.func109 (by kernel_rfl) rfl) (fun k hk s' wr R' h1 h2 h3=>by
  obtain rfl:k=0:=by simp at hk; omega
  injection h1 with _ h1;subst h1
  exact zOv wr p B gp _ R' s9.nd.length h3 (vN AD.out.lt.xV s.nd.length 4) (by rw[jT]; omega) (by
   rw[zCC];have h1:=AD.out.lt.phi;have h2:=AP.out;have h3:=AY.out
   omega) (Aw.out.xE h2))).mono ?_
 intro e w50 hp;rw[zCp] at hp;have AT:zD3 _ p B R9 (.int .i64 (s9.nd.length:Int)) (zBR s.nd.length s9) e w50:=hp;have Ar:=zEE s.nd.length s9 AD.out.lt.xV
 cases hq:zBR s.nd.length s9 with
 | err er a=>
  rw[hq] at AT;obtain⟨rfl,ho⟩:=AT
  have A4:Hid (xM w p B R AG (jV er) w50):=yG (by
   refine xM.trans AW.out ?_;rw[At.out,hq]
   exact VF.trans (AD.out.mv.trans (xC.ext Aa.out)) ⟨rfl,ho⟩)
  exact xD (P:=Tryz.prog) (fn:=Tryz.f75) rfl A4.out
 | ok a s50=>
  rw[hq] at AT Ar;obtain⟨rfl,A5,AS,AI⟩:=AT;obtain⟨n1,n2,n3,n4,n5⟩:=Ar;have AJ:=yG (AW.out.trans ((AD.out.mv.trans (xC.ext Aa.out)).trans AI));have AF:=yG (Aw.out.xE AI);have Ae:Hid (s.nd.length<s50.nd.length):=yG (by have h1:=AD.out.lt.nd; have h2:=Al.out; omega);have AL:Hid (s50.phi≤1000000):=yG (by have h1:=AD.out.lt.phi; have h2:=AP.out; have h3:=AY.out; omega);have AV:=yG (Ran.refl AS n1);have Ai:Hid (AG=(vX [41] s50).bind fun _ t=>(zAd s.nd.length t).bind fun _ t=>zEf s.nd.length t):=yG (by rw[At.out,hq]; rfl);clear hp hq AS AI n1 n2 n3 n4 n5;have cb:=(AF.out.xE AV.out.mv).1.cell 0;simp only[yL,yM] at cb
  go_wp2_with fail
  try clear cb
  refine(jG _ p B s50 A5 [41] AV.out.ps).mono ?_;intro e A8 hp
  rcases Ran.go Ai AV (xS _ _ AV.out.lt.xV) hp with ⟨AM,Ak,AK,rfl,AB⟩ | ⟨er,a,rfl,HX,HY⟩
  rotate_left
  ·refine xD (P:=Tryz.prog) (fn:=Tryz.f75) rfl ?_;refine xM.trans AJ.out ?_;rw[HX.out];exact HY.out
  clear hp
  cases hi11:isP [115,105,110,103,108,101] AM with
  | false=>
   have AE:=yG hi11;clear hi11;have AH:=yG (zNW AK (zQS AE));have cb:=(AF.out.xE AB.out.mv).1.cell 0;simp only[yL,yM] at cb
   go_wp2_with fail
   try clear cb
   refine(zAP _ p B AM Ak [115,105,110,103,108,101] AE AB.out.ps).mono ?_;rintro e A1 ⟨rfl,hx⟩;have AA:=yG (AB.out.ext hx);clear hx;have Ag:=yG (ZE AH.out);have cb:=(AF.out.xE AA.out.mv).1.cell 0;simp only[yL,yM] at cb
   go_wp2_with fail
   try clear cb
   refine(zH9 _ p B AM Ak s.nd.length AA.out.ps AA.out.lt.xV (AA.out.idx Ae.out) (AA.out.phi AL.out)).mono ?_;intro e BA hp
   rcases Ran.go Ag AA (zCJ s.nd.length _ AA.out.lt.xV) hp with ⟨BC,A7,Ad,rfl,AO⟩ | ⟨er,a,rfl,HX,HY⟩
   rotate_left
   ·refine xD (P:=Tryz.prog) (fn:=Tryz.f75) rfl ?_;refine xM.trans AJ.out ?_;rw[HX.out];exact HY.out
   clear hp;have cb:=(AF.out.xE AO.out.mv).1.cell 0;simp only[yL,yM] at cb
   go_wp2_with fail
   try clear cb
   go_end0;refine xM.trans AJ.out ?_;rw[Ad.out];exact xM.ok AO.out.okp
  | true=>
   have AE:=yG hi11;clear hi11;have AH:=yG (bind_eq AK (zOy AE));have cb:=(AF.out.xE AB.out.mv).1.cell 0;simp only[yL,yM] at cb
   go_wp2_with fail
   try clear cb
   refine(VJ _ p B AM Ak [115,105,110,103,108,101] AE AB.out.ps).mono ?_;rintro e A1 ⟨rfl,ho⟩;obtain⟨Az,hs⟩:=AB.out.then ho (zBh AB.out.lt.xV AE);have AA:=yG hs;clear ho hs;have cb:=(AF.out.xE AA.out.mv).1.cell 0;simp only[yL,yM] at cb
   go_wp2_with fail
   try clear cb
   refine(zCB _ p B AM.adv Az s.nd.length AA.out.ps (AA.out.idx Ae.out)).mono ?_;intro e A6 hp
   rcases Ran.go AH AA (ZI.num AA.out.lt.xV s.nd.length 1) hp with ⟨A2,Ay,Am,rfl,AC⟩ | ⟨er,a,rfl,HX,HY⟩
   rotate_left
   ·refine xD (P:=Tryz.prog) (fn:=Tryz.f75) rfl ?_;refine xM.trans AJ.out ?_;rw[HX.out];exact HY.out
   clear hp;have Af:=yG (ZE Am.out);have cb:=(AF.out.xE AC.out.mv).1.cell 0;simp only[yL,yM] at cb
   go_wp2_with fail
   try clear cb
   refine(zH9 _ p B A2 Ay s.nd.length AC.out.ps AC.out.lt.xV (AC.out.idx Ae.out) (AC.out.phi AL.out)).mono ?_;intro e BD hp
   rcases Ran.go Af AC (zCJ s.nd.length _ AC.out.lt.xV) hp with ⟨A9,BB,Ab,rfl,AR⟩ | ⟨er,a,rfl,HX,HY⟩
   rotate_left
   ·refine xD (P:=Tryz.prog) (fn:=Tryz.f75) rfl ?_;refine xM.trans AJ.out ?_;rw[HX.out];exact HY.out
   clear hp;have cb:=(AF.out.xE AR.out.mv).1.cell 0;simp only[yL,yM] at cb
   go_wp2_with fail
   try clear cb
   go_end0;refine xM.trans AJ.out ?_;rw[Ab.out];exact xM.ok AR.out.okp
theorem zQ9 {f:Nat}{s:Ps}(h:s.hd.kind=4):YA (f+1) s=.ok () s:=by unfold YA; rw[if_pos h]
theorem zMC {f:Nat}{s:Ps}(h:s.hd.kind≠4)(h1:isP [116,97,98,108,101] s=true):YA (f+1) s=(zCV 0 s).bind fun _ s=>YA f s:=by rw[YA,if_neg h,if_pos h1]
theorem zNR {f:Nat}{s:Ps}(h:s.hd.kind≠4)(h1:isP [116,97,98,108,101] s=false)(h2:isP [112,114,111,99] s=true):YA (f+1) s=(zEw 0 s).bind fun _ s=>YA f s:=by
 rw[YA,if_neg h,h1,if_pos h2]
 rfl
theorem zQe {f:Nat}{s:Ps}(h:s.hd.kind≠4)(h1:isP [116,97,98,108,101] s=false)(h2:isP [112,114,111,99] s=false):YA (f+1) s=.err 50 s.hd.at_:=by
 rw[YA,if_neg h,h1,h2]
 rfl
theorem zJO (w:World)(p B gp:Nat)(s:Ps)(R:xX)(i:Nat)(hi0:i=0)(h:PS w p B s R)(hG:Good s)(hi:i<s.nd.length)(hbig:s.phi≤1000000)(hb:Safe w (xK p R) gp 99 #[.pointer (some ⟨p,0,none⟩)]) :
  Calls Tryz.prog 72 #[.int .i64 (i:Int),.pointer (some ⟨gp,0,none⟩)] w (xM w p B R (YA (s.ts.length+1) s)):=by
 have AS:=yG (Ran.refl h hG);have HI:=yG hi;have AQ:=yG hbig;have AE:=yG hb;have AP:=yG hi0;have AU:=zDh;obtain⟨AA,AR⟩:∃x,Hid (x=YA (s.ts.length+1) s):=⟨_,yG rfl⟩;rw[←AR.out];clear h hG hi hbig hb hi0
 go_enter Tryz.func72,Tryz.ntmps72
 go_wp2_with fail
 go_loopw [] (fun wr=>∃(s':Ps) (R':xX) (m:Nat),Hid (Ran w p B R s wr R' s')∧Hid (s'.ts.length<m)∧Hid (AA=YA m s')) (fun wr=>JN p wr)
 case atStart=>exact⟨s,R,s.ts.length+1,AS,yG (Nat.lt_succ_self _),AR⟩
 case round=>
  obtain⟨s',R',m,HS,HM,HL⟩:=hrel;obtain⟨wa,rfl⟩:∃wa:World,wa=wr:=⟨_,rfl⟩;obtain⟨m',rfl⟩:∃m',m=m'+1:=⟨m-1,by have:=HM.out; omega⟩;have cb:=(AE.out.xE HS.out.mv).1.cell 0;simp only[yL,yM] at cb
  by_cases hk:s'.hd.kind=4
  ·have HR:Hid (AA=.ok () s'):=yG (by rw[HL.out,zQ9 hk])
   have b4:((s'.hd.kind:Int) != 4)=false:=by rw[hk]; rfl
   have c4:(s'.hd.kind:Int)=4:=by rw[hk]; rfl
   clear hk
   go_wp2_with fail
   refine(ZC wa p s' R' HS.out.ps.ts).mono ?_;rintro e w2 ⟨rfl,hx⟩;have AC:=yG (HS.out.ext hx);clear hx cb;unfold ZY
   go_wp2_with fail
   go_end0;rw[HR.out];exact xM.ok AC.out.okp
  ·have HK:=yG hk
   have b4:((s'.hd.kind:Int) != 4)=true:=by rw[zE]; omega
   have c4:¬(s'.hd.kind:Int)=4:=by omega
   clear hk
   go_wp2_with fail
   refine(ZC wa p s' R' HS.out.ps.ts).mono ?_;rintro e w2 ⟨rfl,hx⟩;have AC:=yG (HS.out.ext hx);clear hx cb;unfold ZY;have AO:=(AE.out.xE AC.out.mv).1.cell 0;simp only[yL,yM] at AO
   cases hi:isP [116,97,98,108,101] s' with
   | true=>
    have AF:=yG hi;have HQ:Hid (AA=(zCV i s').bind fun _ s=>YA m' s):=yG (by rw[HL.out,AP.out,zMC HK.out hi]);clear hi
    go_wp2_with fail
    refine(XP _ p B s' R' [116,97,98,108,101] true AF AC.out.ps).mono ?_;rintro e w4 ⟨rfl,hx⟩;have AB:=yG (AC.out.ext hx);clear hx;have AD:=(AE.out.xE AB.out.mv).1.cell 0;simp only[yL,yM] at AD
    go_wp2_with fail
    refine(zOe w4 p B s' R' i AB.out.ps AB.out.lt.xV (AB.out.idx HI.out) (AB.out.phi AQ.out)).mono ?_;intro e w5 hp
    rcases Ran.goF HQ AB (zIw i _ AB.out.lt.xV) hp with ⟨s5,R5,AL,AM,rfl,AH⟩ | ⟨er,a,rfl,HX,HY⟩
    rotate_left
    ·refine xD (P:=Tryz.prog) (fn:=Tryz.f72) rfl ?_;rw[HX.out];exact HY.out
    clear hp AD;have AI:=yG (zMW AB.out.lt.xV AL.out);have AJ:Hid (s5.ts.length<m'):=yG (by have:=AI.out; have:=HM.out; omega);have AN:Hid (JN p w5<JN p wa):=yG (by rw[AH.out.ps.JN,HS.out.ps.JN]; exact AI.out)
    go_wp2_with fail
    go_roundw
    case rel=>exact⟨s5,R5,m',AH,AJ,AM⟩
    case measure=>exact AN.out
   | false=>
    have AF:=yG hi;clear hi
    go_wp2_with fail
    refine(XP _ p B s' R' [116,97,98,108,101] false AF AC.out.ps).mono ?_;rintro e w3 ⟨rfl,hx⟩;have AG:=yG (AC.out.ext hx);clear hx AO;have AT:=(AE.out.xE AG.out.mv).1.cell 0;simp only[yL,yM] at AT
    cases hi:isP [112,114,111,99] s' with
    | true=>
     have AK:=yG hi;have HQ:Hid (AA=(zEw i s').bind fun _ s=>YA m' s):=yG (by rw[HL.out,AP.out,zNR HK.out AF.out hi]);clear hi
     go_wp2_with fail
     refine(XP _ p B s' R' [112,114,111,99] true AK AG.out.ps).mono ?_;rintro e w4 ⟨rfl,hx⟩;have AB:=yG (AG.out.ext hx);clear hx;have AD:=(AE.out.xE AB.out.mv).1.cell 0;simp only[yL,yM] at AD
     go_wp2_with fail
     refine(zP1 w4 p B s' R' i AB.out.ps AB.out.lt.xV (AB.out.idx HI.out) (AB.out.phi AQ.out)).mono ?_;intro e w5 hp
     rcases Ran.goF HQ AB (zJ2 i _ AB.out.lt.xV) hp with ⟨s5,R5,AL,AM,rfl,AH⟩ | ⟨er,a,rfl,HX,HY⟩
     rotate_left
     ·refine xD (P:=Tryz.prog) (fn:=Tryz.f72) rfl ?_;rw[HX.out];exact HY.out
     clear hp AD;have AI:=yG (zN2 AB.out.lt.xV AL.out);have AJ:Hid (s5.ts.length<m'):=yG (by have:=AI.out; have:=HM.out; omega);have AN:Hid (JN p w5<JN p wa):=yG (by rw[AH.out.ps.JN,HS.out.ps.JN]; exact AI.out)
     go_wp2_with fail
     go_roundw
     case rel=>exact⟨s5,R5,m',AH,AJ,AM⟩
     case measure=>exact AN.out
    | false=>
     have AK:=yG hi;have HQ:Hid (AA=.err 50 s'.hd.at_):=yG (by rw[HL.out,zQe HK.out AF.out hi]);clear hi
     go_wp2_with fail
     refine(XP _ p B s' R' [112,114,111,99] false AK AG.out.ps).mono ?_;rintro e w4 ⟨rfl,hx⟩;have AB:=yG (AG.out.ext hx);clear hx;have AD:=(AE.out.xE AB.out.mv).1.cell 0;simp only[yL,yM] at AD
     go_wp2_with fail
     refine(zBj _ p 50).mono ?_;rintro e w5 ⟨rfl,rfl⟩;have HF:Hid (xM w p B R AA (jV 50) w4):=yG (by rw[HQ.out]; exact⟨rfl,s',rfl,AB.out.okp⟩);exact xD (P:=Tryz.prog) (fn:=Tryz.f72) rfl HF.out
theorem zQs {s:Ps}(h:Good s)(k:Nat):Good (s.node k):=by
 refine⟨h.last,h.deep,fun n hn=>?_⟩
 have hl:(s.node k).nd.length=s.nd.length+1:=by show(s.nd++[_]).length=_; simp
 rw[hl]
 rcases List.mem_append.1 (show n ∈ s.nd++[_] from hn) with hn | hn
 ·have:=h.few n hn; omega
 ·rw[List.mem_singleton.1 hn]; simp
theorem zMc (s:Ps)(k:Nat):(s.node k).nd.length=s.nd.length+1:=by show(s.nd++[_]).length=_; simp
theorem zLX (w:World)(p B:Nat)(s:Ps)(R:xX)(h:PS w p B s R)(hG:Good s)(h0:s.nd.length=0)(hbig:s.phi≤999999) :
  Calls Tryz.prog 44 #[.pointer (some ⟨p,0,none⟩)] w (xM w p B R (zDs s)):=by
 have HP:=yG h;have HG:=yG hG;have H0:=yG h0;have AH:=yG hbig;have AE:Hid (Ext w (w.alloc (.cells #[.pointer (some ⟨p,0,none⟩)] 99))):=yG (Ext.alloc _ _);have AD:=yG (h.fresh 99 #[.pointer (some ⟨p,0,none⟩)]);have AG:=yG (h.ext AE.out);have cb:=AD.out.1.cell 0;simp only[yL,yM] at cb;obtain⟨AB,AF⟩:∃x,Hid (x=zDs s):=⟨_,yG rfl⟩;rw[←AF.out];have hm:=hmf;obtain⟨gb,AI⟩:∃gb,Hid (w.heap.size=gb):=⟨_,yG rfl⟩;rw[AI.out] at AD cb;clear h hG hbig h0
 go_enter Tryz.func44,Tryz.ntmps44
 go_upto_region 1 with fail
 rw[AI.out];generalize w.alloc (.cells #[.pointer (some ⟨p,0,none⟩)] 99)=W0 at *;have HF:=yG (AG.out.fresh 119 #[.func (.func 72) #[] #[.pointer (some ⟨gb,0,none⟩)]]);have AC:Hid (Ext W0 (W0.alloc (.cells #[.func (.func 72) #[] #[.pointer (some ⟨gb,0,none⟩)]] 119))):=yG (Ext.alloc _ _)
 go_wp2_with fail
 refine(zKU _ p B s R 1 _ [⟨72,#[],#[.pointer (some ⟨gb,0,none⟩)],fun t=>YA (t.ts.length+1) t⟩] 1 (AG.out.ext AC.out) (by have:=AH.out; unfold Ps.phi at this; omega) (by simp) HF.out.row (fun f hf=>by
  rw[List.mem_singleton.1 hf]
  exact enters_of Tryz.func72 (by kernel_rfl) rfl) (fun k hk s' wr R' h1 h2 h3=>by
  obtain rfl:k=0:=by simp at hk; omega
  injection h1 with _ h1;subst h1
  exact zJO wr p B gb _ R' s.nd.length H0.out h3 (zQs HG.out 1) (by rw[zMc]; omega) (by
   have h1:=AH.out;unfold Ps.phi at h1 ⊢;rw[zMc]
   show s.nd.length+1+2*s.ts.length≤_
   omega) ((AD.out.ext AC.out).xE h2))).mono ?_
 intro e w1 AA;rw[zCp] at AA
 rcases AA.unit with ⟨s',hr,rfl,ho⟩ | ⟨er,a,hr,he⟩
 ·have HR:Hid (AB=.ok () s'):=yG (AF.out.trans hr);have HO:=yG (OkP.trans (xC.ext (AE.out.trans AC.out)) ho);clear AA hr ho
  go_wp2_with fail
  go_end0;rw[HR.out];exact xM.ok HO.out
 ·have HE:=yG (VF.trans (xC.ext (AE.out.trans AC.out)) he);have HR:Hid (AB=.err er a):=yG (AF.out.trans hr);obtain⟨rfl,_⟩:=he;refine xD (P:=Tryz.prog) (fn:=Tryz.f44) rfl ?_;rw[HR.out];exact HE.out
end Go.Proofs.YtbadjmmjbpeocaaGreat
namespace Go.Proofs.YtbadjmmjbpeocaaGreat
def Lst (s:Ps):Prop:=∃l e,s.ts=l++[e]∧e.kind=4
theorem Lst.ne {s:Ps}(h:Lst s):s.ts≠[]:=by obtain⟨l,e,h,_⟩:=h; rw[h]; simp
theorem Lst.pos {s:Ps}(h:Lst s):0<s.ts.length:=List.length_pos_iff.2 h.ne
theorem Lst.hd {s:Ps}(h:Lst s):s.hd ∈ s.ts:=by
 unfold Ps.hd
 cases hs:s.ts with
 | nil=>exact absurd hs h.ne
 | cons t r=>exact List.mem_cons_self ..
theorem Lst.adv {s:Ps}(h:Lst s)(hk:s.hd.kind≠4):Lst s.adv:=by
 obtain⟨l,e,hl,he⟩:=h
 cases l with
 | nil=>
  exfalso
  apply hk;unfold Ps.hd;rw[hl];exact he
 | cons t r=>exact⟨r,e,by show s.ts.tail=_; rw[hl]; rfl,he⟩
theorem Lst.len {s:Ps}(h:Lst s)(hk:s.hd.kind≠4):s.adv.ts.length<s.ts.length:=by
 have:=h.pos
 have:=jW (s:=s)
 omega
def Tl (s s':Ps):Prop:=∃pre,s.ts=pre++s'.ts
theorem Tl.refl (s:Ps):Tl s s:=⟨[],rfl⟩
theorem Tl.trans {a b c:Ps}(h:Tl a b)(k:Tl b c):Tl a c:=by
 obtain⟨p,hp⟩:=h;obtain⟨q,hq⟩:=k;exact⟨p++q,by rw[hp,hq,List.append_assoc]⟩
theorem Tl.adv (s:Ps):Tl s s.adv:=by
 cases hs:s.ts with
 | nil=>exact⟨[],by show s.ts=_; rw[show s.adv.ts=s.ts.tail from rfl,hs]; rfl⟩
 | cons t r=>exact⟨[t],by rw[show s.adv.ts=s.ts.tail from rfl,hs]; rfl⟩
theorem Tl.mem {s s':Ps}(h:Tl s s'){t:Tok}(ht:t ∈ s'.ts):t ∈ s.ts:=by
 obtain⟨p,hp⟩:=h;rw[hp];exact List.mem_append_right _ ht
theorem Tl.len {s s':Ps}(h:Tl s s'):s'.ts.length≤s.ts.length:=by
 obtain⟨p,hp⟩:=h;rw[hp,yP];omega
def jA {α:Type}(s:Ps):Res α→Prop
 | .ok _ s'=>Lst s'∧Tl s s'
 | .err e a=>(e=50∨e=51)∧∃t ∈ s.ts,t.at_=a∧(e=51→t.kind≠4)
def YV {α:Type}(s:Ps):Res α→Prop
 | .ok _ s'=>Lst s'∧Tl s s'∧s'.ts.length<s.ts.length
 | .err e a=>(e=50∨e=51)∧∃t ∈ s.ts,t.at_=a∧(e=51→t.kind≠4)
theorem YV.at {α:Type}{s:Ps}{r:Res α}(h:YV s r):jA s r:=by
 cases r with
 | ok a t=>exact⟨h.1,h.2.1⟩
 | err e a=>exact h
theorem jA.of {α:Type}{s s2:Ps}(e:s2.ts=s.ts){r:Res α}(h:jA s2 r):jA s r:=by
 cases r with
 | ok a t=>exact⟨h.1,by obtain⟨p,hp⟩:=h.2; exact⟨p,by rw[←e,hp]⟩⟩
 | err c a=>obtain⟨h1,x,hx,AA⟩:=h; exact⟨h1,x,by rw[←e]; exact hx,AA⟩
theorem YV.of {α:Type}{s s2:Ps}(e:s2.ts=s.ts){r:Res α}(h:YV s2 r):YV s r:=by
 cases r with
 | ok a t=>exact⟨h.1,by obtain⟨p,hp⟩:=h.2.1; exact⟨p,by rw[←e,hp]⟩,by rw[←e]; exact h.2.2⟩
 | err c a=>obtain⟨h1,x,hx,AA⟩:=h; exact⟨h1,x,by rw[←e]; exact hx,AA⟩
theorem jA.trans {α:Type}{s t:Ps}{r:Res α}(h:Tl s t)(k:jA t r):jA s r:=by
 cases r with
 | ok a u=>exact⟨k.1,h.trans k.2⟩
 | err c a=>obtain⟨h1,x,hx,AA⟩:=k; exact⟨h1,x,h.mem hx,AA⟩
theorem YV.trans {α:Type}{s t:Ps}{r:Res α}(h:Tl s t)(hl:t.ts.length<s.ts.length)(k:jA t r):YV s r:=by
 cases r with
 | ok a u=>exact⟨k.1,h.trans k.2,Nat.lt_of_le_of_lt k.2.len hl⟩
 | err c a=>obtain⟨h1,x,hx,AA⟩:=k; exact⟨h1,x,h.mem hx,AA⟩
theorem jA.bind {α β:Type}{s:Ps}{r:Res α}{f:α→Ps→Res β}(h:jA s r)(k:∀a t,r=.ok a t→Lst t→t.ts.length≤s.ts.length→jA t (f a t)):jA s (r.bind f):=by
 cases r with
 | ok a t=>exact jA.trans h.2 (k a t rfl h.1 h.2.len)
 | err e a=>exact h
theorem YV.bind {α β:Type}{s:Ps}{r:Res α}{f:α→Ps→Res β}(h:YV s r)(k:∀a t,r=.ok a t→Lst t→t.ts.length<s.ts.length→jA t (f a t)):YV s (r.bind f):=by
 cases r with
 | ok a t=>exact YV.trans h.2.1 h.2.2 (k a t rfl h.1 h.2.2)
 | err e a=>exact h
theorem zTq {α:Type}{s:Ps}(h:Lst s)(e:Int)(he:e=50∨e=51)(hk:e=51→s.hd.kind≠4):jA s (.err e s.hd.at_:Res α):=⟨he,_,h.hd,rfl,hk⟩
theorem zEn {α:Type}{s:Ps}(h:Lst s)(e:Int)(he:e=50∨e=51)(hk:e=51→s.hd.kind≠4):YV s (.err e s.hd.at_:Res α):=⟨he,_,h.hd,rfl,hk⟩
theorem zHz {α:Type}{s:Ps}{a:α}(h:Lst s)(hk:s.hd.kind≠4):YV s (.ok a s.adv):=⟨h.adv hk,Tl.adv s,h.len hk⟩
theorem ZG {α:Type}{s t:Ps}{a:α}(h:Lst s)(e:t.ts=s.ts):jA s (.ok a t):=⟨by obtain⟨l,x,hl,hx⟩:=h; exact⟨l,x,by rw[e,hl],hx⟩,⟨[],by rw[e]; rfl⟩⟩
theorem Lst.of {s t:Ps}(h:Lst s)(e:t.ts=s.ts):Lst t:=by obtain⟨l,x,hl,hx⟩:=h; exact⟨l,x,by rw[e,hl],hx⟩
theorem ZA (t:Bs){s:Ps}(h:Lst s):YV s (vX t s):=by
 unfold vX
 split
 ·rename_i hi;exact zHz h (vO hi).1
 ·exact zEn h 50 (.inl rfl) (fun h=>absurd h (by decide))
theorem zRe (k:Nat)(hk:k≠4){s:Ps}(h:Lst s):YV s (ofP k s):=by
 unfold ofP
 split
 ·rename_i hi;exact zHz h (by rw[hi]; exact hk)
 ·exact zEn h 50 (.inl rfl) (fun h=>absurd h (by decide))
theorem zAb (i:Nat){s:Ps}(h:Lst s):YV s (jS i s):=(zRe 1 (by decide) h).bind fun t u _ hu _=>ZG hu rfl
theorem zDg (i:Nat){s:Ps}(h:Lst s):YV s (zAI i s):=YV.of rfl (zAb _ (h.of rfl))
theorem zIq (i:Nat){s:Ps}(h:Lst s):YV s (zCt i s):=YV.of (s2:=s.xI i 21) rfl ((zRe 2 (by decide) (h.of (t:=s.xI i 21) rfl)).bind fun t u _ hu _=>ZG hu rfl)
theorem zDJ {α:Type}(a z:Bs){body:Pm α}{s:Ps}(h:Lst s)(hb:∀t,Lst t→t.ts.length<s.ts.length→jA t (body t)):YV s (jE a z body s):=by
 unfold jE
 split
 ·rename_i hi
  split
  ·exact zEn h 51 (.inr rfl) (fun _=>(vO hi).1)
  ·have hk:=(vO hi).1;have hl:=h.len hk;refine YV.trans (t:={ s.adv with deep:=s.deep+1 }) (Tl.adv s) hl ((hb _ ((h.adv hk).of (t:={ s.adv with deep:=s.deep+1 }) rfl) hl).bind fun x t _ ht _=>?_)
   split
   ·exact ZG ht rfl
   ·exact((ZA z ht).at).bind fun _ u _ hu _=>ZG hu rfl
 ·exact zEn h 50 (.inl rfl) (fun h=>absurd h (by decide))
theorem zNc {ms:List (Bs × Nat)}{part:Pm Ex}(n:Nat)(hp:∀t,Lst t→t.ts.length≤n→jA t (part t)):∀(f:Nat) (e:Ex) (t:Ps),Lst t→t.ts.length≤n→t.ts.length<f→jA t (VX ms part f e t)
 | 0,_,_,_,_,h=>absurd h (by omega)
 | f+1,e,t,g,hl,hf=>by
  unfold VX
  split
  ·exact ZG g rfl
  ·rename_i k hk;have h4:=zHS hk;have AB:=g.len h4;exact jA.trans (Tl.adv t) ((hp _ (g.adv h4) (by omega)).bind fun r u _ hu AA=>zNc n hp f _ u hu (by omega) (by omega))
theorem zKu {ms:List (Bs × Nat)}{part:Pm Ex}(n:Nat)(hp:∀t,Lst t→t.ts.length≤n→jA t (part t)){s:Ps}(g:Lst s)(hl:s.ts.length≤n):jA s (XB ms part s):=
 (hp s g hl).bind fun e u _ hu AA=>zNc n hp _ e u hu (by omega) (Nat.lt_succ_self _)
theorem zPc {part:Pm Ex}(n:Nat)(hp:∀t,Lst t→t.ts.length≤n→jA t (part t)){s:Ps}(g:Lst s)(hl:s.ts.length≤n):jA s (zEA part s):=
 zKu n (fun t gt ht=>zKu n hp gt ht) g hl
theorem zFl:∀(f:Nat) (s:Ps),Lst s→s.ts.length≤f→jA s (vM f s)
 | 0,s,g,hl=>absurd g.pos (by omega)
 | f+1,s,g,hl=>by
  unfold vM
  split
  ·rename_i hk;exact(zHz g (by omega)).at
  ·split
   ·rename_i hk;exact(zHz g (by omega)).at
   ·split
    ·exact(zDJ [45] [] g fun t gt ht=>zFl f t gt (by omega)).at.bind fun a t _ ht _=>ZG ht rfl
    ·exact(zDJ [40] [41] g fun t gt ht=>zPc f (fun t gt ht=>zFl f t gt ht) gt (by omega)).at
theorem zRW {s:Ps}(g:Lst s):jA s (zPX s):=zPc _ (fun t gt ht=>zFl _ t gt ht) g (zX _)
theorem zCl (i:Nat){s:Ps}(g:Lst s):jA s (zAC i s):=(zRW g).bind fun e t _ ht _=>ZG ht (zCy e i t).2.1
theorem zNe {one:Pm Unit}(h:∀s,Lst s→jA s (one s)):∀(f:Nat) (s:Ps),Lst s→s.ts.length<f→jA s (zBE one f s)
 | 0,_,_,hl=>absurd hl (by omega)
 | f+1,s,g,hl=>by
  unfold zBE
  split
  ·rename_i hi;have hk:=(vO hi).1;have AB:=g.len hk;exact jA.trans (Tl.adv s) ((h _ (g.adv hk)).bind fun _ t _ ht AA=>zNe h f t ht (by omega))
  ·exact ZG g rfl
theorem zIb {one:Pm Unit}(h:∀s,Lst s→jA s (one s)){s:Ps}(g:Lst s):jA s (zAg one s):=(h s g).bind fun _ t _ ht hl=>zNe h _ t ht (Nat.lt_succ_self _)
theorem zOZ (i:Nat){s:Ps}(g:Lst s):YV s (zGg i s):=zDJ [91] [93] g fun t gt _=>zCl i gt
theorem zLk (i:Nat){s:Ps}(g:Lst s):jA s (zJt i s):=jA.of (s2:=s.xI i 20) rfl ((zAb _ (g.of (t:=s.xI i 20) rfl)).at.bind fun _ t _ ht _=>(zOZ _ ht).at)
theorem zMw (i:Nat){s:Ps}(g:Lst s):jA s (zIC i s):=(zLk i g).bind fun _ t _ ht _=>(ZA _ ht).at.bind fun _ t _ ht _=>(zDg i ht).at
theorem zSD (i:Nat){s:Ps}(g:Lst s):jA s (zKS i s):=(zAb i g).at.bind fun _ t _ ht _=>(ZA _ ht).at.bind fun _ t _ ht _=>(zMw i ht).bind fun _ t _ ht _=>by
 split
 ·rename_i hi;exact jA.trans (Tl.adv t) ((ZA _ (ht.adv (vO hi).1)).at.bind fun _ u _ hu _=>ZG hu rfl)
 ·exact ZG ht rfl
theorem zTN (i:Nat){s:Ps}(g:Lst s):jA s (zQt i s):=(zMw i g).bind fun _ t _ ht _=>(ZA _ ht).at.bind fun _ t _ ht _=>zCl i ht
theorem zOk (i:Nat){s:Ps}(g:Lst s):jA s (zE3 i s):=(zLk i g).bind fun _ t _ ht _=>(ZA _ ht).at.bind fun _ t _ ht _=>(zIb (fun s g=>zCl i g) ht).bind fun _ t _ ht _=>(ZA _ ht).at
theorem zRA (i:Nat){s:Ps}(g:Lst s):jA s (zJ7 i s):=(zAb i g).at.bind fun _ t _ ht _=>(ZA _ ht).at.bind fun _ t _ ht _=>(zDg i ht).at.bind fun _ t _ ht _=>(ZA _ ht).at.bind fun _ t _ ht _=>(zDg i ht).at
theorem zRO (i:Nat){s:Ps}(g:Lst s):jA s (zKg i s):=(zDg i g).at.bind fun _ t _ ht _=>by
 split
 ·rename_i hi;exact jA.trans (Tl.adv t) (ZG (ht.adv (vO hi).1) rfl)
 ·exact(ZA _ ht).at
theorem zNH (i:Nat){s:Ps}(g:Lst s):jA s (zDt i s):=jA.of (s2:=s.xI i 5) rfl ((zAb _ (g.of (t:=s.xI i 5) rfl)).at.bind fun _ t _ ht _=>by
 split
 ·exact jA.of (s2:=t.kind s.nd.length 20) rfl (zOZ _ (ht.of (t:=t.kind s.nd.length 20) rfl)).at
 ·exact ZG ht rfl)
theorem zSw (i:Nat){s:Ps}(g:Lst s):jA s (zFf i s):=by
 unfold zFf
 split
 ·rename_i hi;exact jA.trans (Tl.adv s) (ZG (g.adv (vO hi).1) rfl)
 ·exact(ZA _ g).at
theorem zTF (i:Nat){s:Ps}(g:Lst s):jA s (zPK i s):=(zAb i g).at.bind fun _ t _ ht _=>(ZA _ ht).at.bind fun _ t _ ht _=>zCl i ht
def zOV (n:Nat)(st:Nat→Pm Unit):Prop:=∀i s,Lst s→s.ts.length≤n→YV s (st i s)
theorem zKG {n:Nat}{st:Nat→Pm Unit}(h:zOV n st)(i:Nat):∀f s,Lst s→s.ts.length≤n→s.ts.length<f→jA s (XA st i f s)
 | 0,_,_,_,hf=>absurd hf (by omega)
 | f+1,s,g,hl,hf=>by
  unfold XA
  split
  ·exact ZG g rfl
  ·exact((h i s g hl).bind fun _ t _ ht AA=>zKG h i f t ht (by omega) (by omega)).at
theorem zE5 {n:Nat}{st:Nat→Pm Unit}(h:zOV n st)(i:Nat){s:Ps}(g:Lst s)(hl:s.ts.length≤n+1):YV s (zAV st i s):=
 YV.of (s2:=s.xI i 6) rfl (zDJ [123] [125] (g.of (t:=s.xI i 6) rfl) fun t gt ht=>zKG h _ _ t gt (by rw[YS] at ht; omega) (Nat.lt_succ_self _))
theorem zRH {n:Nat}{st:Nat→Pm Unit}(h:zOV n st)(i:Nat){s:Ps}(g:Lst s)(hl:s.ts.length≤n+1):jA s (zGM st i s):=by
 unfold zGM
 split
 ·rename_i hi;have hk:=(vO hi).1
  have:=g.len hk
  exact jA.trans (Tl.adv s) (zE5 h i (g.adv hk) (by omega)).at
 ·exact ZG g rfl
theorem zNV {n:Nat}{st:Nat→Pm Unit}(h:zOV n st)(i:Nat){s:Ps}(g:Lst s)(hl:s.ts.length≤n+1):jA s (zDu st i s):=
 (zCl i g).bind fun _ t _ gt l1=>(zSw i gt).bind fun _ t _ gt l2=>(zCl i gt).bind fun _ t _ gt l3=>(zE5 h i gt (by omega)).at.bind fun _ t _ gt l4=>zRH h i gt (by omega)
theorem zPJ {n:Nat}{st:Nat→Pm Unit}(h:zOV n st)(i:Nat){s:Ps}(g:Lst s)(hl:s.ts.length≤n+1):jA s (zGs st i s):=
 (zAb i g).at.bind fun _ t _ gt l1=>(ZA _ gt).at.bind fun _ t _ gt l2=>(zIq i gt).at.bind fun _ t _ gt l3=>(ZA _ gt).at.bind fun _ t _ gt l4=>(zIq i gt).at.bind fun _ t _ gt l5=>(zE5 h i gt (by omega)).at
theorem zPw {n:Nat}{st:Nat→Pm Unit}(h:zOV n st)(k i:Nat){s:Ps}(g:Lst s)(hl:s.ts.length≤n+1):jA s (VK st k i s):=by
 unfold VK
 split
 ·exact zSD i g
 split
 ·exact zTN i g
 split
 ·exact zOk i g
 split
 ·exact zLk i g
 split
 ·exact zRA i g
 split
 ·exact zRO i g
 split
 ·exact zNH i g
 split
 ·exact zNV h i g hl
 split
 ·exact zPJ h i g hl
 split
 ·exact zTF i g
 split
 ·exact zCl i g
 ·exact ZG g rfl
theorem zNM:∀f,zOV f (YP f)
 | 0,i,s,g,hl=>absurd g.pos (by omega)
 | f+1,i,s,g,hl=>by
  unfold YP
  split
  ·exact zEn g 50 (.inl rfl) (fun h=>absurd h (by decide))
  ·rename_i k hk
   have h1:s.hd.kind=1:=by
    split at hk
    ·assumption
    ·cases hk
   have h4:s.hd.kind≠4:=by omega
   have AA:=g.len h4;have e:(s.xI i k).adv.ts=s.adv.ts:=rfl;refine YV.trans (t:=s.adv) (Tl.adv s) AA (jA.of (s2:=(s.xI i k).adv) rfl ((zPw (zNM f) k s.nd.length ((g.adv h4).of (t:=(s.xI i k).adv) rfl) (by rw[e]; omega)).bind fun _ u _ gu _=>?_))
   split
   ·exact ZG gu rfl
   ·exact(ZA _ gu).at
theorem zN0 (i:Nat){s:Ps}(g:Lst s):YV s (zEf i s):=zE5 (zNM s.ts.length) i g (by omega)
theorem zPR (i:Nat){s:Ps}(g:Lst s):YV s (zCV i s):=YV.of (s2:=s.xI i 2) rfl ((ZA _ (g.of (t:=s.xI i 2) rfl)).bind fun _ t _ gt _=>(zAb _ gt).at.bind fun _ t _ gt _=>(ZA _ gt).at.bind fun _ t _ gt _=>(zIb (fun s g=>(zDg _ g).at) gt).bind fun _ t _ gt _=>(ZA _ gt).at.bind fun _ t _ gt _=>(ZA _ gt).at)
theorem zQf (i:Nat){s:Ps}(g:Lst s):jA s (zBR i s):=by
 have e:zBR i s=if isP [41] (s.xI i 4)=true then .ok () (s.xI i 4) else zAg (zAI s.nd.length) (s.xI i 4):=rfl;rw[e]
 cases hi:isP [41] (s.xI i 4) with
 | true=>simp only[if_true]; exact ZG g rfl
 | false=>simp only[Bool.false_eq_true,if_false]; exact jA.of (s2:=s.xI i 4) rfl (zIb (fun s g=>(zDg _ g).at) (g.of (t:=s.xI i 4) rfl))
theorem zOS (i:Nat){s:Ps}(g:Lst s):jA s (zAd i s):=by
 unfold zAd
 split
 ·rename_i hi;exact jA.trans (Tl.adv s) (ZG (g.adv (vO hi).1) rfl)
 ·exact ZG g rfl
theorem zSo (i:Nat){s:Ps}(g:Lst s):YV s (zEw i s):=YV.of (s2:=s.xI i 3) rfl ((ZA _ (g.of (t:=s.xI i 3) rfl)).bind fun _ t _ gt _=>(zAb _ gt).at.bind fun _ t _ gt _=>(ZA _ gt).at.bind fun _ t _ gt _=>(zQf _ gt).bind fun _ t _ gt _=>(ZA _ gt).at.bind fun _ t _ gt _=>(zOS _ gt).bind fun _ t _ gt _=>(zN0 _ gt).at)
theorem zGi:∀(f:Nat) (s:Ps),Lst s→s.ts.length<f→jA s (YA f s)
 | 0,_,_,h=>absurd h (by omega)
 | f+1,s,g,hf=>by
  unfold YA
  split
  ·exact ZG g rfl
  ·split
   ·exact((zPR 0 g).bind fun _ t _ gt hl=>zGi f t gt (by omega)).at
   ·split
    ·exact((zSo 0 g).bind fun _ t _ gt hl=>zGi f t gt (by omega)).at
    ·exact zTq g 50 (.inl rfl) (fun h=>absurd h (by decide))
theorem zMD {s:Ps}(g:Lst s):jA s (zDs s):=jA.of (s2:=s.node 1) rfl (zGi _ _ (g.of (t:=s.node 1) rfl) (Nat.lt_succ_self _))
end Go.Proofs.YtbadjmmjbpeocaaGreat
