/- The program's table, proc and program. (and what follows of it). The conditions stand at each lemma. -/
import Derived.Test.YtioffpjajhalaaaGreatDoorKaa
import Derived.Test.YtioffpjajhalaaaGreatDoorKap
import Derived.Test.YtioffpjajhalaaaGreatDoorKag
set_option linter.unusedVariables false
set_option linter.unusedSimpArgs false
set_option maxRecDepth 100000
set_option maxHeartbeats 16000000
namespace Go.Proofs.YtioffpjajhalaaaGreatDoor
open Go Go.RowKit
theorem Ran.goF {α:Type}{w w1 w2:World}{p B:Nat}{R R1:vC}{s s1:Ps}{r:Res Unit}{whole:Res α}{f:Unit→Ps→Res α}{e:Ending}(HL:Hid (whole=r.bind f))(h:Hid (Ran w p B R s w1 R1 s1))(hf:jW s1 r)(hp:xQ w1 p B R1 r e w2) :
  (∃s2 R2,Hid (r=.ok () s2)∧Hid (whole=f () s2)∧e=.returned (.tuple #[])∧Hid (Ran w p B R s w2 R2 s2))∨(∃er a,e=ZH er∧Hid (whole=.err er a)∧Hid (zAa w p B R er a (ZH er) w2)):=by
 cases r with
 | ok a s2=>
  obtain⟨h1,R2,h2,h3⟩:=hp;exact .inl ⟨s2,R2,yE rfl,yE HL.out,h1,yE ⟨h2,h.out.mv.trans h3,h.out.lt.trans hf⟩⟩
 | err er a=>
  obtain⟨h1,h2⟩:=hp;exact .inr ⟨er,a,h1,yE HL.out,yE (zAa.trans h.out.mv ⟨rfl,h2⟩)⟩
theorem zEc {s s1:Ps}{i k:Nat}{t:Bs}(g:Good s)(h:xY t (s.yX i k)=.ok () s1):s.nd.length<s1.nd.length∧s1.phi+1≤s.phi∧s1.ts.length+1≤s.ts.length:=by
 have hf:=zF0 t (vT g i k);rw[h] at hf;obtain⟨_,h2,h3,h4,_⟩:=hf;rw[xR] at h4;rw[zDe] at h2;rw[ZZ] at h3;omega
theorem zA5 {s:Ps}{i k:Nat}(t:Bs)(g:Good s):jW s (xY t (s.yX i k)):=VM.at (zF0 t (vT g i k))
theorem zNm {i:Nat}{s s':Ps}(g:Good s)(h:zBb i s=.ok () s'):s'.ts.length<s.ts.length:=by
 unfold zBb at h
 cases hr:xY [116,97,98,108,101] (s.yX i 2) with
 | err e q=>rw[hr] at h; cases h
 | ok a s1=>
  rw[hr] at h;have h1:=zEc g hr;have gf:=zA5 (i:=i) (k:=2) [116,97,98,108,101] g;rw[hr] at gf;have h2:=(YN s.nd.length s1 gf.yY).bind fun _ t _ gt=>(vA [40] t gt).bind fun _ t _ gt=>(zBH (YZ s.nd.length) t gt).bind fun _ t _ gt=>(vA [41] t gt).bind fun _ t _ gt=>vA [59] t gt;rw[JJ] at h;rw[h] at h2
  have:=h2.ts
  omega
theorem zOr (w:World)(p B:Nat)(s:Ps)(R:vC)(i:Nat)(h:PS w p B s R)(hG:Good s)(hi:i<s.nd.length)(hbig:s.phi≤1000000) :
  Calls Tryz.prog 83 #[.pointer (some ⟨p,0,none⟩),.int .i64 (i:Int)] w (xQ w p B R (zBb i s)):=by
 have HP:=yE h;have HG:=yE hG;have AZ:=yE (Ran.refl h hG);have HI:=yE hi;have AJ:=yE hbig;obtain⟨AO,AK⟩:∃x,Hid (x=zBb i s):=⟨_,yE rfl⟩;rw[←AK.out];have hm:=hmf;clear h hG hi hbig
 go_enter Tryz.func83,Tryz.ntmps83
 go_wp2_with fail
 refine(zFd w p B s R i 2 HP.out HI.out (by have:=AJ.out; unfold Ps.phi at this; omega) HG.out).mono ?_;rintro e w1 ⟨rfl,R1,AL,AP⟩;have AW:=yE AL;have AR:=yE (AP);clear AL AP
 go_wp2_with fail
 refine(jN _ p B _ R1 [116,97,98,108,101] AW.out).mono ?_;intro e w2 hp
 rcases Ran.goF AK AZ (zA5 [116,97,98,108,101] HG.out) (xQ.trans AR.out hp) with ⟨s2,R2,AN,AG,rfl,AA⟩ | ⟨er,a,rfl,HX,HY⟩
 rotate_left
 ·refine xB (P:=Tryz.prog) (fn:=Tryz.f83) rfl ?_;rw[HX.out];exact HY.out
 clear hp;have AM:Hid (s.nd.length<s2.nd.length):=yE (zEc HG.out AN.out).1;have AE:Hid (s2.phi≤1000000):=yE (AA.out.phi AJ.out);have AU:Hid (s2.phi+1≤s.phi):=yE (zEc HG.out AN.out).2.1;have AB:=yE (AA.out.mv);have AC:=yE (Ran.refl AA.out.ps AA.out.lt.yY)
 go_wp2_with fail
 refine(VR _ p B s2 R2 s.nd.length AC.out.ps (AC.out.idx AM.out)).mono ?_;intro e w1 hp
 rcases Ran.go AG AC (YN s.nd.length _ AC.out.lt.yY) hp with ⟨s1,R1,Aa,rfl,AF⟩ | ⟨er,a,rfl,HX,HY⟩
 rotate_left
 ·refine xB (P:=Tryz.prog) (fn:=Tryz.f83) rfl ?_;refine xQ.trans AB.out ?_;rw[HX.out];exact HY.out
 clear hp
 go_wp2_with fail
 refine(jN _ p B s1 R1 [40] AF.out.ps).mono ?_;intro e w2 hp
 rcases Ran.go Aa AF (vA _ _ AF.out.lt.yY) hp with ⟨s2,R2,AG,rfl,AA⟩ | ⟨er,a,rfl,HX,HY⟩
 rotate_left
 ·refine xB (P:=Tryz.prog) (fn:=Tryz.f83) rfl ?_;refine xQ.trans AB.out ?_;rw[HX.out];exact HY.out
 clear hp
 go_wp2_with fail
 refine(zHl _ p B s2 R2 s.nd.length ⟨131,#[.pointer (some ⟨p,0,none⟩)],#[],JA s.nd.length⟩ AA.out.ps AA.out.lt.yY (enters_of Tryz.func131 (by kernel_rfl) rfl) (YZ s.nd.length) (fun wr s9 R9 AI Ab AQ=>zCy wr p B s9 R9 s.nd.length AQ AI.yY (yS (AA.out.idx AM.out) AI.nd) (by have h1:=AI.phi; have h2:=AA.out.phi AE.out; unfold Ps.phi at h1 h2; omega))).mono ?_;intro e w3 hp
 rcases Ran.go AG AA (zBH (YZ s.nd.length) _ AA.out.lt.yY) hp with ⟨s3,R3,AY,rfl,AH⟩ | ⟨er,a,rfl,HX,HY⟩
 rotate_left
 ·refine xB (P:=Tryz.prog) (fn:=Tryz.f83) rfl ?_;refine xQ.trans AB.out ?_;rw[HX.out];exact HY.out
 clear hp
 go_wp2_with fail
 refine(jN _ p B s3 R3 [41] AH.out.ps).mono ?_;intro e w4 hp
 rcases Ran.go AY AH (vA _ _ AH.out.lt.yY) hp with ⟨s4,R4,AX,rfl,AD⟩ | ⟨er,a,rfl,HX,HY⟩
 rotate_left
 ·refine xB (P:=Tryz.prog) (fn:=Tryz.f83) rfl ?_;refine xQ.trans AB.out ?_;rw[HX.out];exact HY.out
 clear hp;have AT:=yE (ZT AX.out)
 go_wp2_with fail
 refine(jN _ p B s4 R4 [59] AD.out.ps).mono ?_;intro e w5 hp
 rcases Ran.go AT AD (vA _ _ AD.out.lt.yY) hp with ⟨s5,R5,AS,rfl,AV⟩ | ⟨er,a,rfl,HX,HY⟩
 rotate_left
 ·refine xB (P:=Tryz.prog) (fn:=Tryz.f83) rfl ?_;refine xQ.trans AB.out ?_;rw[HX.out];exact HY.out
 clear hp
 go_wp2_with fail
 go_end0;refine xQ.trans AB.out ?_;rw[AS.out];exact xQ.ok AV.out.okp
theorem zN5 {α:Type}{whole:Res α}{r:Res Unit}{f:Unit→Ps→Res α}{t:Ps}(h:Hid (whole=r.bind f))(e:r=.ok () t):whole=f () t:=by rw[h.out,e]; rfl
theorem zOP {i:Nat}{s:Ps}(h:Hid (isP [115,105,110,103,108,101] s=true)):YE i s=.ok () (s.adv.num i 1):=by unfold YE; rw[if_pos h.out]
theorem zRe {i:Nat}{s:Ps}(h:Hid (isP [115,105,110,103,108,101] s=false)):YE i s=.ok () s:=by unfold YE; rw[h.out]; rfl
theorem zER (n:Nat)(s:Ps)(g:Good s):match VG n s with
  | .ok _ t=>Good t∧t.phi≤s.phi+1∧s.nd.length+1≤t.nd.length∧t.ts.length≤s.ts.length∧t.deep=s.deep
  | .err _ _=>True:=by
 have hk:=zDe s n 4;have hl:=xR s n 4;have e:VG n s=if isP [41] (s.yX n 4)=true then .ok () (s.yX n 4) else XV (JA s.nd.length) (s.yX n 4):=rfl;rw[e]
 cases hi:isP [41] (s.yX n 4) with
 | true=>
  simp only[if_true];exact⟨vT g n 4,by omega,by omega,zU _,rfl⟩
 | false=>
  simp only[Bool.false_eq_true,if_false];have h:=zBH (YZ s.nd.length) _ (vT g n 4)
  cases hr:XV (JA s.nd.length) (s.yX n 4) with
  | err e q=>trivial
  | ok a t=>
   rw[hr] at h;have h1:=h.phi;have h2:=h.nd;exact⟨h.yY,by omega,by omega,h.ts,h.deep⟩
theorem zGQ (i:Nat):zBp (zCS i):=fun s g=>by
 unfold zCS
 cases hr:xY [112,114,111,99] (s.yX i 3) with
 | err e q=>trivial
 | ok a s2=>
  have h1:=zEc g hr;have gf:=zA5 (i:=i) (k:=3) [112,114,111,99] g;rw[hr] at gf;have g2:=gf.yY;have AA:=((YN s.nd.length s2 g2).bind fun _ t _ gt=>vA [40] t gt:jW s2 _);rw[JJ]
  cases hr3:(jC s.nd.length s2).bind fun _ t=>xY [40] t with
  | err e q=>
   have:∀ {f:Ps→Res Unit},((jC s.nd.length s2).bind fun _ t=>(xY [40] t).bind fun _ t=>f t)=.err e q:=by
    intro f
    cases hn:jC s.nd.length s2 with
    | err e2 q2=>rw[hn] at hr3; exact hr3
    | ok b t=>rw[hn] at hr3; rw[JJ] at hr3 ⊢; rw[hr3]; rfl
   rw[this (f:=fun t=>(VG s.nd.length t).bind fun _ t=>(xY [41] t).bind fun _ t=>(YE s.nd.length t).bind fun _ t=>VN s.nd.length t)]
   trivial
  | ok b s4=>
   rw[hr3] at AA
   have:∀ {f:Ps→Res Unit},((jC s.nd.length s2).bind fun _ t=>(xY [40] t).bind fun _ t=>f t)=f s4:=by
    intro f
    cases hn:jC s.nd.length s2 with
    | err e2 q2=>rw[hn] at hr3; cases hr3
    | ok b t=>rw[hn] at hr3; rw[JJ] at hr3 ⊢; rw[hr3]; rfl
   rw[this (f:=fun t=>(VG s.nd.length t).bind fun _ t=>(xY [41] t).bind fun _ t=>(YE s.nd.length t).bind fun _ t=>VN s.nd.length t)];have hn:=zER s.nd.length s4 AA.yY
   cases hr5:VG s.nd.length s4 with
   | err e q=>trivial
   | ok c s5=>
    rw[hr5] at hn;obtain⟨n1,n2,n3,n4,n5⟩:=hn;have m1:=AA.phi;have m2:=AA.nd;have m3:=AA.ts;have m4:=AA.deep;have l5:ZY s s5:=⟨n1,by omega,by omega,by omega,by rw[n5,m4,gf.deep]⟩;rw[JJ];exact jW.trans l5 ((vA [41] s5 n1).bind fun _ t _ gt=>(zHx s.nd.length t gt).bind fun _ t _ gt=>zDp s.nd.length t gt)
theorem zOe {i:Nat}{s s':Ps}(g:Good s)(h:zCS i s=.ok () s'):s'.ts.length<s.ts.length:=by
 unfold zCS at h
 cases hr:xY [112,114,111,99] (s.yX i 3) with
 | err e q=>rw[hr] at h; cases h
 | ok a s1=>
  have h1:=zEc g hr;have gf:=zA5 (i:=i) (k:=3) [112,114,111,99] g;rw[hr] at gf h;rw[JJ] at h
  have h2:∀ {t:Ps},Good t→t.ts.length≤s1.ts.length→∀ {r:Res Unit},jW t r→r=.ok () s'→s'.ts.length≤s1.ts.length:=fun gt hl _ hf e=>by rw[e] at hf; have:=hf.ts; omega
  cases hn:jC s.nd.length s1 with
  | err e q=>rw[hn] at h; cases h
  | ok b t=>
   have f1:=YN s.nd.length s1 gf.yY;rw[hn] at f1 h;rw[JJ] at h
   cases hk:xY [40] t with
   | err e q=>rw[hk] at h; cases h
   | ok c t2=>
    have f2:=vA [40] t f1.yY;rw[hk] at f2 h;rw[JJ] at h
    cases hm:VG s.nd.length t2 with
    | err e q=>rw[hm] at h; cases h
    | ok d t3=>
     have f3:=zER s.nd.length t2 f2.yY;rw[hm] at f3 h;rw[JJ] at h;have f4:=(vA [41] t3 f3.1).bind fun _ t _ gt=>(zHx s.nd.length t gt).bind fun _ t _ gt=>zDp s.nd.length t gt;rw[h] at f4;have a1:=f1.ts;have a2:=f2.ts;have a3:=f3.2.2.2.1;have a4:=f4.ts;omega
theorem zOJ (w:World)(p B gp:Nat)(s:Ps)(R:vC)(i:Nat)(h:PS w p B s R)(hG:Good s)(hi:i<s.nd.length)(hbig:s.phi≤1000000)(hb:Safe w (xO p R) gp 73 #[.pointer (some ⟨p,0,none⟩)]) :
  Calls Tryz.prog 132 #[.int .i64 (i:Int),.pointer (some ⟨gp,0,none⟩)] w (xQ w p B R (if isP [41] s=true then .ok () s else XV (JA i) s)):=by
 have AB:=yE (Ran.refl h hG);have HI:=yE hi;have AL:=yE hbig;have AD:=yE hb;obtain⟨AI,AG⟩:∃x,Hid (x=if isP [41] s=true then .ok () s else XV (JA i) s):=⟨_,yE rfl⟩;rw[←AG.out];have hm:=hmf;clear h hG hi hbig hb
 go_enter Tryz.func132,Tryz.ntmps132
 cases hi6:isP [41] s with
 | false=>
  have AC:=yE hi6;clear hi6;have AE:=yE (zKR (t:=[41]) (s:=s) AG AC);have cb:=(AD.out.xC AB.out.mv).1.cell 0;simp only[yJ,yK] at cb
  go_wp2_with fail
  try clear cb
  refine(JI _ p B s R [41] false AC AB.out.ps).mono ?_;rintro e w6 ⟨rfl,hx⟩;have AA:=yE (AB.out.ext hx);clear hx;have AM:=yE (ZT AE.out);have cb:=(AD.out.xC AA.out.mv).1.cell 0;simp only[yJ,yK] at cb
  go_wp2_with fail
  try clear cb
  refine(zHl _ p B s R i ⟨131,#[.pointer (some ⟨p,0,none⟩)],#[],JA i⟩ AA.out.ps AA.out.lt.yY (enters_of Tryz.func131 (by kernel_rfl) rfl) (YZ i) (fun wr s9 R9 AF AN AJ=>zCy wr p B s9 R9 i AJ AF.yY (yS (AA.out.idx HI.out) AF.nd) (by have h1:=AF.phi; have h2:=AA.out.phi AL.out; unfold Ps.phi at h1 h2; omega))).mono ?_;intro e w7 hp
  rcases Ran.go AM AA (zBH (YZ i) _ AA.out.lt.yY) hp with ⟨s7,R7,AK,rfl,AH⟩ | ⟨er,a,rfl,HX,HY⟩
  rotate_left
  ·refine xB (P:=Tryz.prog) (fn:=Tryz.f132) rfl ?_;rw[HX.out];exact HY.out
  clear hp;have cb:=(AD.out.xC AH.out.mv).1.cell 0;simp only[yJ,yK] at cb
  go_wp2_with fail
  try clear cb
  go_end0;rw[AK.out];exact xQ.ok AH.out.okp
 | true=>
  have AC:=yE hi6;clear hi6;have AE:=yE (zHq (t:=[41]) (s:=s) AG AC);have cb:=(AD.out.xC AB.out.mv).1.cell 0;simp only[yJ,yK] at cb
  go_wp2_with fail
  try clear cb
  refine(JI _ p B s R [41] true AC AB.out.ps).mono ?_;rintro e w6 ⟨rfl,hx⟩;have AA:=yE (AB.out.ext hx);clear hx;have cb:=(AD.out.xC AA.out.mv).1.cell 0;simp only[yJ,yK] at cb
  go_wp2_with fail
  try clear cb
  go_end0;rw[AE.out];exact xQ.ok AA.out.okp
theorem zQj (w:World)(p B:Nat)(s:Ps)(R:vC)(i:Nat)(h:PS w p B s R)(hG:Good s)(hi:i<s.nd.length)(hbig:s.phi≤1000000) :
  Calls Tryz.prog 84 #[.pointer (some ⟨p,0,none⟩),.int .i64 (i:Int)] w (xQ w p B R (zCS i s)):=by
 have HP:=yE h;have HG:=yE hG;have Al:=yE (Ran.refl h hG);have HI:=yE hi;have AY:=yE hbig;obtain⟨AF,Ao⟩:∃x,Hid (x=zCS i s):=⟨_,yE rfl⟩;rw[←Ao.out];have hm:=hmf;have Ak:Hid (Ext w (w.alloc (.cells #[.pointer (some ⟨p,0,none⟩)] 73))):=yE (Ext.alloc _ _);have AZ:=yE (h.fresh 73 #[.pointer (some ⟨p,0,none⟩)]);have An:=yE (h.ext Ak.out);clear Al;have Al:=yE (Ran.refl An.out hG);obtain⟨gp,Aq⟩:∃gp,Hid (w.heap.size=gp):=⟨_,yE rfl⟩;rw[Aq.out] at AZ;have cb:=AZ.out.1.cell 0;simp only[yJ,yK] at cb;clear h hG hi hbig
 go_enter Tryz.func84,Tryz.ntmps84
 go_upto_region 1 with fail
 rw[Aq.out];generalize w.alloc (.cells #[.pointer (some ⟨p,0,none⟩)] 73)=W0 at *
 go_wp2_with fail
 refine(zFd W0 p B s R i 3 An.out HI.out (by have:=AY.out; unfold Ps.phi at this; omega) HG.out).mono ?_;rintro e w1 ⟨rfl,R1,Ar,Aw⟩;have A5:=yE Ar;have As:=yE (Aw);clear Ar Aw;have cb:=(AZ.out.xC As.out).1.cell 0;simp only[yJ,yK] at cb
 go_wp2_with fail
 refine(jN _ p B _ R1 [112,114,111,99] A5.out).mono ?_;intro e w2 hp
 rcases Ran.goF Ao Al (zA5 [112,114,111,99] HG.out) (xQ.trans As.out hp) with ⟨s2,R2,Av,A2,rfl,AS⟩ | ⟨er,a,rfl,HX,HY⟩
 rotate_left
 ·refine xB (P:=Tryz.prog) (fn:=Tryz.f84) rfl ?_;refine xQ.trans (yZ.ext Ak.out) ?_;rw[HX.out];exact HY.out
 clear hp;have Ae:Hid (s.nd.length<s2.nd.length):=yE (zEc HG.out Av.out).1;have Ab:Hid (s2.phi≤1000000):=yE (AS.out.phi AY.out);have AL:Hid (s2.phi+1≤s.phi):=yE (zEc HG.out Av.out).2.1;have AU:=yE (((yZ.ext (M:=xO p R) Ak.out).trans AS.out.mv));have AT:=yE (AZ.out.xC AS.out.mv);have AM:=yE (Ran.refl AS.out.ps AS.out.lt.yY);have cb:=(AT.out.xC AM.out.mv).1.cell 0;simp only[yJ,yK] at cb
 go_wp2_with fail
 try clear cb
 refine(VR _ p B s2 R2 s.nd.length AM.out.ps (AM.out.idx Ae.out)).mono ?_;intro e w8 hp
 rcases Ran.go A2 AM (YN s.nd.length _ AM.out.lt.yY) hp with ⟨s8,R8,A3,rfl,Aa⟩ | ⟨er,a,rfl,HX,HY⟩
 rotate_left
 ·refine xB (P:=Tryz.prog) (fn:=Tryz.f84) rfl ?_;refine xQ.trans AU.out ?_;rw[HX.out];exact HY.out
 clear hp;have cb:=(AT.out.xC Aa.out.mv).1.cell 0;simp only[yJ,yK] at cb
 go_wp2_with fail
 try clear cb
 refine(jN _ p B s8 R8 [40] Aa.out.ps).mono ?_;intro e w9 hp
 rcases Ran.go A3 Aa (vA _ _ Aa.out.lt.yY) hp with ⟨s9,R9,Au,rfl,AD⟩ | ⟨er,a,rfl,HX,HY⟩
 rotate_left
 ·refine xB (P:=Tryz.prog) (fn:=Tryz.f84) rfl ?_;refine xQ.trans AU.out ?_;rw[HX.out];exact HY.out
 clear hp;have HF:=yE (AD.out.ps.fresh 133 #[.func (.func 132) #[] #[.pointer (some ⟨gp,0,none⟩)]]);have AX:Hid (Ext w9 (w9.alloc (.cells #[.func (.func 132) #[] #[.pointer (some ⟨gp,0,none⟩)]] 133))):=yE (Ext.alloc _ _);have At:=yE ((AT.out.xC AD.out.mv).ext AX.out);have cb:=(AT.out.xC AD.out.mv).1.cell 0;simp only[yJ,yK] at cb
 go_wp2_with fail
 try clear cb
 refine(zCN _ p B s9 R9 s.nd.length 4 _ [⟨132,#[],#[.pointer (some ⟨gp,0,none⟩)],fun t=>if isP [41] t=true then .ok () t else XV (JA s9.nd.length) t⟩] 1 (AD.out.ps.ext AX.out) (AD.out.idx Ae.out) (AD.out.nd Ab.out) (by simp) AD.out.lt.yY HF.out.row (fun f hf=>by
  rw[List.mem_singleton.1 hf]
  exact enters_of Tryz.func132 (by kernel_rfl) rfl) (fun k hk s' wr R' h1 h2 h3=>by
  obtain rfl:k=0:=by simp at hk; omega
  injection h1 with _ h1;subst h1
  exact zOJ wr p B gp _ R' s9.nd.length h3 (vT AD.out.lt.yY s.nd.length 4) (by rw[xR]; omega) (by
   rw[zDe];have h1:=AD.out.lt.phi;have h2:=AL.out;have h3:=AY.out
   omega) (At.out.xC h2))).mono ?_
 intro e w50 hp;rw[zCV] at hp;have AW:zEk _ p B R9 (.int .i64 (s9.nd.length:Int)) (VG s.nd.length s9) e w50:=hp;have Ap:=zER s.nd.length s9 AD.out.lt.yY
 cases hq:VG s.nd.length s9 with
 | err er a=>
  rw[hq] at AW;obtain⟨rfl,ho⟩:=AW
  have A0:Hid (xQ w p B R AF (ZH er) w50):=yE (by
   refine xQ.trans AU.out ?_;rw[Au.out,hq]
   exact zAa.trans (AD.out.mv.trans (yZ.ext AX.out)) ⟨rfl,ho⟩)
  exact xB (P:=Tryz.prog) (fn:=Tryz.f84) rfl A0.out
 | ok a s50=>
  rw[hq] at AW Ap;obtain⟨rfl,Ax,AP,AH⟩:=AW;obtain⟨n1,n2,n3,n4,n5⟩:=Ap;have AJ:=yE (AU.out.trans ((AD.out.mv.trans (yZ.ext AX.out)).trans AH));have AG:=yE (At.out.xC AH);have Ah:Hid (s.nd.length<s50.nd.length):=yE (by have h1:=AD.out.lt.nd; have h2:=Ae.out; omega);have AN:Hid (s50.phi≤1000000):=yE (by have h1:=AD.out.lt.phi; have h2:=AL.out; have h3:=AY.out; omega);have AV:=yE (Ran.refl AP n1);have Af:Hid (AF=(xY [41] s50).bind fun _ t=>(YE s.nd.length t).bind fun _ t=>VN s.nd.length t):=yE (by rw[Au.out,hq]; rfl);clear hp hq AP AH n1 n2 n3 n4 n5;have cb:=(AG.out.xC AV.out.mv).1.cell 0;simp only[yJ,yK] at cb
  go_wp2_with fail
  try clear cb
  refine(jN _ p B s50 Ax [41] AV.out.ps).mono ?_;intro e A9 hp
  rcases Ran.go Af AV (vA _ _ AV.out.lt.yY) hp with ⟨AK,Ag,AR,rfl,AB⟩ | ⟨er,a,rfl,HX,HY⟩
  rotate_left
  ·refine xB (P:=Tryz.prog) (fn:=Tryz.f84) rfl ?_;refine xQ.trans AJ.out ?_;rw[HX.out];exact HY.out
  clear hp
  cases hi11:isP [115,105,110,103,108,101] AK with
  | false=>
   have AE:=yE hi11;clear hi11;have AI:=yE (zN5 AR (zRe AE));have cb:=(AG.out.xC AB.out.mv).1.cell 0;simp only[yJ,yK] at cb
   go_wp2_with fail
   try clear cb
   refine(zA4 _ p B AK Ag [115,105,110,103,108,101] AE AB.out.ps).mono ?_;rintro e A1 ⟨rfl,hx⟩;have AA:=yE (AB.out.ext hx);clear hx;have Am:=yE (ZT AI.out);have cb:=(AG.out.xC AA.out.mv).1.cell 0;simp only[yJ,yK] at cb
   go_wp2_with fail
   try clear cb
   refine(zJL _ p B AK Ag s.nd.length AA.out.ps AA.out.lt.yY (AA.out.idx Ah.out) (AA.out.phi AN.out)).mono ?_;intro e A8 hp
   rcases Ran.go Am AA (zDp s.nd.length _ AA.out.lt.yY) hp with ⟨BD,A7,Ac,rfl,AQ⟩ | ⟨er,a,rfl,HX,HY⟩
   rotate_left
   ·refine xB (P:=Tryz.prog) (fn:=Tryz.f84) rfl ?_;refine xQ.trans AJ.out ?_;rw[HX.out];exact HY.out
   clear hp;have cb:=(AG.out.xC AQ.out.mv).1.cell 0;simp only[yJ,yK] at cb
   go_wp2_with fail
   try clear cb
   go_end0;refine xQ.trans AJ.out ?_;rw[Ac.out];exact xQ.ok AQ.out.okp
  | true=>
   have AE:=yE hi11;clear hi11;have AI:=yE (bind_eq AR (zOP AE));have cb:=(AG.out.xC AB.out.mv).1.cell 0;simp only[yJ,yK] at cb
   go_wp2_with fail
   try clear cb
   refine(zAf _ p B AK Ag [115,105,110,103,108,101] AE AB.out.ps).mono ?_;rintro e A1 ⟨rfl,ho⟩;obtain⟨Ay,hs⟩:=AB.out.then ho (zBD AB.out.lt.yY AE);have AA:=yE hs;clear ho hs;have cb:=(AG.out.xC AA.out.mv).1.cell 0;simp only[yJ,yK] at cb
   go_wp2_with fail
   try clear cb
   refine(zDd _ p B AK.adv Ay s.nd.length AA.out.ps (AA.out.idx Ah.out)).mono ?_;intro e BB hp
   rcases Ran.go AI AA (ZY.num AA.out.lt.yY s.nd.length 1) hp with ⟨A4,Az,Ad,rfl,AC⟩ | ⟨er,a,rfl,HX,HY⟩
   rotate_left
   ·refine xB (P:=Tryz.prog) (fn:=Tryz.f84) rfl ?_;refine xQ.trans AJ.out ?_;rw[HX.out];exact HY.out
   clear hp;have Ai:=yE (ZT Ad.out);have cb:=(AG.out.xC AC.out.mv).1.cell 0;simp only[yJ,yK] at cb
   go_wp2_with fail
   try clear cb
   refine(zJL _ p B A4 Az s.nd.length AC.out.ps AC.out.lt.yY (AC.out.idx Ah.out) (AC.out.phi AN.out)).mono ?_;intro e BC hp
   rcases Ran.go Ai AC (zDp s.nd.length _ AC.out.lt.yY) hp with ⟨A6,BA,Aj,rfl,AO⟩ | ⟨er,a,rfl,HX,HY⟩
   rotate_left
   ·refine xB (P:=Tryz.prog) (fn:=Tryz.f84) rfl ?_;refine xQ.trans AJ.out ?_;rw[HX.out];exact HY.out
   clear hp;have cb:=(AG.out.xC AO.out.mv).1.cell 0;simp only[yJ,yK] at cb
   go_wp2_with fail
   try clear cb
   go_end0;refine xQ.trans AJ.out ?_;rw[Aj.out];exact xQ.ok AO.out.okp
theorem zLx {f:Nat}{s:Ps}(h:s.hd.kind=4):jT (f+1) s=.ok () s:=by unfold jT; rw[if_pos h]
theorem zMW {f:Nat}{s:Ps}(h:s.hd.kind≠4)(h1:isP [116,97,98,108,101] s=true):jT (f+1) s=(zBb 0 s).bind fun _ s=>jT f s:=by rw[jT,if_neg h,if_pos h1]
theorem zN1 {f:Nat}{s:Ps}(h:s.hd.kind≠4)(h1:isP [116,97,98,108,101] s=false)(h2:isP [112,114,111,99] s=true):jT (f+1) s=(zCS 0 s).bind fun _ s=>jT f s:=by
 rw[jT,if_neg h,h1,if_pos h2]
 rfl
theorem zQz {f:Nat}{s:Ps}(h:s.hd.kind≠4)(h1:isP [116,97,98,108,101] s=false)(h2:isP [112,114,111,99] s=false):jT (f+1) s=.err 50 s.hd.at_:=by
 rw[jT,if_neg h,h1,h2]
 rfl
theorem zKA (w:World)(p B gp:Nat)(s:Ps)(R:vC)(i:Nat)(hi0:i=0)(h:PS w p B s R)(hG:Good s)(hi:i<s.nd.length)(hbig:s.phi≤1000000)(hb:Safe w (xO p R) gp 73 #[.pointer (some ⟨p,0,none⟩)]) :
  Calls Tryz.prog 81 #[.int .i64 (i:Int),.pointer (some ⟨gp,0,none⟩)] w (xQ w p B R (jT (s.ts.length+1) s)):=by
 have AT:=yE (Ran.refl h hG);have HI:=yE hi;have AO:=yE hbig;have AE:=yE hb;have AR:=yE hi0;have AU:=zDA;obtain⟨AB,AP⟩:∃x,Hid (x=jT (s.ts.length+1) s):=⟨_,yE rfl⟩;rw[←AP.out];clear h hG hi hbig hb hi0
 go_enter Tryz.func81,Tryz.ntmps81
 go_wp2_with fail
 go_loopw [] (fun wr=>∃(s':Ps) (R':vC) (m:Nat),Hid (Ran w p B R s wr R' s')∧Hid (s'.ts.length<m)∧Hid (AB=jT m s')) (fun wr=>VH p wr)
 case atStart=>exact⟨s,R,s.ts.length+1,AT,yE (Nat.lt_succ_self _),AP⟩
 case round=>
  obtain⟨s',R',m,HS,HM,HL⟩:=hrel;obtain⟨wa,rfl⟩:∃wa:World,wa=wr:=⟨_,rfl⟩;obtain⟨m',rfl⟩:∃m',m=m'+1:=⟨m-1,by have:=HM.out; omega⟩;have cb:=(AE.out.xC HS.out.mv).1.cell 0;simp only[yJ,yK] at cb
  by_cases hk:s'.hd.kind=4
  ·have HR:Hid (AB=.ok () s'):=yE (by rw[HL.out,zLx hk])
   have b4:((s'.hd.kind:Int) != 4)=false:=by rw[hk]; rfl
   have c4:(s'.hd.kind:Int)=4:=by rw[hk]; rfl
   clear hk
   go_wp2_with fail
   refine(ZP wa p s' R' HS.out.ps.ts).mono ?_;rintro e w2 ⟨rfl,hx⟩;have AC:=yE (HS.out.ext hx);clear hx cb;unfold xS
   go_wp2_with fail
   go_end0;rw[HR.out];exact xQ.ok AC.out.okp
  ·have HK:=yE hk
   have b4:((s'.hd.kind:Int) != 4)=true:=by rw[zD]; omega
   have c4:¬(s'.hd.kind:Int)=4:=by omega
   clear hk
   go_wp2_with fail
   refine(ZP wa p s' R' HS.out.ps.ts).mono ?_;rintro e w2 ⟨rfl,hx⟩;have AC:=yE (HS.out.ext hx);clear hx cb;unfold xS;have AQ:=(AE.out.xC AC.out.mv).1.cell 0;simp only[yJ,yK] at AQ
   cases hi:isP [116,97,98,108,101] s' with
   | true=>
    have AG:=yE hi;have HQ:Hid (AB=(zBb i s').bind fun _ s=>jT m' s):=yE (by rw[HL.out,AR.out,zMW HK.out hi]);clear hi
    go_wp2_with fail
    refine(JI _ p B s' R' [116,97,98,108,101] true AG AC.out.ps).mono ?_;rintro e w4 ⟨rfl,hx⟩;have AA:=yE (AC.out.ext hx);clear hx;have AD:=(AE.out.xC AA.out.mv).1.cell 0;simp only[yJ,yK] at AD
    go_wp2_with fail
    refine(zOr w4 p B s' R' i AA.out.ps AA.out.lt.yY (AA.out.idx HI.out) (AA.out.phi AO.out)).mono ?_;intro e w5 hp
    rcases Ran.goF HQ AA (zFW i _ AA.out.lt.yY) hp with ⟨s5,R5,AN,AL,rfl,AI⟩ | ⟨er,a,rfl,HX,HY⟩
    rotate_left
    ·refine xB (P:=Tryz.prog) (fn:=Tryz.f81) rfl ?_;rw[HX.out];exact HY.out
    clear hp AD;have AF:=yE (zNm AA.out.lt.yY AN.out);have AJ:Hid (s5.ts.length<m'):=yE (by have:=AF.out; have:=HM.out; omega);have AK:Hid (VH p w5<VH p wa):=yE (by rw[AI.out.ps.VH,HS.out.ps.VH]; exact AF.out)
    go_wp2_with fail
    go_roundw
    case rel=>exact⟨s5,R5,m',AI,AJ,AL⟩
    case measure=>exact AK.out
   | false=>
    have AG:=yE hi;clear hi
    go_wp2_with fail
    refine(JI _ p B s' R' [116,97,98,108,101] false AG AC.out.ps).mono ?_;rintro e w3 ⟨rfl,hx⟩;have AH:=yE (AC.out.ext hx);clear hx AQ;have AS:=(AE.out.xC AH.out.mv).1.cell 0;simp only[yJ,yK] at AS
    cases hi:isP [112,114,111,99] s' with
    | true=>
     have AM:=yE hi;have HQ:Hid (AB=(zCS i s').bind fun _ s=>jT m' s):=yE (by rw[HL.out,AR.out,zN1 HK.out AG.out hi]);clear hi
     go_wp2_with fail
     refine(JI _ p B s' R' [112,114,111,99] true AM AH.out.ps).mono ?_;rintro e w4 ⟨rfl,hx⟩;have AA:=yE (AH.out.ext hx);clear hx;have AD:=(AE.out.xC AA.out.mv).1.cell 0;simp only[yJ,yK] at AD
     go_wp2_with fail
     refine(zQj w4 p B s' R' i AA.out.ps AA.out.lt.yY (AA.out.idx HI.out) (AA.out.phi AO.out)).mono ?_;intro e w5 hp
     rcases Ran.goF HQ AA (zGQ i _ AA.out.lt.yY) hp with ⟨s5,R5,AN,AL,rfl,AI⟩ | ⟨er,a,rfl,HX,HY⟩
     rotate_left
     ·refine xB (P:=Tryz.prog) (fn:=Tryz.f81) rfl ?_;rw[HX.out];exact HY.out
     clear hp AD;have AF:=yE (zOe AA.out.lt.yY AN.out);have AJ:Hid (s5.ts.length<m'):=yE (by have:=AF.out; have:=HM.out; omega);have AK:Hid (VH p w5<VH p wa):=yE (by rw[AI.out.ps.VH,HS.out.ps.VH]; exact AF.out)
     go_wp2_with fail
     go_roundw
     case rel=>exact⟨s5,R5,m',AI,AJ,AL⟩
     case measure=>exact AK.out
    | false=>
     have AM:=yE hi;have HQ:Hid (AB=.err 50 s'.hd.at_):=yE (by rw[HL.out,zQz HK.out AG.out hi]);clear hi
     go_wp2_with fail
     refine(JI _ p B s' R' [112,114,111,99] false AM AH.out.ps).mono ?_;rintro e w4 ⟨rfl,hx⟩;have AA:=yE (AH.out.ext hx);clear hx;have AD:=(AE.out.xC AA.out.mv).1.cell 0;simp only[yJ,yK] at AD
     go_wp2_with fail
     refine(zBE _ p 50).mono ?_;rintro e w5 ⟨rfl,rfl⟩;have HF:Hid (xQ w p B R AB (ZH 50) w4):=yE (by rw[HQ.out]; exact⟨rfl,s',rfl,AA.out.okp⟩);exact xB (P:=Tryz.prog) (fn:=Tryz.f81) rfl HF.out
theorem zQL {s:Ps}(h:Good s)(k:Nat):Good (s.node k):=by
 refine⟨h.last,h.deep,fun n hn=>?_⟩
 have hl:(s.node k).nd.length=s.nd.length+1:=by show(s.nd++[_]).length=_; simp
 rw[hl]
 rcases List.mem_append.1 (show n ∈ s.nd++[_] from hn) with hn | hn
 ·have:=h.few n hn; omega
 ·rw[List.mem_singleton.1 hn]; simp
theorem zMz (s:Ps)(k:Nat):(s.node k).nd.length=s.nd.length+1:=by show(s.nd++[_]).length=_; simp
theorem zMe (w:World)(p B:Nat)(s:Ps)(R:vC)(h:PS w p B s R)(hG:Good s)(h0:s.nd.length=0)(hbig:s.phi≤999999) :
  Calls Tryz.prog 39 #[.pointer (some ⟨p,0,none⟩)] w (xQ w p B R (zDO s)):=by
 have HP:=yE h;have HG:=yE hG;have H0:=yE h0;have AG:=yE hbig;have AF:Hid (Ext w (w.alloc (.cells #[.pointer (some ⟨p,0,none⟩)] 73))):=yE (Ext.alloc _ _);have AD:=yE (h.fresh 73 #[.pointer (some ⟨p,0,none⟩)]);have AI:=yE (h.ext AF.out);have cb:=AD.out.1.cell 0;simp only[yJ,yK] at cb;obtain⟨AB,AE⟩:∃x,Hid (x=zDO s):=⟨_,yE rfl⟩;rw[←AE.out];have hm:=hmf;obtain⟨gb,AH⟩:∃gb,Hid (w.heap.size=gb):=⟨_,yE rfl⟩;rw[AH.out] at AD cb;clear h hG hbig h0
 go_enter Tryz.func39,Tryz.ntmps39
 go_upto_region 1 with fail
 rw[AH.out];generalize w.alloc (.cells #[.pointer (some ⟨p,0,none⟩)] 73)=W0 at *;have HF:=yE (AI.out.fresh 133 #[.func (.func 81) #[] #[.pointer (some ⟨gb,0,none⟩)]]);have AC:Hid (Ext W0 (W0.alloc (.cells #[.func (.func 81) #[] #[.pointer (some ⟨gb,0,none⟩)]] 133))):=yE (Ext.alloc _ _)
 go_wp2_with fail
 refine(zLo _ p B s R 1 _ [⟨81,#[],#[.pointer (some ⟨gb,0,none⟩)],fun t=>jT (t.ts.length+1) t⟩] 1 (AI.out.ext AC.out) (by have:=AG.out; unfold Ps.phi at this; omega) (by simp) HF.out.row (fun f hf=>by
  rw[List.mem_singleton.1 hf]
  exact enters_of Tryz.func81 (by kernel_rfl) rfl) (fun k hk s' wr R' h1 h2 h3=>by
  obtain rfl:k=0:=by simp at hk; omega
  injection h1 with _ h1;subst h1
  exact zKA wr p B gb _ R' s.nd.length H0.out h3 (zQL HG.out 1) (by rw[zMz]; omega) (by
   have h1:=AG.out;unfold Ps.phi at h1 ⊢;rw[zMz]
   show s.nd.length+1+2*s.ts.length≤_
   omega) ((AD.out.ext AC.out).xC h2))).mono ?_
 intro e w1 AA;rw[zCV] at AA
 rcases AA.unit with ⟨s',hr,rfl,ho⟩ | ⟨er,a,hr,he⟩
 ·have HR:Hid (AB=.ok () s'):=yE (AE.out.trans hr);have HO:=yE (OkP.trans (yZ.ext (AF.out.trans AC.out)) ho);clear AA hr ho
  go_wp2_with fail
  go_end0;rw[HR.out];exact xQ.ok HO.out
 ·have HE:=yE (zAa.trans (yZ.ext (AF.out.trans AC.out)) he);have HR:Hid (AB=.err er a):=yE (AE.out.trans hr);obtain⟨rfl,_⟩:=he;refine xB (P:=Tryz.prog) (fn:=Tryz.f39) rfl ?_;rw[HR.out];exact HE.out
end Go.Proofs.YtioffpjajhalaaaGreatDoor
namespace Go.Proofs.YtioffpjajhalaaaGreatDoor
def Lst (s:Ps):Prop:=∃l e,s.ts=l++[e]∧e.kind=4
theorem Lst.ne {s:Ps}(h:Lst s):s.ts≠[]:=by obtain⟨l,e,h,_⟩:=h; rw[h]; simp
theorem Lst.pos {s:Ps}(h:Lst s):0<s.ts.length:=List.length_pos_iff.2 h.ne
theorem Lst.hd {s:Ps}(h:Lst s):s.hd ∈ s.ts:=by
 unfold Ps.hd
 cases hs:s.ts with
 | nil=>exact absurd hs h.ne
 | cons t r=>exact List.mem_cons_self ..
theorem Lst.adv {s:Ps}(h:Lst s)(hk:s.hd.kind≠4):Lst s.adv:=by
 obtain⟨l,e,hl,he⟩:=h
 cases l with
 | nil=>
  exfalso
  apply hk;unfold Ps.hd;rw[hl];exact he
 | cons t r=>exact⟨r,e,by show s.ts.tail=_; rw[hl]; rfl,he⟩
theorem Lst.len {s:Ps}(h:Lst s)(hk:s.hd.kind≠4):s.adv.ts.length<s.ts.length:=by
 have:=h.pos
 have:=ZF (s:=s)
 omega
def Tl (s s':Ps):Prop:=∃pre,s.ts=pre++s'.ts
theorem Tl.refl (s:Ps):Tl s s:=⟨[],rfl⟩
theorem Tl.trans {a b c:Ps}(h:Tl a b)(k:Tl b c):Tl a c:=by
 obtain⟨p,hp⟩:=h;obtain⟨q,hq⟩:=k;exact⟨p++q,by rw[hp,hq,List.append_assoc]⟩
theorem Tl.adv (s:Ps):Tl s s.adv:=by
 cases hs:s.ts with
 | nil=>exact⟨[],by show s.ts=_; rw[show s.adv.ts=s.ts.tail from rfl,hs]; rfl⟩
 | cons t r=>exact⟨[t],by rw[show s.adv.ts=s.ts.tail from rfl,hs]; rfl⟩
theorem Tl.mem {s s':Ps}(h:Tl s s'){t:Tok}(ht:t ∈ s'.ts):t ∈ s.ts:=by
 obtain⟨p,hp⟩:=h;rw[hp];exact List.mem_append_right _ ht
theorem Tl.len {s s':Ps}(h:Tl s s'):s'.ts.length≤s.ts.length:=by
 obtain⟨p,hp⟩:=h;rw[hp,yN];omega
def xX {α:Type}(s:Ps):Res α→Prop
 | .ok _ s'=>Lst s'∧Tl s s'
 | .err e a=>(e=50∨e=51)∧∃t ∈ s.ts,t.at_=a∧(e=51→t.kind≠4)
def ZX {α:Type}(s:Ps):Res α→Prop
 | .ok _ s'=>Lst s'∧Tl s s'∧s'.ts.length<s.ts.length
 | .err e a=>(e=50∨e=51)∧∃t ∈ s.ts,t.at_=a∧(e=51→t.kind≠4)
theorem ZX.at {α:Type}{s:Ps}{r:Res α}(h:ZX s r):xX s r:=by
 cases r with
 | ok a t=>exact⟨h.1,h.2.1⟩
 | err e a=>exact h
theorem xX.of {α:Type}{s s2:Ps}(e:s2.ts=s.ts){r:Res α}(h:xX s2 r):xX s r:=by
 cases r with
 | ok a t=>exact⟨h.1,by obtain⟨p,hp⟩:=h.2; exact⟨p,by rw[←e,hp]⟩⟩
 | err c a=>obtain⟨h1,x,hx,AA⟩:=h; exact⟨h1,x,by rw[←e]; exact hx,AA⟩
theorem ZX.of {α:Type}{s s2:Ps}(e:s2.ts=s.ts){r:Res α}(h:ZX s2 r):ZX s r:=by
 cases r with
 | ok a t=>exact⟨h.1,by obtain⟨p,hp⟩:=h.2.1; exact⟨p,by rw[←e,hp]⟩,by rw[←e]; exact h.2.2⟩
 | err c a=>obtain⟨h1,x,hx,AA⟩:=h; exact⟨h1,x,by rw[←e]; exact hx,AA⟩
theorem xX.trans {α:Type}{s t:Ps}{r:Res α}(h:Tl s t)(k:xX t r):xX s r:=by
 cases r with
 | ok a u=>exact⟨k.1,h.trans k.2⟩
 | err c a=>obtain⟨h1,x,hx,AA⟩:=k; exact⟨h1,x,h.mem hx,AA⟩
theorem ZX.trans {α:Type}{s t:Ps}{r:Res α}(h:Tl s t)(hl:t.ts.length<s.ts.length)(k:xX t r):ZX s r:=by
 cases r with
 | ok a u=>exact⟨k.1,h.trans k.2,Nat.lt_of_le_of_lt k.2.len hl⟩
 | err c a=>obtain⟨h1,x,hx,AA⟩:=k; exact⟨h1,x,h.mem hx,AA⟩
theorem xX.bind {α β:Type}{s:Ps}{r:Res α}{f:α→Ps→Res β}(h:xX s r)(k:∀a t,r=.ok a t→Lst t→t.ts.length≤s.ts.length→xX t (f a t)):xX s (r.bind f):=by
 cases r with
 | ok a t=>exact xX.trans h.2 (k a t rfl h.1 h.2.len)
 | err e a=>exact h
theorem ZX.bind {α β:Type}{s:Ps}{r:Res α}{f:α→Ps→Res β}(h:ZX s r)(k:∀a t,r=.ok a t→Lst t→t.ts.length<s.ts.length→xX t (f a t)):ZX s (r.bind f):=by
 cases r with
 | ok a t=>exact ZX.trans h.2.1 h.2.2 (k a t rfl h.1 h.2.2)
 | err e a=>exact h
theorem zTv {α:Type}{s:Ps}(h:Lst s)(e:Int)(he:e=50∨e=51)(hk:e=51→s.hd.kind≠4):xX s (.err e s.hd.at_:Res α):=⟨he,_,h.hd,rfl,hk⟩
theorem zEy {α:Type}{s:Ps}(h:Lst s)(e:Int)(he:e=50∨e=51)(hk:e=51→s.hd.kind≠4):ZX s (.err e s.hd.at_:Res α):=⟨he,_,h.hd,rfl,hk⟩
theorem zI5 {α:Type}{s:Ps}{a:α}(h:Lst s)(hk:s.hd.kind≠4):ZX s (.ok a s.adv):=⟨h.adv hk,Tl.adv s,h.len hk⟩
theorem vL {α:Type}{s t:Ps}{a:α}(h:Lst s)(e:t.ts=s.ts):xX s (.ok a t):=⟨by obtain⟨l,x,hl,hx⟩:=h; exact⟨l,x,by rw[e,hl],hx⟩,⟨[],by rw[e]; rfl⟩⟩
theorem Lst.of {s t:Ps}(h:Lst s)(e:t.ts=s.ts):Lst t:=by obtain⟨l,x,hl,hx⟩:=h; exact⟨l,x,by rw[e,hl],hx⟩
theorem xP (t:Bs){s:Ps}(h:Lst s):ZX s (xY t s):=by
 unfold xY
 split
 ·rename_i hi;exact zI5 h (vG hi).1
 ·exact zEy h 50 (.inl rfl) (fun h=>absurd h (by decide))
theorem zLz (k:Nat)(hk:k≠4){s:Ps}(h:Lst s):ZX s (ofP k s):=by
 unfold ofP
 split
 ·rename_i hi;exact zI5 h (by rw[hi]; exact hk)
 ·exact zEy h 50 (.inl rfl) (fun h=>absurd h (by decide))
theorem XX (i:Nat){s:Ps}(h:Lst s):ZX s (jC i s):=(zLz 1 (by decide) h).bind fun t u _ hu _=>vL hu rfl
theorem jF (i:Nat){s:Ps}(h:Lst s):ZX s (JA i s):=ZX.of rfl (XX _ (h.of rfl))
theorem XN (i:Nat){s:Ps}(h:Lst s):ZX s (YL i s):=ZX.of (s2:=s.yX i 21) rfl ((zLz 2 (by decide) (h.of (t:=s.yX i 21) rfl)).bind fun t u _ hu _=>vL hu rfl)
theorem zAk {α:Type}(a z:Bs){body:Pm α}{s:Ps}(h:Lst s)(hb:∀t,Lst t→t.ts.length<s.ts.length→xX t (body t)):ZX s (vR a z body s):=by
 unfold vR
 split
 ·rename_i hi
  split
  ·exact zEy h 51 (.inr rfl) (fun _=>(vG hi).1)
  ·have hk:=(vG hi).1;have hl:=h.len hk;refine ZX.trans (t:={ s.adv with deep:=s.deep+1 }) (Tl.adv s) hl ((hb _ ((h.adv hk).of (t:={ s.adv with deep:=s.deep+1 }) rfl) hl).bind fun x t _ ht _=>?_)
   split
   ·exact vL ht rfl
   ·exact((xP z ht).at).bind fun _ u _ hu _=>vL hu rfl
 ·exact zEy h 50 (.inl rfl) (fun h=>absurd h (by decide))
theorem zB1 {ms:List (Bs × Nat)}{part:Pm Ex}(n:Nat)(hp:∀t,Lst t→t.ts.length≤n→xX t (part t)):∀(f:Nat) (e:Ex) (t:Ps),Lst t→t.ts.length≤n→t.ts.length<f→xX t (YW ms part f e t)
 | 0,_,_,_,_,h=>absurd h (by omega)
 | f+1,e,t,g,hl,hf=>by
  unfold YW
  split
  ·exact vL g rfl
  ·rename_i k hk;have h4:=zFD hk;have AB:=g.len h4;exact xX.trans (Tl.adv t) ((hp _ (g.adv h4) (by omega)).bind fun r u _ hu AA=>zB1 n hp f _ u hu (by omega) (by omega))
theorem zFh {ms:List (Bs × Nat)}{part:Pm Ex}(n:Nat)(hp:∀t,Lst t→t.ts.length≤n→xX t (part t)){s:Ps}(g:Lst s)(hl:s.ts.length≤n):xX s (XD ms part s):=
 (hp s g hl).bind fun e u _ hu AA=>zB1 n hp _ e u hu (by omega) (Nat.lt_succ_self _)
theorem zI4 {part:Pm Ex}(n:Nat)(hp:∀t,Lst t→t.ts.length≤n→xX t (part t)){s:Ps}(g:Lst s)(hl:s.ts.length≤n):xX s (zEn part s):=
 zFh n (fun t gt ht=>zFh n hp gt ht) g hl
theorem YY:∀(f:Nat) (s:Ps),Lst s→s.ts.length≤f→xX s (vM f s)
 | 0,s,g,hl=>absurd g.pos (by omega)
 | f+1,s,g,hl=>by
  unfold vM
  split
  ·rename_i hk;exact(zI5 g (by omega)).at
  ·split
   ·rename_i hk;exact(zI5 g (by omega)).at
   ·split
    ·exact(zAk [45] [] g fun t gt ht=>YY f t gt (by omega)).at.bind fun a t _ ht _=>vL ht rfl
    ·exact(zAk [40] [41] g fun t gt ht=>zI4 f (fun t gt ht=>YY f t gt ht) gt (by omega)).at
theorem zSg {s:Ps}(g:Lst s):xX s (zKr s):=zI4 _ (fun t gt ht=>YY _ t gt ht) g (zU _)
theorem jH (i:Nat){s:Ps}(g:Lst s):xX s (JS i s):=(zSg g).bind fun e t _ ht _=>vL ht (zA6 e i t).2.1
theorem zB2 {one:Pm Unit}(h:∀s,Lst s→xX s (one s)):∀(f:Nat) (s:Ps),Lst s→s.ts.length<f→xX s (zAG one f s)
 | 0,_,_,hl=>absurd hl (by omega)
 | f+1,s,g,hl=>by
  unfold zAG
  split
  ·rename_i hi;have hk:=(vG hi).1;have AB:=g.len hk;exact xX.trans (Tl.adv s) ((h _ (g.adv hk)).bind fun _ t _ ht AA=>zB2 h f t ht (by omega))
  ·exact vL g rfl
theorem zBS {one:Pm Unit}(h:∀s,Lst s→xX s (one s)){s:Ps}(g:Lst s):xX s (XV one s):=(h s g).bind fun _ t _ ht hl=>zB2 h _ t ht (Nat.lt_succ_self _)
theorem zF2 (i:Nat){s:Ps}(g:Lst s):ZX s (zCI i s):=zAk [91] [93] g fun t gt _=>jH i gt
theorem zF9 (i:Nat){s:Ps}(g:Lst s):xX s (zG9 i s):=xX.of (s2:=s.yX i 20) rfl ((XX _ (g.of (t:=s.yX i 20) rfl)).at.bind fun _ t _ ht _=>(zF2 _ ht).at)
theorem zDC (i:Nat){s:Ps}(g:Lst s):xX s (zGF i s):=(zF9 i g).bind fun _ t _ ht _=>(xP _ ht).at.bind fun _ t _ ht _=>(jF i ht).at
theorem zST (i:Nat){s:Ps}(g:Lst s):xX s (zGC i s):=(XX i g).at.bind fun _ t _ ht _=>(xP _ ht).at.bind fun _ t _ ht _=>(zDC i ht).bind fun _ t _ ht _=>by
 split
 ·rename_i hi;exact xX.trans (Tl.adv t) ((xP _ (ht.adv (vG hi).1)).at.bind fun _ u _ hu _=>vL hu rfl)
 ·exact vL ht rfl
theorem zT2 (i:Nat){s:Ps}(g:Lst s):xX s (zL2 i s):=(zDC i g).bind fun _ t _ ht _=>(xP _ ht).at.bind fun _ t _ ht _=>jH i ht
theorem zOv (i:Nat){s:Ps}(g:Lst s):xX s (zCu i s):=(zF9 i g).bind fun _ t _ ht _=>(xP _ ht).at.bind fun _ t _ ht _=>(zBS (fun s g=>jH i g) ht).bind fun _ t _ ht _=>(xP _ ht).at
theorem zRL (i:Nat){s:Ps}(g:Lst s):xX s (zF5 i s):=(XX i g).at.bind fun _ t _ ht _=>(xP _ ht).at.bind fun _ t _ ht _=>(jF i ht).at.bind fun _ t _ ht _=>(xP _ ht).at.bind fun _ t _ ht _=>(jF i ht).at
theorem zSa (i:Nat){s:Ps}(g:Lst s):xX s (zGg i s):=(jF i g).at.bind fun _ t _ ht _=>by
 split
 ·rename_i hi;exact xX.trans (Tl.adv t) (vL (ht.adv (vG hi).1) rfl)
 ·exact(xP _ ht).at
theorem zE2 (i:Nat){s:Ps}(g:Lst s):xX s (zBh i s):=xX.of (s2:=s.yX i 5) rfl ((XX _ (g.of (t:=s.yX i 5) rfl)).at.bind fun _ t _ ht _=>by
 split
 ·exact xX.of (s2:=t.kind s.nd.length 20) rfl (zF2 _ (ht.of (t:=t.kind s.nd.length 20) rfl)).at
 ·exact vL ht rfl)
theorem zC0 (i:Nat){s:Ps}(g:Lst s):xX s (zCR i s):=by
 unfold zCR
 split
 ·rename_i hi;exact xX.trans (Tl.adv s) (vL (g.adv (vG hi).1) rfl)
 ·exact(xP _ g).at
theorem zTQ (i:Nat){s:Ps}(g:Lst s):xX s (zLF i s):=(XX i g).at.bind fun _ t _ ht _=>(xP _ ht).at.bind fun _ t _ ht _=>jH i ht
def zMs (n:Nat)(st:Nat→Pm Unit):Prop:=∀i s,Lst s→s.ts.length≤n→ZX s (st i s)
theorem zAX {n:Nat}{st:Nat→Pm Unit}(h:zMs n st)(i:Nat):∀f s,Lst s→s.ts.length≤n→s.ts.length<f→xX s (YF st i f s)
 | 0,_,_,_,hf=>absurd hf (by omega)
 | f+1,s,g,hl,hf=>by
  unfold YF
  split
  ·exact vL g rfl
  ·exact((h i s g hl).bind fun _ t _ ht AA=>zAX h i f t ht (by omega) (by omega)).at
theorem XM {n:Nat}{st:Nat→Pm Unit}(h:zMs n st)(i:Nat){s:Ps}(g:Lst s)(hl:s.ts.length≤n+1):ZX s (ZC st i s):=
 ZX.of (s2:=s.yX i 6) rfl (zAk [123] [125] (g.of (t:=s.yX i 6) rfl) fun t gt ht=>zAX h _ _ t gt (by rw[ZZ] at ht; omega) (Nat.lt_succ_self _))
theorem zCP {n:Nat}{st:Nat→Pm Unit}(h:zMs n st)(i:Nat){s:Ps}(g:Lst s)(hl:s.ts.length≤n+1):xX s (zAR st i s):=by
 unfold zAR
 split
 ·rename_i hi;have hk:=(vG hi).1
  have:=g.len hk
  exact xX.trans (Tl.adv s) (XM h i (g.adv hk) (by omega)).at
 ·exact vL g rfl
theorem zN4 {n:Nat}{st:Nat→Pm Unit}(h:zMs n st)(i:Nat){s:Ps}(g:Lst s)(hl:s.ts.length≤n+1):xX s (zBi st i s):=
 (jH i g).bind fun _ t _ gt l1=>(zC0 i gt).bind fun _ t _ gt l2=>(jH i gt).bind fun _ t _ gt l3=>(XM h i gt (by omega)).at.bind fun _ t _ gt l4=>zCP h i gt (by omega)
theorem zP1 {n:Nat}{st:Nat→Pm Unit}(h:zMs n st)(i:Nat){s:Ps}(g:Lst s)(hl:s.ts.length≤n+1):xX s (zD7 st i s):=
 (XX i g).at.bind fun _ t _ gt l1=>(xP _ gt).at.bind fun _ t _ gt l2=>(XN i gt).at.bind fun _ t _ gt l3=>(xP _ gt).at.bind fun _ t _ gt l4=>(XN i gt).at.bind fun _ t _ gt l5=>(XM h i gt (by omega)).at
theorem zPP {n:Nat}{st:Nat→Pm Unit}(h:zMs n st)(k i:Nat){s:Ps}(g:Lst s)(hl:s.ts.length≤n+1):xX s (JB st k i s):=by
 unfold JB
 split
 ·exact zST i g
 split
 ·exact zT2 i g
 split
 ·exact zOv i g
 split
 ·exact zF9 i g
 split
 ·exact zRL i g
 split
 ·exact zSa i g
 split
 ·exact zE2 i g
 split
 ·exact zN4 h i g hl
 split
 ·exact zP1 h i g hl
 split
 ·exact zTQ i g
 split
 ·exact jH i g
 ·exact vL g rfl
theorem zAJ:∀f,zMs f (YK f)
 | 0,i,s,g,hl=>absurd g.pos (by omega)
 | f+1,i,s,g,hl=>by
  unfold YK
  split
  ·exact zEy g 50 (.inl rfl) (fun h=>absurd h (by decide))
  ·rename_i k hk
   have h1:s.hd.kind=1:=by
    split at hk
    ·assumption
    ·cases hk
   have h4:s.hd.kind≠4:=by omega
   have AA:=g.len h4;have e:(s.yX i k).adv.ts=s.adv.ts:=rfl;refine ZX.trans (t:=s.adv) (Tl.adv s) AA (xX.of (s2:=(s.yX i k).adv) rfl ((zPP (zAJ f) k s.nd.length ((g.adv h4).of (t:=(s.yX i k).adv) rfl) (by rw[e]; omega)).bind fun _ u _ gu _=>?_))
   split
   ·exact vL gu rfl
   ·exact(xP _ gu).at
theorem zDW (i:Nat){s:Ps}(g:Lst s):ZX s (VN i s):=XM (zAJ s.ts.length) i g (by omega)
theorem zDz (i:Nat){s:Ps}(g:Lst s):ZX s (zBb i s):=ZX.of (s2:=s.yX i 2) rfl ((xP _ (g.of (t:=s.yX i 2) rfl)).bind fun _ t _ gt _=>(XX _ gt).at.bind fun _ t _ gt _=>(xP _ gt).at.bind fun _ t _ gt _=>(zBS (fun s g=>(jF _ g).at) gt).bind fun _ t _ gt _=>(xP _ gt).at.bind fun _ t _ gt _=>(xP _ gt).at)
theorem zFk (i:Nat){s:Ps}(g:Lst s):xX s (VG i s):=by
 have e:VG i s=if isP [41] (s.yX i 4)=true then .ok () (s.yX i 4) else XV (JA s.nd.length) (s.yX i 4):=rfl;rw[e]
 cases hi:isP [41] (s.yX i 4) with
 | true=>simp only[if_true]; exact vL g rfl
 | false=>simp only[Bool.false_eq_true,if_false]; exact xX.of (s2:=s.yX i 4) rfl (zBS (fun s g=>(jF _ g).at) (g.of (t:=s.yX i 4) rfl))
theorem zEh (i:Nat){s:Ps}(g:Lst s):xX s (YE i s):=by
 unfold YE
 split
 ·rename_i hi;exact xX.trans (Tl.adv s) (vL (g.adv (vG hi).1) rfl)
 ·exact vL g rfl
theorem zEQ (i:Nat){s:Ps}(g:Lst s):ZX s (zCS i s):=ZX.of (s2:=s.yX i 3) rfl ((xP _ (g.of (t:=s.yX i 3) rfl)).bind fun _ t _ gt _=>(XX _ gt).at.bind fun _ t _ gt _=>(xP _ gt).at.bind fun _ t _ gt _=>(zFk _ gt).bind fun _ t _ gt _=>(xP _ gt).at.bind fun _ t _ gt _=>(zEh _ gt).bind fun _ t _ gt _=>(zDW _ gt).at)
theorem zE6:∀(f:Nat) (s:Ps),Lst s→s.ts.length<f→xX s (jT f s)
 | 0,_,_,h=>absurd h (by omega)
 | f+1,s,g,hf=>by
  unfold jT
  split
  ·exact vL g rfl
  ·split
   ·exact((zDz 0 g).bind fun _ t _ gt hl=>zE6 f t gt (by omega)).at
   ·split
    ·exact((zEQ 0 g).bind fun _ t _ gt hl=>zE6 f t gt (by omega)).at
    ·exact zTv g 50 (.inl rfl) (fun h=>absurd h (by decide))
theorem zMX {s:Ps}(g:Lst s):xX s (zDO s):=xX.of (s2:=s.node 1) rfl (zE6 _ _ (g.of (t:=s.node 1) rfl) (Nat.lt_succ_self _))
end Go.Proofs.YtioffpjajhalaaaGreatDoor
