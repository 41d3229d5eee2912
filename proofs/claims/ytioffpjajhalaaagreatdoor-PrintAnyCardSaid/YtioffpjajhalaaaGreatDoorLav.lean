/- The program's table, proc and program. (and what follows of it). The conditions stand at each lemma. -/
import Derived.Test.YtioffpjajhalaaaGreatDoorLaa
import Derived.Test.YtioffpjajhalaaaGreatDoorLau
set_option linter.unusedVariables false
set_option linter.unusedSimpArgs false
set_option maxRecDepth 100000
set_option maxHeartbeats 16000000
namespace Go.Proofs.YtioffpjajhalaaaGreatDoor
open Go Go.RowKit
theorem Ran.goF {α:Type}{w w1 w2:World}{p B:Nat}{R R1:xW}{s s1:Ps}{r:Res Unit}{whole:Res α}{f:Unit→Ps→Res α}{e:Ending}(HL:Hid (whole=r.bind f))(h:Hid (Ran w p B R s w1 R1 s1))(hf:jC s1 r)(hp:xM w1 p B R1 r e w2) :
  (∃s2 R2,Hid (r=.ok () s2)∧Hid (whole=f () s2)∧e=.returned (.tuple #[])∧Hid (Ran w p B R s w2 R2 s2))∨(∃er a,e=jL er∧Hid (whole=.err er a)∧Hid (JE w p B R er a (jL er) w2)):=by
 cases r with
 | ok a s2=>
  obtain⟨h1,R2,h2,h3⟩:=hp;exact .inl ⟨s2,R2,yD rfl,yD HL.out,h1,yD ⟨h2,h.out.mv.trans h3,h.out.lt.trans hf⟩⟩
 | err er a=>
  obtain⟨h1,h2⟩:=hp;exact .inr ⟨er,a,h1,yD HL.out,yD (JE.trans h.out.mv ⟨rfl,h2⟩)⟩
theorem zCw {s s1:Ps}{i k:Nat}{t:Bs}(g:Good s)(h:vJ t (s.xH i k)=.ok () s1):s.nd.length<s1.nd.length∧s1.phi+1≤s.phi∧s1.ts.length+1≤s.ts.length:=by
 have hf:=zDX t (vC g i k);rw[h] at hf;obtain⟨_,h2,h3,h4,_⟩:=hf;rw[jH] at h4;rw[zBN] at h2;rw[YB] at h3;omega
theorem zAh {s:Ps}{i k:Nat}(t:Bs)(g:Good s):jC s (vJ t (s.xH i k)):=XR.at (zDX t (vC g i k))
theorem zKA {i:Nat}{s s':Ps}(g:Good s)(h:zCt i s=.ok () s'):s'.ts.length<s.ts.length:=by
 unfold zCt at h
 cases hr:vJ [116,97,98,108,101] (s.xH i 2) with
 | err e q=>rw[hr] at h; cases h
 | ok a s1=>
  rw[hr] at h;have h1:=zCw g hr;have gf:=zAh (i:=i) (k:=2) [116,97,98,108,101] g;rw[hr] at gf;have h2:=(ZI s.nd.length s1 gf.xU).bind fun _ t _ gt=>(xS [40] t gt).bind fun _ t _ gt=>(zAG (ZT s.nd.length) t gt).bind fun _ t _ gt=>(xS [41] t gt).bind fun _ t _ gt=>xS [59] t gt;rw[JK] at h;rw[h] at h2
  have:=h2.ts
  omega
theorem zLU (w:World)(p B:Nat)(s:Ps)(R:xW)(i:Nat)(h:PS w p B s R)(hG:Good s)(hi:i<s.nd.length)(hbig:s.phi≤1000000) :
  Calls Tryz.prog 83 #[.pointer (some ⟨p,0,none⟩),.int .i64 (i:Int)] w (xM w p B R (zCt i s)):=by
 have HP:=yD h;have HG:=yD hG;have AU:=yD (Ran.refl h hG);have HI:=yD hi;have AN:=yD hbig;obtain⟨AJ,AP⟩:∃x,Hid (x=zCt i s):=⟨_,yD rfl⟩;rw[←AP.out];have hm:=hmf;clear h hG hi hbig
 go_enter Tryz.func83,Tryz.ntmps83
 go_wp2_with fail
 refine(zDf w p B s R i 2 HP.out HI.out (by have:=AN.out; unfold Ps.phi at this; omega) HG.out).mono ?_;rintro e w1 ⟨rfl,R1,AO,AL⟩;have AT:=yD AO;have AY:=yD (AL);clear AO AL
 go_wp2_with fail
 refine(vT _ p B _ R1 [116,97,98,108,101] AT.out).mono ?_;intro e w2 hp
 rcases Ran.goF AP AU (zAh [116,97,98,108,101] HG.out) (xM.trans AY.out hp) with ⟨s2,R2,AK,AF,rfl,AA⟩ | ⟨er,a,rfl,HX,HY⟩
 rotate_left
 ·refine xA (P:=Tryz.prog) (fn:=Tryz.f83) rfl ?_;rw[HX.out];exact HY.out
 clear hp;have AM:Hid (s.nd.length<s2.nd.length):=yD (zCw HG.out AK.out).1;have AD:Hid (s2.phi≤1000000):=yD (AA.out.phi AN.out);have AV:Hid (s2.phi+1≤s.phi):=yD (zCw HG.out AK.out).2.1;have AB:=yD (AA.out.mv);have AC:=yD (Ran.refl AA.out.ps AA.out.lt.xU)
 go_wp2_with fail
 refine(XW _ p B s2 R2 s.nd.length AC.out.ps (AC.out.idx AM.out)).mono ?_;intro e w1 hp
 rcases Ran.go AF AC (ZI s.nd.length _ AC.out.lt.xU) hp with ⟨s1,R1,AX,rfl,AE⟩ | ⟨er,a,rfl,HX,HY⟩
 rotate_left
 ·refine xA (P:=Tryz.prog) (fn:=Tryz.f83) rfl ?_;refine xM.trans AB.out ?_;rw[HX.out];exact HY.out
 clear hp
 go_wp2_with fail
 refine(vT _ p B s1 R1 [40] AE.out.ps).mono ?_;intro e w2 hp
 rcases Ran.go AX AE (xS _ _ AE.out.lt.xU) hp with ⟨s2,R2,AF,rfl,AA⟩ | ⟨er,a,rfl,HX,HY⟩
 rotate_left
 ·refine xA (P:=Tryz.prog) (fn:=Tryz.f83) rfl ?_;refine xM.trans AB.out ?_;rw[HX.out];exact HY.out
 clear hp
 go_wp2_with fail
 refine(zE1 _ p B s2 R2 s.nd.length ⟨131,#[.pointer (some ⟨p,0,none⟩)],#[],zAm s.nd.length⟩ AA.out.ps AA.out.lt.xU (enters_of Tryz.func131 (by kernel_rfl) rfl) (ZT s.nd.length) (fun wr s9 R9 AG Ab AS=>zBk wr p B s9 R9 s.nd.length AS AG.xU (yR (AA.out.idx AM.out) AG.nd) (by have h1:=AG.phi; have h2:=AA.out.phi AD.out; unfold Ps.phi at h1 h2; omega))).mono ?_;intro e w3 hp
 rcases Ran.go AF AA (zAG (ZT s.nd.length) _ AA.out.lt.xU) hp with ⟨s3,R3,AR,rfl,AH⟩ | ⟨er,a,rfl,HX,HY⟩
 rotate_left
 ·refine xA (P:=Tryz.prog) (fn:=Tryz.f83) rfl ?_;refine xM.trans AB.out ?_;rw[HX.out];exact HY.out
 clear hp
 go_wp2_with fail
 refine(vT _ p B s3 R3 [41] AH.out.ps).mono ?_;intro e w4 hp
 rcases Ran.go AR AH (xS _ _ AH.out.lt.xU) hp with ⟨s4,R4,AZ,rfl,AI⟩ | ⟨er,a,rfl,HX,HY⟩
 rotate_left
 ·refine xA (P:=Tryz.prog) (fn:=Tryz.f83) rfl ?_;refine xM.trans AB.out ?_;rw[HX.out];exact HY.out
 clear hp;have AQ:=yD (jT AZ.out)
 go_wp2_with fail
 refine(vT _ p B s4 R4 [59] AI.out.ps).mono ?_;intro e w5 hp
 rcases Ran.go AQ AI (xS _ _ AI.out.lt.xU) hp with ⟨s5,R5,AW,rfl,Aa⟩ | ⟨er,a,rfl,HX,HY⟩
 rotate_left
 ·refine xA (P:=Tryz.prog) (fn:=Tryz.f83) rfl ?_;refine xM.trans AB.out ?_;rw[HX.out];exact HY.out
 clear hp
 go_wp2_with fail
 go_end0;refine xM.trans AB.out ?_;rw[AW.out];exact xM.ok Aa.out.okp
theorem zLw {α:Type}{whole:Res α}{r:Res Unit}{f:Unit→Ps→Res α}{t:Ps}(h:Hid (whole=r.bind f))(e:r=.ok () t):whole=f () t:=by rw[h.out,e]; rfl
theorem zMh {i:Nat}{s:Ps}(h:Hid (isP [115,105,110,103,108,101] s=true)):VN i s=.ok () (s.adv.num i 1):=by unfold VN; rw[if_pos h.out]
theorem zPf {i:Nat}{s:Ps}(h:Hid (isP [115,105,110,103,108,101] s=false)):VN i s=.ok () s:=by unfold VN; rw[h.out]; rfl
theorem zC1 (n:Nat)(s:Ps)(g:Good s):match zBy n s with
  | .ok _ t=>Good t∧t.phi≤s.phi+1∧s.nd.length+1≤t.nd.length∧t.ts.length≤s.ts.length∧t.deep=s.deep
  | .err _ _=>True:=by
 have hk:=zBN s n 4;have hl:=jH s n 4;have e:zBy n s=if isP [41] (s.xH n 4)=true then .ok () (s.xH n 4) else VH (zAm s.nd.length) (s.xH n 4):=rfl;rw[e]
 cases hi:isP [41] (s.xH n 4) with
 | true=>
  simp only[if_true];exact⟨vC g n 4,by omega,by omega,zU _,rfl⟩
 | false=>
  simp only[Bool.false_eq_true,if_false];have h:=zAG (ZT s.nd.length) _ (vC g n 4)
  cases hr:VH (zAm s.nd.length) (s.xH n 4) with
  | err e q=>trivial
  | ok a t=>
   rw[hr] at h;have h1:=h.phi;have h2:=h.nd;exact⟨h.xU,by omega,by omega,h.ts,h.deep⟩
theorem zNC (i:Nat):zAO (zDv i):=fun s g=>by
 unfold zDv
 cases hr:vJ [112,114,111,99] (s.xH i 3) with
 | err e q=>trivial
 | ok a s2=>
  have h1:=zCw g hr;have gf:=zAh (i:=i) (k:=3) [112,114,111,99] g;rw[hr] at gf;have g2:=gf.xU;have AA:=((ZI s.nd.length s2 g2).bind fun _ t _ gt=>xS [40] t gt:jC s2 _);rw[JK]
  cases hr3:(jI s.nd.length s2).bind fun _ t=>vJ [40] t with
  | err e q=>
   have:∀ {f:Ps→Res Unit},((jI s.nd.length s2).bind fun _ t=>(vJ [40] t).bind fun _ t=>f t)=.err e q:=by
    intro f
    cases hn:jI s.nd.length s2 with
    | err e2 q2=>rw[hn] at hr3; exact hr3
    | ok b t=>rw[hn] at hr3; rw[JK] at hr3 ⊢; rw[hr3]; rfl
   rw[this (f:=fun t=>(zBy s.nd.length t).bind fun _ t=>(vJ [41] t).bind fun _ t=>(VN s.nd.length t).bind fun _ t=>zDz s.nd.length t)]
   trivial
  | ok b s4=>
   rw[hr3] at AA
   have:∀ {f:Ps→Res Unit},((jI s.nd.length s2).bind fun _ t=>(vJ [40] t).bind fun _ t=>f t)=f s4:=by
    intro f
    cases hn:jI s.nd.length s2 with
    | err e2 q2=>rw[hn] at hr3; cases hr3
    | ok b t=>rw[hn] at hr3; rw[JK] at hr3 ⊢; rw[hr3]; rfl
   rw[this (f:=fun t=>(zBy s.nd.length t).bind fun _ t=>(vJ [41] t).bind fun _ t=>(VN s.nd.length t).bind fun _ t=>zDz s.nd.length t)];have hn:=zC1 s.nd.length s4 AA.xU
   cases hr5:zBy s.nd.length s4 with
   | err e q=>trivial
   | ok c s5=>
    rw[hr5] at hn;obtain⟨n1,n2,n3,n4,n5⟩:=hn;have m1:=AA.phi;have m2:=AA.nd;have m3:=AA.ts;have m4:=AA.deep;have l5:ZE s s5:=⟨n1,by omega,by omega,by omega,by rw[n5,m4,gf.deep]⟩;rw[JK];exact jC.trans l5 ((xS [41] s5 n1).bind fun _ t _ gt=>(zE7 s.nd.length t gt).bind fun _ t _ gt=>zBT s.nd.length t gt)
theorem zLF {i:Nat}{s s':Ps}(g:Good s)(h:zDv i s=.ok () s'):s'.ts.length<s.ts.length:=by
 unfold zDv at h
 cases hr:vJ [112,114,111,99] (s.xH i 3) with
 | err e q=>rw[hr] at h; cases h
 | ok a s1=>
  have h1:=zCw g hr;have gf:=zAh (i:=i) (k:=3) [112,114,111,99] g;rw[hr] at gf h;rw[JK] at h
  have h2:∀ {t:Ps},Good t→t.ts.length≤s1.ts.length→∀ {r:Res Unit},jC t r→r=.ok () s'→s'.ts.length≤s1.ts.length:=fun gt hl _ hf e=>by rw[e] at hf; have:=hf.ts; omega
  cases hn:jI s.nd.length s1 with
  | err e q=>rw[hn] at h; cases h
  | ok b t=>
   have f1:=ZI s.nd.length s1 gf.xU;rw[hn] at f1 h;rw[JK] at h
   cases hk:vJ [40] t with
   | err e q=>rw[hk] at h; cases h
   | ok c t2=>
    have f2:=xS [40] t f1.xU;rw[hk] at f2 h;rw[JK] at h
    cases hm:zBy s.nd.length t2 with
    | err e q=>rw[hm] at h; cases h
    | ok d t3=>
     have f3:=zC1 s.nd.length t2 f2.xU;rw[hm] at f3 h;rw[JK] at h;have f4:=(xS [41] t3 f3.1).bind fun _ t _ gt=>(zE7 s.nd.length t gt).bind fun _ t _ gt=>zBT s.nd.length t gt;rw[h] at f4;have a1:=f1.ts;have a2:=f2.ts;have a3:=f3.2.2.2.1;have a4:=f4.ts;omega
theorem zMa (w:World)(p B gp:Nat)(s:Ps)(R:xW)(i:Nat)(h:PS w p B s R)(hG:Good s)(hi:i<s.nd.length)(hbig:s.phi≤1000000)(hb:Safe w (xJ p R) gp 73 #[.pointer (some ⟨p,0,none⟩)]) :
  Calls Tryz.prog 132 #[.int .i64 (i:Int),.pointer (some ⟨gp,0,none⟩)] w (xM w p B R (if isP [41] s=true then .ok () s else VH (zAm i) s)):=by
 have AB:=yD (Ran.refl h hG);have HI:=yD hi;have AM:=yD hbig;have AC:=yD hb;obtain⟨AH,AG⟩:∃x,Hid (x=if isP [41] s=true then .ok () s else VH (zAm i) s):=⟨_,yD rfl⟩;rw[←AG.out];have hm:=hmf;clear h hG hi hbig hb
 go_enter Tryz.func132,Tryz.ntmps132
 cases hi6:isP [41] s with
 | false=>
  have AD:=yD hi6;clear hi6;have AE:=yD (zIg (t:=[41]) (s:=s) AG AD);have cb:=(AC.out.xO AB.out.mv).1.cell 0;simp only[yI,yJ] at cb
  go_wp2_with fail
  try clear cb
  refine(YT _ p B s R [41] false AD AB.out.ps).mono ?_;rintro e w6 ⟨rfl,hx⟩;have AA:=yD (AB.out.ext hx);clear hx;have AK:=yD (jT AE.out);have cb:=(AC.out.xO AA.out.mv).1.cell 0;simp only[yI,yJ] at cb
  go_wp2_with fail
  try clear cb
  refine(zE1 _ p B s R i ⟨131,#[.pointer (some ⟨p,0,none⟩)],#[],zAm i⟩ AA.out.ps AA.out.lt.xU (enters_of Tryz.func131 (by kernel_rfl) rfl) (ZT i) (fun wr s9 R9 AF AN AL=>zBk wr p B s9 R9 i AL AF.xU (yR (AA.out.idx HI.out) AF.nd) (by have h1:=AF.phi; have h2:=AA.out.phi AM.out; unfold Ps.phi at h1 h2; omega))).mono ?_;intro e w7 hp
  rcases Ran.go AK AA (zAG (ZT i) _ AA.out.lt.xU) hp with ⟨s7,R7,AJ,rfl,AI⟩ | ⟨er,a,rfl,HX,HY⟩
  rotate_left
  ·refine xA (P:=Tryz.prog) (fn:=Tryz.f132) rfl ?_;rw[HX.out];exact HY.out
  clear hp;have cb:=(AC.out.xO AI.out.mv).1.cell 0;simp only[yI,yJ] at cb
  go_wp2_with fail
  try clear cb
  go_end0;rw[AJ.out];exact xM.ok AI.out.okp
 | true=>
  have AD:=yD hi6;clear hi6;have AE:=yD (zE4 (t:=[41]) (s:=s) AG AD);have cb:=(AC.out.xO AB.out.mv).1.cell 0;simp only[yI,yJ] at cb
  go_wp2_with fail
  try clear cb
  refine(YT _ p B s R [41] true AD AB.out.ps).mono ?_;rintro e w6 ⟨rfl,hx⟩;have AA:=yD (AB.out.ext hx);clear hx;have cb:=(AC.out.xO AA.out.mv).1.cell 0;simp only[yI,yJ] at cb
  go_wp2_with fail
  try clear cb
  go_end0;rw[AE.out];exact xM.ok AA.out.okp
theorem zN8 (w:World)(p B:Nat)(s:Ps)(R:xW)(i:Nat)(h:PS w p B s R)(hG:Good s)(hi:i<s.nd.length)(hbig:s.phi≤1000000) :
  Calls Tryz.prog 84 #[.pointer (some ⟨p,0,none⟩),.int .i64 (i:Int)] w (xM w p B R (zDv i s)):=by
 have HP:=yD h;have HG:=yD hG;have Ab:=yD (Ran.refl h hG);have HI:=yD hi;have AU:=yD hbig;obtain⟨AF,Aw⟩:∃x,Hid (x=zDv i s):=⟨_,yD rfl⟩;rw[←Aw.out];have hm:=hmf;have Ai:Hid (Ext w (w.alloc (.cells #[.pointer (some ⟨p,0,none⟩)] 73))):=yD (Ext.alloc _ _);have AX:=yD (h.fresh 73 #[.pointer (some ⟨p,0,none⟩)]);have An:=yD (h.ext Ai.out);clear Ab;have Ab:=yD (Ran.refl An.out hG);obtain⟨gp,Ar⟩:∃gp,Hid (w.heap.size=gp):=⟨_,yD rfl⟩;rw[Ar.out] at AX;have cb:=AX.out.1.cell 0;simp only[yI,yJ] at cb;clear h hG hi hbig
 go_enter Tryz.func84,Tryz.ntmps84
 go_upto_region 1 with fail
 rw[Ar.out];generalize w.alloc (.cells #[.pointer (some ⟨p,0,none⟩)] 73)=W0 at *
 go_wp2_with fail
 refine(zDf W0 p B s R i 3 An.out HI.out (by have:=AU.out; unfold Ps.phi at this; omega) HG.out).mono ?_;rintro e w1 ⟨rfl,R1,Aq,Ap⟩;have A4:=yD Aq;have Au:=yD (Ap);clear Aq Ap;have cb:=(AX.out.xO Au.out).1.cell 0;simp only[yI,yJ] at cb
 go_wp2_with fail
 refine(vT _ p B _ R1 [112,114,111,99] A4.out).mono ?_;intro e w2 hp
 rcases Ran.goF Aw Ab (zAh [112,114,111,99] HG.out) (xM.trans Au.out hp) with ⟨s2,R2,At,A1,rfl,AQ⟩ | ⟨er,a,rfl,HX,HY⟩
 rotate_left
 ·refine xA (P:=Tryz.prog) (fn:=Tryz.f84) rfl ?_;refine xM.trans (xK.ext Ai.out) ?_;rw[HX.out];exact HY.out
 clear hp;have Ad:Hid (s.nd.length<s2.nd.length):=yD (zCw HG.out At.out).1;have Ah:Hid (s2.phi≤1000000):=yD (AQ.out.phi AU.out);have AM:Hid (s2.phi+1≤s.phi):=yD (zCw HG.out At.out).2.1;have AW:=yD (((xK.ext (M:=xJ p R) Ai.out).trans AQ.out.mv));have AZ:=yD (AX.out.xO AQ.out.mv);have AS:=yD (Ran.refl AQ.out.ps AQ.out.lt.xU);have cb:=(AZ.out.xO AS.out.mv).1.cell 0;simp only[yI,yJ] at cb
 go_wp2_with fail
 try clear cb
 refine(XW _ p B s2 R2 s.nd.length AS.out.ps (AS.out.idx Ad.out)).mono ?_;intro e w8 hp
 rcases Ran.go A1 AS (ZI s.nd.length _ AS.out.lt.xU) hp with ⟨s8,R8,Ay,rfl,AT⟩ | ⟨er,a,rfl,HX,HY⟩
 rotate_left
 ·refine xA (P:=Tryz.prog) (fn:=Tryz.f84) rfl ?_;refine xM.trans AW.out ?_;rw[HX.out];exact HY.out
 clear hp;have cb:=(AZ.out.xO AT.out.mv).1.cell 0;simp only[yI,yJ] at cb
 go_wp2_with fail
 try clear cb
 refine(vT _ p B s8 R8 [40] AT.out.ps).mono ?_;intro e w9 hp
 rcases Ran.go Ay AT (xS _ _ AT.out.lt.xU) hp with ⟨s9,R9,Ao,rfl,AD⟩ | ⟨er,a,rfl,HX,HY⟩
 rotate_left
 ·refine xA (P:=Tryz.prog) (fn:=Tryz.f84) rfl ?_;refine xM.trans AW.out ?_;rw[HX.out];exact HY.out
 clear hp;have HF:=yD (AD.out.ps.fresh 133 #[.func (.func 132) #[] #[.pointer (some ⟨gp,0,none⟩)]]);have AV:Hid (Ext w9 (w9.alloc (.cells #[.func (.func 132) #[] #[.pointer (some ⟨gp,0,none⟩)]] 133))):=yD (Ext.alloc _ _);have As:=yD ((AZ.out.xO AD.out.mv).ext AV.out);have cb:=(AZ.out.xO AD.out.mv).1.cell 0;simp only[yI,yJ] at cb
 go_wp2_with fail
 try clear cb
 refine(zBq _ p B s9 R9 s.nd.length 4 _ [⟨132,#[],#[.pointer (some ⟨gp,0,none⟩)],fun t=>if isP [41] t=true then .ok () t else VH (zAm s9.nd.length) t⟩] 1 (AD.out.ps.ext AV.out) (AD.out.idx Ad.out) (AD.out.nd Ah.out) (by simp) AD.out.lt.xU HF.out.row (fun f hf=>by
  rw[List.mem_singleton.1 hf]
  exact enters_of Tryz.func132 (by kernel_rfl) rfl) (fun k hk s' wr R' h1 h2 h3=>by
  obtain rfl:k=0:=by simp at hk; omega
  injection h1 with _ h1;subst h1
  exact zMa wr p B gp _ R' s9.nd.length h3 (vC AD.out.lt.xU s.nd.length 4) (by rw[jH]; omega) (by
   rw[zBN];have h1:=AD.out.lt.phi;have h2:=AM.out;have h3:=AU.out
   omega) (As.out.xO h2))).mono ?_
 intro e w50 hp;rw[zBw] at hp;have AY:zCD _ p B R9 (.int .i64 (s9.nd.length:Int)) (zBy s.nd.length s9) e w50:=hp;have Av:=zC1 s.nd.length s9 AD.out.lt.xU
 cases hq:zBy s.nd.length s9 with
 | err er a=>
  rw[hq] at AY;obtain⟨rfl,ho⟩:=AY
  have Ax:Hid (xM w p B R AF (jL er) w50):=yD (by
   refine xM.trans AW.out ?_;rw[Ao.out,hq]
   exact JE.trans (AD.out.mv.trans (xK.ext AV.out)) ⟨rfl,ho⟩)
  exact xA (P:=Tryz.prog) (fn:=Tryz.f84) rfl Ax.out
 | ok a s50=>
  rw[hq] at AY Av;obtain⟨rfl,A5,AN,AI⟩:=AY;obtain⟨n1,n2,n3,n4,n5⟩:=Av;have AJ:=yD (AW.out.trans ((AD.out.mv.trans (xK.ext AV.out)).trans AI));have AG:=yD (As.out.xO AI);have Al:Hid (s.nd.length<s50.nd.length):=yD (by have h1:=AD.out.lt.nd; have h2:=Ad.out; omega);have AO:Hid (s50.phi≤1000000):=yD (by have h1:=AD.out.lt.phi; have h2:=AM.out; have h3:=AU.out; omega);have Aa:=yD (Ran.refl AN n1);have Ae:Hid (AF=(vJ [41] s50).bind fun _ t=>(VN s.nd.length t).bind fun _ t=>zDz s.nd.length t):=yD (by rw[Ao.out,hq]; rfl);clear hp hq AN AI n1 n2 n3 n4 n5;have cb:=(AG.out.xO Aa.out.mv).1.cell 0;simp only[yI,yJ] at cb
  go_wp2_with fail
  try clear cb
  refine(vT _ p B s50 A5 [41] Aa.out.ps).mono ?_;intro e BB hp
  rcases Ran.go Ae Aa (xS _ _ Aa.out.lt.xU) hp with ⟨AR,Aj,AP,rfl,AC⟩ | ⟨er,a,rfl,HX,HY⟩
  rotate_left
  ·refine xA (P:=Tryz.prog) (fn:=Tryz.f84) rfl ?_;refine xM.trans AJ.out ?_;rw[HX.out];exact HY.out
  clear hp
  cases hi11:isP [115,105,110,103,108,101] AR with
  | false=>
   have AE:=yD hi11;clear hi11;have AH:=yD (zLw AP (zPf AE));have cb:=(AG.out.xO AC.out.mv).1.cell 0;simp only[yI,yJ] at cb
   go_wp2_with fail
   try clear cb
   refine(zAg _ p B AR Aj [115,105,110,103,108,101] AE AC.out.ps).mono ?_;rintro e A3 ⟨rfl,hx⟩;have AA:=yD (AC.out.ext hx);clear hx;have Af:=yD (jT AH.out);have cb:=(AG.out.xO AA.out.mv).1.cell 0;simp only[yI,yJ] at cb
   go_wp2_with fail
   try clear cb
   refine(zHj _ p B AR Aj s.nd.length AA.out.ps AA.out.lt.xU (AA.out.idx Al.out) (AA.out.phi AO.out)).mono ?_;intro e A9 hp
   rcases Ran.go Af AA (zBT s.nd.length _ AA.out.lt.xU) hp with ⟨BA,A8,Am,rfl,AK⟩ | ⟨er,a,rfl,HX,HY⟩
   rotate_left
   ·refine xA (P:=Tryz.prog) (fn:=Tryz.f84) rfl ?_;refine xM.trans AJ.out ?_;rw[HX.out];exact HY.out
   clear hp;have cb:=(AG.out.xO AK.out.mv).1.cell 0;simp only[yI,yJ] at cb
   go_wp2_with fail
   try clear cb
   go_end0;refine xM.trans AJ.out ?_;rw[Am.out];exact xM.ok AK.out.okp
  | true=>
   have AE:=yD hi11;clear hi11;have AH:=yD (bind_eq AP (zMh AE));have cb:=(AG.out.xO AC.out.mv).1.cell 0;simp only[yI,yJ] at cb
   go_wp2_with fail
   try clear cb
   refine(JG _ p B AR Aj [115,105,110,103,108,101] AE AC.out.ps).mono ?_;rintro e A3 ⟨rfl,ho⟩;obtain⟨Az,hs⟩:=AC.out.then ho (zAD AC.out.lt.xU AE);have AA:=yD hs;clear ho hs;have cb:=(AG.out.xO AA.out.mv).1.cell 0;simp only[yI,yJ] at cb
   go_wp2_with fail
   try clear cb
   refine(zBM _ p B AR.adv Az s.nd.length AA.out.ps (AA.out.idx Al.out)).mono ?_;intro e BC hp
   rcases Ran.go AH AA (ZE.num AA.out.lt.xU s.nd.length 1) hp with ⟨A0,A2,Ac,rfl,AB⟩ | ⟨er,a,rfl,HX,HY⟩
   rotate_left
   ·refine xA (P:=Tryz.prog) (fn:=Tryz.f84) rfl ?_;refine xM.trans AJ.out ?_;rw[HX.out];exact HY.out
   clear hp;have Ag:=yD (jT Ac.out);have cb:=(AG.out.xO AB.out.mv).1.cell 0;simp only[yI,yJ] at cb
   go_wp2_with fail
   try clear cb
   refine(zHj _ p B A0 A2 s.nd.length AB.out.ps AB.out.lt.xU (AB.out.idx Al.out) (AB.out.phi AO.out)).mono ?_;intro e A7 hp
   rcases Ran.go Ag AB (zBT s.nd.length _ AB.out.lt.xU) hp with ⟨A6,BD,Ak,rfl,AL⟩ | ⟨er,a,rfl,HX,HY⟩
   rotate_left
   ·refine xA (P:=Tryz.prog) (fn:=Tryz.f84) rfl ?_;refine xM.trans AJ.out ?_;rw[HX.out];exact HY.out
   clear hp;have cb:=(AG.out.xO AL.out.mv).1.cell 0;simp only[yI,yJ] at cb
   go_wp2_with fail
   try clear cb
   go_end0;refine xM.trans AJ.out ?_;rw[Ak.out];exact xM.ok AL.out.okp
theorem zPs {f:Nat}{s:Ps}(h:s.hd.kind=4):YY (f+1) s=.ok () s:=by unfold YY; rw[if_pos h]
theorem zKa {f:Nat}{s:Ps}(h:s.hd.kind≠4)(h1:isP [116,97,98,108,101] s=true):YY (f+1) s=(zCt 0 s).bind fun _ s=>YY f s:=by rw[YY,if_neg h,if_pos h1]
theorem zLs {f:Nat}{s:Ps}(h:s.hd.kind≠4)(h1:isP [116,97,98,108,101] s=false)(h2:isP [112,114,111,99] s=true):YY (f+1) s=(zDv 0 s).bind fun _ s=>YY f s:=by
 rw[YY,if_neg h,h1,if_pos h2]
 rfl
theorem zOt {f:Nat}{s:Ps}(h:s.hd.kind≠4)(h1:isP [116,97,98,108,101] s=false)(h2:isP [112,114,111,99] s=false):YY (f+1) s=.err 50 s.hd.at_:=by
 rw[YY,if_neg h,h1,h2]
 rfl
theorem zHZ (w:World)(p B gp:Nat)(s:Ps)(R:xW)(i:Nat)(hi0:i=0)(h:PS w p B s R)(hG:Good s)(hi:i<s.nd.length)(hbig:s.phi≤1000000)(hb:Safe w (xJ p R) gp 73 #[.pointer (some ⟨p,0,none⟩)]) :
  Calls Tryz.prog 81 #[.int .i64 (i:Int),.pointer (some ⟨gp,0,none⟩)] w (xM w p B R (YY (s.ts.length+1) s)):=by
 have AS:=yD (Ran.refl h hG);have HI:=yD hi;have AP:=yD hbig;have AE:=yD hb;have AQ:=yD hi0;have AU:=zB1;obtain⟨AA,AR⟩:∃x,Hid (x=YY (s.ts.length+1) s):=⟨_,yD rfl⟩;rw[←AR.out];clear h hG hi hbig hb hi0
 go_enter Tryz.func81,Tryz.ntmps81
 go_wp2_with fail
 go_loopw [] (fun wr=>∃(s':Ps) (R':xW) (m:Nat),Hid (Ran w p B R s wr R' s')∧Hid (s'.ts.length<m)∧Hid (AA=YY m s')) (fun wr=>XO p wr)
 case atStart=>exact⟨s,R,s.ts.length+1,AS,yD (Nat.lt_succ_self _),AR⟩
 case round=>
  obtain⟨s',R',m,HS,HM,HL⟩:=hrel;obtain⟨wa,rfl⟩:∃wa:World,wa=wr:=⟨_,rfl⟩;obtain⟨m',rfl⟩:∃m',m=m'+1:=⟨m-1,by have:=HM.out; omega⟩;have cb:=(AE.out.xO HS.out.mv).1.cell 0;simp only[yI,yJ] at cb
  by_cases hk:s'.hd.kind=4
  ·have HR:Hid (AA=.ok () s'):=yD (by rw[HL.out,zPs hk])
   have b4:((s'.hd.kind:Int) != 4)=false:=by rw[hk]; rfl
   have c4:(s'.hd.kind:Int)=4:=by rw[hk]; rfl
   clear hk
   go_wp2_with fail
   refine(jS wa p s' R' HS.out.ps.ts).mono ?_;rintro e w2 ⟨rfl,hx⟩;have AC:=yD (HS.out.ext hx);clear hx cb;unfold ZM
   go_wp2_with fail
   go_end0;rw[HR.out];exact xM.ok AC.out.okp
  ·have HK:=yD hk
   have b4:((s'.hd.kind:Int) != 4)=true:=by rw[zD]; omega
   have c4:¬(s'.hd.kind:Int)=4:=by omega
   clear hk
   go_wp2_with fail
   refine(jS wa p s' R' HS.out.ps.ts).mono ?_;rintro e w2 ⟨rfl,hx⟩;have AC:=yD (HS.out.ext hx);clear hx cb;unfold ZM;have AO:=(AE.out.xO AC.out.mv).1.cell 0;simp only[yI,yJ] at AO
   cases hi:isP [116,97,98,108,101] s' with
   | true=>
    have AI:=yD hi;have HQ:Hid (AA=(zCt i s').bind fun _ s=>YY m' s):=yD (by rw[HL.out,AQ.out,zKa HK.out hi]);clear hi
    go_wp2_with fail
    refine(YT _ p B s' R' [116,97,98,108,101] true AI AC.out.ps).mono ?_;rintro e w4 ⟨rfl,hx⟩;have AB:=yD (AC.out.ext hx);clear hx;have AD:=(AE.out.xO AB.out.mv).1.cell 0;simp only[yI,yJ] at AD
    go_wp2_with fail
    refine(zLU w4 p B s' R' i AB.out.ps AB.out.lt.xU (AB.out.idx HI.out) (AB.out.phi AP.out)).mono ?_;intro e w5 hp
    rcases Ran.goF HQ AB (zMI i _ AB.out.lt.xU) hp with ⟨s5,R5,AN,AM,rfl,AH⟩ | ⟨er,a,rfl,HX,HY⟩
    rotate_left
    ·refine xA (P:=Tryz.prog) (fn:=Tryz.f81) rfl ?_;rw[HX.out];exact HY.out
    clear hp AD;have AF:=yD (zKA AB.out.lt.xU AN.out);have AJ:Hid (s5.ts.length<m'):=yD (by have:=AF.out; have:=HM.out; omega);have AL:Hid (XO p w5<XO p wa):=yD (by rw[AH.out.ps.XO,HS.out.ps.XO]; exact AF.out)
    go_wp2_with fail
    go_roundw
    case rel=>exact⟨s5,R5,m',AH,AJ,AM⟩
    case measure=>exact AL.out
   | false=>
    have AI:=yD hi;clear hi
    go_wp2_with fail
    refine(YT _ p B s' R' [116,97,98,108,101] false AI AC.out.ps).mono ?_;rintro e w3 ⟨rfl,hx⟩;have AG:=yD (AC.out.ext hx);clear hx AO;have AT:=(AE.out.xO AG.out.mv).1.cell 0;simp only[yI,yJ] at AT
    cases hi:isP [112,114,111,99] s' with
    | true=>
     have AK:=yD hi;have HQ:Hid (AA=(zDv i s').bind fun _ s=>YY m' s):=yD (by rw[HL.out,AQ.out,zLs HK.out AI.out hi]);clear hi
     go_wp2_with fail
     refine(YT _ p B s' R' [112,114,111,99] true AK AG.out.ps).mono ?_;rintro e w4 ⟨rfl,hx⟩;have AB:=yD (AG.out.ext hx);clear hx;have AD:=(AE.out.xO AB.out.mv).1.cell 0;simp only[yI,yJ] at AD
     go_wp2_with fail
     refine(zN8 w4 p B s' R' i AB.out.ps AB.out.lt.xU (AB.out.idx HI.out) (AB.out.phi AP.out)).mono ?_;intro e w5 hp
     rcases Ran.goF HQ AB (zNC i _ AB.out.lt.xU) hp with ⟨s5,R5,AN,AM,rfl,AH⟩ | ⟨er,a,rfl,HX,HY⟩
     rotate_left
     ·refine xA (P:=Tryz.prog) (fn:=Tryz.f81) rfl ?_;rw[HX.out];exact HY.out
     clear hp AD;have AF:=yD (zLF AB.out.lt.xU AN.out);have AJ:Hid (s5.ts.length<m'):=yD (by have:=AF.out; have:=HM.out; omega);have AL:Hid (XO p w5<XO p wa):=yD (by rw[AH.out.ps.XO,HS.out.ps.XO]; exact AF.out)
     go_wp2_with fail
     go_roundw
     case rel=>exact⟨s5,R5,m',AH,AJ,AM⟩
     case measure=>exact AL.out
    | false=>
     have AK:=yD hi;have HQ:Hid (AA=.err 50 s'.hd.at_):=yD (by rw[HL.out,zOt HK.out AI.out hi]);clear hi
     go_wp2_with fail
     refine(YT _ p B s' R' [112,114,111,99] false AK AG.out.ps).mono ?_;rintro e w4 ⟨rfl,hx⟩;have AB:=yD (AG.out.ext hx);clear hx;have AD:=(AE.out.xO AB.out.mv).1.cell 0;simp only[yI,yJ] at AD
     go_wp2_with fail
     refine(zAE _ p 50).mono ?_;rintro e w5 ⟨rfl,rfl⟩;have HF:Hid (xM w p B R AA (jL 50) w4):=yD (by rw[HQ.out]; exact⟨rfl,s',rfl,AB.out.okp⟩);exact xA (P:=Tryz.prog) (fn:=Tryz.f81) rfl HF.out
theorem zOM {s:Ps}(h:Good s)(k:Nat):Good (s.node k):=by
 refine⟨h.last,h.deep,fun n hn=>?_⟩
 have hl:(s.node k).nd.length=s.nd.length+1:=by show(s.nd++[_]).length=_; simp
 rw[hl]
 rcases List.mem_append.1 (show n ∈ s.nd++[_] from hn) with hn | hn
 ·have:=h.few n hn; omega
 ·rw[List.mem_singleton.1 hn]; simp
theorem zJF (s:Ps)(k:Nat):(s.node k).nd.length=s.nd.length+1:=by show(s.nd++[_]).length=_; simp
theorem zJq (w:World)(p B:Nat)(s:Ps)(R:xW)(h:PS w p B s R)(hG:Good s)(h0:s.nd.length=0)(hbig:s.phi≤999999) :
  Calls Tryz.prog 39 #[.pointer (some ⟨p,0,none⟩)] w (xM w p B R (zCW s)):=by
 have HP:=yD h;have HG:=yD hG;have H0:=yD h0;have AH:=yD hbig;have AE:Hid (Ext w (w.alloc (.cells #[.pointer (some ⟨p,0,none⟩)] 73))):=yD (Ext.alloc _ _);have AD:=yD (h.fresh 73 #[.pointer (some ⟨p,0,none⟩)]);have AG:=yD (h.ext AE.out);have cb:=AD.out.1.cell 0;simp only[yI,yJ] at cb;obtain⟨AB,AF⟩:∃x,Hid (x=zCW s):=⟨_,yD rfl⟩;rw[←AF.out];have hm:=hmf;obtain⟨gb,AI⟩:∃gb,Hid (w.heap.size=gb):=⟨_,yD rfl⟩;rw[AI.out] at AD cb;clear h hG hbig h0
 go_enter Tryz.func39,Tryz.ntmps39
 go_upto_region 1 with fail
 rw[AI.out];generalize w.alloc (.cells #[.pointer (some ⟨p,0,none⟩)] 73)=W0 at *;have HF:=yD (AG.out.fresh 133 #[.func (.func 81) #[] #[.pointer (some ⟨gb,0,none⟩)]]);have AC:Hid (Ext W0 (W0.alloc (.cells #[.func (.func 81) #[] #[.pointer (some ⟨gb,0,none⟩)]] 133))):=yD (Ext.alloc _ _)
 go_wp2_with fail
 refine(zIE _ p B s R 1 _ [⟨81,#[],#[.pointer (some ⟨gb,0,none⟩)],fun t=>YY (t.ts.length+1) t⟩] 1 (AG.out.ext AC.out) (by have:=AH.out; unfold Ps.phi at this; omega) (by simp) HF.out.row (fun f hf=>by
  rw[List.mem_singleton.1 hf]
  exact enters_of Tryz.func81 (by kernel_rfl) rfl) (fun k hk s' wr R' h1 h2 h3=>by
  obtain rfl:k=0:=by simp at hk; omega
  injection h1 with _ h1;subst h1
  exact zHZ wr p B gb _ R' s.nd.length H0.out h3 (zOM HG.out 1) (by rw[zJF]; omega) (by
   have h1:=AH.out;unfold Ps.phi at h1 ⊢;rw[zJF]
   show s.nd.length+1+2*s.ts.length≤_
   omega) ((AD.out.ext AC.out).xO h2))).mono ?_
 intro e w1 AA;rw[zBw] at AA
 rcases AA.unit with ⟨s',hr,rfl,ho⟩ | ⟨er,a,hr,he⟩
 ·have HR:Hid (AB=.ok () s'):=yD (AF.out.trans hr);have HO:=yD (OkP.trans (xK.ext (AE.out.trans AC.out)) ho);clear AA hr ho
  go_wp2_with fail
  go_end0;rw[HR.out];exact xM.ok HO.out
 ·have HE:=yD (JE.trans (xK.ext (AE.out.trans AC.out)) he);have HR:Hid (AB=.err er a):=yD (AF.out.trans hr);obtain⟨rfl,_⟩:=he;refine xA (P:=Tryz.prog) (fn:=Tryz.f39) rfl ?_;rw[HR.out];exact HE.out
end Go.Proofs.YtioffpjajhalaaaGreatDoor
