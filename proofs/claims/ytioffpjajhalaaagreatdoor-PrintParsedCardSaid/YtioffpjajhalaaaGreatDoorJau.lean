/- The program's table, proc and program. (and what follows of it). The conditions stand at each lemma. -/
import Derived.Test.YtioffpjajhalaaaGreatDoorJaa
import Derived.Test.YtioffpjajhalaaaGreatDoorJat
set_option linter.unusedVariables false
set_option linter.unusedSimpArgs false
set_option maxRecDepth 100000
set_option maxHeartbeats 16000000
namespace Go.Proofs.YtioffpjajhalaaaGreatDoor
open Go Go.RowKit
theorem Ran.goF {α:Type}{w w1 w2:World}{p B:Nat}{R R1:xS}{s s1:Ps}{r:Res Unit}{whole:Res α}{f:Unit→Ps→Res α}{e:Ending}(HL:Hid (whole=r.bind f))(h:Hid (Ran w p B R s w1 R1 s1))(hf:jM s1 r)(hp:xI w1 p B R1 r e w2) :
  (∃s2 R2,Hid (r=.ok () s2)∧Hid (whole=f () s2)∧e=.returned (.tuple #[])∧Hid (Ran w p B R s w2 R2 s2))∨(∃er a,e=jW er∧Hid (whole=.err er a)∧Hid (VK w p B R er a (jW er) w2)):=by
 cases r with
 | ok a s2=>
  obtain⟨h1,R2,h2,h3⟩:=hp;exact .inl ⟨s2,R2,yD rfl,yD HL.out,h1,yD ⟨h2,h.out.mv.trans h3,h.out.lt.trans hf⟩⟩
 | err er a=>
  obtain⟨h1,h2⟩:=hp;exact .inr ⟨er,a,h1,yD HL.out,yD (VK.trans h.out.mv ⟨rfl,h2⟩)⟩
theorem zDI {s s1:Ps}{i k:Nat}{t:Bs}(g:Good s)(h:vE t (s.xB i k)=.ok () s1):s.nd.length<s1.nd.length∧s1.phi+1≤s.phi∧s1.ts.length+1≤s.ts.length:=by
 have hf:=zFA t (vH g i k);rw[h] at hf;obtain⟨_,h2,h3,h4,_⟩:=hf;rw[jR] at h4;rw[zCP] at h2;rw[YY] at h3;omega
theorem zAR {s:Ps}{i k:Nat}(t:Bs)(g:Good s):jM s (vE t (s.xB i k)):=JV.at (zFA t (vH g i k))
theorem zNx {i:Nat}{s s':Ps}(g:Good s)(h:zAX i s=.ok () s'):s'.ts.length<s.ts.length:=by
 unfold zAX at h
 cases hr:vE [116,97,98,108,101] (s.xB i 2) with
 | err e q=>rw[hr] at h; cases h
 | ok a s1=>
  rw[hr] at h;have h1:=zDI g hr;have gf:=zAR (i:=i) (k:=2) [116,97,98,108,101] g;rw[hr] at gf;have h2:=(ZY s.nd.length s1 gf.xQ).bind fun _ t _ gt=>(xN [40] t gt).bind fun _ t _ gt=>(zBz (YN s.nd.length) t gt).bind fun _ t _ gt=>(xN [41] t gt).bind fun _ t _ gt=>xN [59] t gt;rw[vT] at h;rw[h] at h2
  have:=h2.ts
  omega
theorem zOQ (w:World)(p B:Nat)(s:Ps)(R:xS)(i:Nat)(h:PS w p B s R)(hG:Good s)(hi:i<s.nd.length)(hbig:s.phi≤1000000) :
  Calls Tryz.prog 83 #[.pointer (some ⟨p,0,none⟩),.int .i64 (i:Int)] w (xI w p B R (zAX i s)):=by
 have HP:=yD h;have HG:=yD hG;have AU:=yD (Ran.refl h hG);have HI:=yD hi;have AK:=yD hbig;obtain⟨AM,AJ⟩:∃x,Hid (x=zAX i s):=⟨_,yD rfl⟩;rw[←AJ.out];have hm:=hmf;clear h hG hi hbig
 go_enter Tryz.func83,Tryz.ntmps83
 go_wp2_with fail
 refine(zEN w p B s R i 2 HP.out HI.out (by have:=AK.out; unfold Ps.phi at this; omega) HG.out).mono ?_;rintro e w1 ⟨rfl,R1,AO,AN⟩;have AY:=yD AO;have Aa:=yD (AN);clear AO AN
 go_wp2_with fail
 refine(vX _ p B _ R1 [116,97,98,108,101] AY.out).mono ?_;intro e w2 hp
 rcases Ran.goF AJ AU (zAR [116,97,98,108,101] HG.out) (xI.trans Aa.out hp) with ⟨s2,R2,AL,AH,rfl,AA⟩ | ⟨er,a,rfl,HX,HY⟩
 rotate_left
 ·refine yZ (P:=Tryz.prog) (fn:=Tryz.f83) rfl ?_;rw[HX.out];exact HY.out
 clear hp;have AP:Hid (s.nd.length<s2.nd.length):=yD (zDI HG.out AL.out).1;have AI:Hid (s2.phi≤1000000):=yD (AA.out.phi AK.out);have AQ:Hid (s2.phi+1≤s.phi):=yD (zDI HG.out AL.out).2.1;have AB:=yD (AA.out.mv);have AC:=yD (Ran.refl AA.out.ps AA.out.lt.xQ)
 go_wp2_with fail
 refine(VC _ p B s2 R2 s.nd.length AC.out.ps (AC.out.idx AP.out)).mono ?_;intro e w1 hp
 rcases Ran.go AH AC (ZY s.nd.length _ AC.out.lt.xQ) hp with ⟨s1,R1,AS,rfl,AE⟩ | ⟨er,a,rfl,HX,HY⟩
 rotate_left
 ·refine yZ (P:=Tryz.prog) (fn:=Tryz.f83) rfl ?_;refine xI.trans AB.out ?_;rw[HX.out];exact HY.out
 clear hp
 go_wp2_with fail
 refine(vX _ p B s1 R1 [40] AE.out.ps).mono ?_;intro e w2 hp
 rcases Ran.go AS AE (xN _ _ AE.out.lt.xQ) hp with ⟨s2,R2,AH,rfl,AA⟩ | ⟨er,a,rfl,HX,HY⟩
 rotate_left
 ·refine yZ (P:=Tryz.prog) (fn:=Tryz.f83) rfl ?_;refine xI.trans AB.out ?_;rw[HX.out];exact HY.out
 clear hp
 go_wp2_with fail
 refine(zG4 _ p B s2 R2 s.nd.length ⟨131,#[.pointer (some ⟨p,0,none⟩)],#[],JN s.nd.length⟩ AA.out.ps AA.out.lt.xQ (enters_of Tryz.func131 (by kernel_rfl) rfl) (YN s.nd.length) (fun wr s9 R9 AF Ab AV=>zCo wr p B s9 R9 s.nd.length AV AF.xQ (yR (AA.out.idx AP.out) AF.nd) (by have h1:=AF.phi; have h2:=AA.out.phi AI.out; unfold Ps.phi at h1 h2; omega))).mono ?_;intro e w3 hp
 rcases Ran.go AH AA (zBz (YN s.nd.length) _ AA.out.lt.xQ) hp with ⟨s3,R3,AR,rfl,AD⟩ | ⟨er,a,rfl,HX,HY⟩
 rotate_left
 ·refine yZ (P:=Tryz.prog) (fn:=Tryz.f83) rfl ?_;refine xI.trans AB.out ?_;rw[HX.out];exact HY.out
 clear hp
 go_wp2_with fail
 refine(vX _ p B s3 R3 [41] AD.out.ps).mono ?_;intro e w4 hp
 rcases Ran.go AR AD (xN _ _ AD.out.lt.xQ) hp with ⟨s4,R4,AX,rfl,AG⟩ | ⟨er,a,rfl,HX,HY⟩
 rotate_left
 ·refine yZ (P:=Tryz.prog) (fn:=Tryz.f83) rfl ?_;refine xI.trans AB.out ?_;rw[HX.out];exact HY.out
 clear hp;have AZ:=yD (ZH AX.out)
 go_wp2_with fail
 refine(vX _ p B s4 R4 [59] AG.out.ps).mono ?_;intro e w5 hp
 rcases Ran.go AZ AG (xN _ _ AG.out.lt.xQ) hp with ⟨s5,R5,AT,rfl,AW⟩ | ⟨er,a,rfl,HX,HY⟩
 rotate_left
 ·refine yZ (P:=Tryz.prog) (fn:=Tryz.f83) rfl ?_;refine xI.trans AB.out ?_;rw[HX.out];exact HY.out
 clear hp
 go_wp2_with fail
 go_end0;refine xI.trans AB.out ?_;rw[AT.out];exact xI.ok AW.out.okp
theorem zOx {α:Type}{whole:Res α}{r:Res Unit}{f:Unit→Ps→Res α}{t:Ps}(h:Hid (whole=r.bind f))(e:r=.ok () t):whole=f () t:=by rw[h.out,e]; rfl
theorem zO7 {i:Nat}{s:Ps}(h:Hid (isP [115,105,110,103,108,101] s=true)):VF i s=.ok () (s.adv.num i 1):=by unfold VF; rw[if_pos h.out]
theorem zRM {i:Nat}{s:Ps}(h:Hid (isP [115,105,110,103,108,101] s=false)):VF i s=.ok () s:=by unfold VF; rw[h.out]; rfl
theorem zEs (n:Nat)(s:Ps)(g:Good s):match JM n s with
  | .ok _ t=>Good t∧t.phi≤s.phi+1∧s.nd.length+1≤t.nd.length∧t.ts.length≤s.ts.length∧t.deep=s.deep
  | .err _ _=>True:=by
 have hk:=zCP s n 4;have hl:=jR s n 4;have e:JM n s=if isP [41] (s.xB n 4)=true then .ok () (s.xB n 4) else JC (JN s.nd.length) (s.xB n 4):=rfl;rw[e]
 cases hi:isP [41] (s.xB n 4) with
 | true=>
  simp only[if_true];exact⟨vH g n 4,by omega,by omega,zU _,rfl⟩
 | false=>
  simp only[Bool.false_eq_true,if_false];have h:=zBz (YN s.nd.length) _ (vH g n 4)
  cases hr:JC (JN s.nd.length) (s.xB n 4) with
  | err e q=>trivial
  | ok a t=>
   rw[hr] at h;have h1:=h.phi;have h2:=h.nd;exact⟨h.xQ,by omega,by omega,h.ts,h.deep⟩
theorem zKm (i:Nat):zBh (zCB i):=fun s g=>by
 unfold zCB
 cases hr:vE [112,114,111,99] (s.xB i 3) with
 | err e q=>trivial
 | ok a s2=>
  have h1:=zDI g hr;have gf:=zAR (i:=i) (k:=3) [112,114,111,99] g;rw[hr] at gf;have g2:=gf.xQ;have AA:=((ZY s.nd.length s2 g2).bind fun _ t _ gt=>xN [40] t gt:jM s2 _);rw[vT]
  cases hr3:(vS s.nd.length s2).bind fun _ t=>vE [40] t with
  | err e q=>
   have:∀ {f:Ps→Res Unit},((vS s.nd.length s2).bind fun _ t=>(vE [40] t).bind fun _ t=>f t)=.err e q:=by
    intro f
    cases hn:vS s.nd.length s2 with
    | err e2 q2=>rw[hn] at hr3; exact hr3
    | ok b t=>rw[hn] at hr3; rw[vT] at hr3 ⊢; rw[hr3]; rfl
   rw[this (f:=fun t=>(JM s.nd.length t).bind fun _ t=>(vE [41] t).bind fun _ t=>(VF s.nd.length t).bind fun _ t=>zD4 s.nd.length t)]
   trivial
  | ok b s4=>
   rw[hr3] at AA
   have:∀ {f:Ps→Res Unit},((vS s.nd.length s2).bind fun _ t=>(vE [40] t).bind fun _ t=>f t)=f s4:=by
    intro f
    cases hn:vS s.nd.length s2 with
    | err e2 q2=>rw[hn] at hr3; cases hr3
    | ok b t=>rw[hn] at hr3; rw[vT] at hr3 ⊢; rw[hr3]; rfl
   rw[this (f:=fun t=>(JM s.nd.length t).bind fun _ t=>(vE [41] t).bind fun _ t=>(VF s.nd.length t).bind fun _ t=>zD4 s.nd.length t)];have hn:=zEs s.nd.length s4 AA.xQ
   cases hr5:JM s.nd.length s4 with
   | err e q=>trivial
   | ok c s5=>
    rw[hr5] at hn;obtain⟨n1,n2,n3,n4,n5⟩:=hn;have m1:=AA.phi;have m2:=AA.nd;have m3:=AA.ts;have m4:=AA.deep;have l5:ZR s s5:=⟨n1,by omega,by omega,by omega,by rw[n5,m4,gf.deep]⟩;rw[vT];exact jM.trans l5 ((xN [41] s5 n1).bind fun _ t _ gt=>(zHf s.nd.length t gt).bind fun _ t _ gt=>zCW s.nd.length t gt)
theorem zOD {i:Nat}{s s':Ps}(g:Good s)(h:zCB i s=.ok () s'):s'.ts.length<s.ts.length:=by
 unfold zCB at h
 cases hr:vE [112,114,111,99] (s.xB i 3) with
 | err e q=>rw[hr] at h; cases h
 | ok a s1=>
  have h1:=zDI g hr;have gf:=zAR (i:=i) (k:=3) [112,114,111,99] g;rw[hr] at gf h;rw[vT] at h
  have h2:∀ {t:Ps},Good t→t.ts.length≤s1.ts.length→∀ {r:Res Unit},jM t r→r=.ok () s'→s'.ts.length≤s1.ts.length:=fun gt hl _ hf e=>by rw[e] at hf; have:=hf.ts; omega
  cases hn:vS s.nd.length s1 with
  | err e q=>rw[hn] at h; cases h
  | ok b t=>
   have f1:=ZY s.nd.length s1 gf.xQ;rw[hn] at f1 h;rw[vT] at h
   cases hk:vE [40] t with
   | err e q=>rw[hk] at h; cases h
   | ok c t2=>
    have f2:=xN [40] t f1.xQ;rw[hk] at f2 h;rw[vT] at h
    cases hm:JM s.nd.length t2 with
    | err e q=>rw[hm] at h; cases h
    | ok d t3=>
     have f3:=zEs s.nd.length t2 f2.xQ;rw[hm] at f3 h;rw[vT] at h;have f4:=(xN [41] t3 f3.1).bind fun _ t _ gt=>(zHf s.nd.length t gt).bind fun _ t _ gt=>zCW s.nd.length t gt;rw[h] at f4;have a1:=f1.ts;have a2:=f2.ts;have a3:=f3.2.2.2.1;have a4:=f4.ts;omega
theorem zO1 (w:World)(p B gp:Nat)(s:Ps)(R:xS)(i:Nat)(h:PS w p B s R)(hG:Good s)(hi:i<s.nd.length)(hbig:s.phi≤1000000)(hb:Safe w (xG p R) gp 73 #[.pointer (some ⟨p,0,none⟩)]) :
  Calls Tryz.prog 132 #[.int .i64 (i:Int),.pointer (some ⟨gp,0,none⟩)] w (xI w p B R (if isP [41] s=true then .ok () s else JC (JN i) s)):=by
 have AB:=yD (Ran.refl h hG);have HI:=yD hi;have AM:=yD hbig;have AC:=yD hb;obtain⟨AH,AF⟩:∃x,Hid (x=if isP [41] s=true then .ok () s else JC (JN i) s):=⟨_,yD rfl⟩;rw[←AF.out];have hm:=hmf;clear h hG hi hbig hb
 go_enter Tryz.func132,Tryz.ntmps132
 cases hi6:isP [41] s with
 | false=>
  have AD:=yD hi6;clear hi6;have AE:=yD (zKH (t:=[41]) (s:=s) AF AD);have cb:=(AC.out.xJ AB.out.mv).1.cell 0;simp only[yI,yJ] at cb
  go_wp2_with fail
  try clear cb
  refine(XT _ p B s R [41] false AD AB.out.ps).mono ?_;rintro e w6 ⟨rfl,hx⟩;have AA:=yD (AB.out.ext hx);clear hx;have AK:=yD (ZH AE.out);have cb:=(AC.out.xJ AA.out.mv).1.cell 0;simp only[yI,yJ] at cb
  go_wp2_with fail
  try clear cb
  refine(zG4 _ p B s R i ⟨131,#[.pointer (some ⟨p,0,none⟩)],#[],JN i⟩ AA.out.ps AA.out.lt.xQ (enters_of Tryz.func131 (by kernel_rfl) rfl) (YN i) (fun wr s9 R9 AG AN AL=>zCo wr p B s9 R9 i AL AG.xQ (yR (AA.out.idx HI.out) AG.nd) (by have h1:=AG.phi; have h2:=AA.out.phi AM.out; unfold Ps.phi at h1 h2; omega))).mono ?_;intro e w7 hp
  rcases Ran.go AK AA (zBz (YN i) _ AA.out.lt.xQ) hp with ⟨s7,R7,AJ,rfl,AI⟩ | ⟨er,a,rfl,HX,HY⟩
  rotate_left
  ·refine yZ (P:=Tryz.prog) (fn:=Tryz.f132) rfl ?_;rw[HX.out];exact HY.out
  clear hp;have cb:=(AC.out.xJ AI.out.mv).1.cell 0;simp only[yI,yJ] at cb
  go_wp2_with fail
  try clear cb
  go_end0;rw[AJ.out];exact xI.ok AI.out.okp
 | true=>
  have AD:=yD hi6;clear hi6;have AE:=yD (zG8 (t:=[41]) (s:=s) AF AD);have cb:=(AC.out.xJ AB.out.mv).1.cell 0;simp only[yI,yJ] at cb
  go_wp2_with fail
  try clear cb
  refine(XT _ p B s R [41] true AD AB.out.ps).mono ?_;rintro e w6 ⟨rfl,hx⟩;have AA:=yD (AB.out.ext hx);clear hx;have cb:=(AC.out.xJ AA.out.mv).1.cell 0;simp only[yI,yJ] at cb
  go_wp2_with fail
  try clear cb
  go_end0;rw[AE.out];exact xI.ok AA.out.okp
theorem zQQ (w:World)(p B:Nat)(s:Ps)(R:xS)(i:Nat)(h:PS w p B s R)(hG:Good s)(hi:i<s.nd.length)(hbig:s.phi≤1000000) :
  Calls Tryz.prog 84 #[.pointer (some ⟨p,0,none⟩),.int .i64 (i:Int)] w (xI w p B R (zCB i s)):=by
 have HP:=yD h;have HG:=yD hG;have Ag:=yD (Ran.refl h hG);have HI:=yD hi;have AY:=yD hbig;obtain⟨AF,At⟩:∃x,Hid (x=zCB i s):=⟨_,yD rfl⟩;rw[←At.out];have hm:=hmf;have Af:Hid (Ext w (w.alloc (.cells #[.pointer (some ⟨p,0,none⟩)] 73))):=yD (Ext.alloc _ _);have Aa:=yD (h.fresh 73 #[.pointer (some ⟨p,0,none⟩)]);have Au:=yD (h.ext Af.out);clear Ag;have Ag:=yD (Ran.refl Au.out hG);obtain⟨gp,An⟩:∃gp,Hid (w.heap.size=gp):=⟨_,yD rfl⟩;rw[An.out] at Aa;have cb:=Aa.out.1.cell 0;simp only[yI,yJ] at cb;clear h hG hi hbig
 go_enter Tryz.func84,Tryz.ntmps84
 go_upto_region 1 with fail
 rw[An.out];generalize w.alloc (.cells #[.pointer (some ⟨p,0,none⟩)] 73)=W0 at *
 go_wp2_with fail
 refine(zEN W0 p B s R i 3 Au.out HI.out (by have:=AY.out; unfold Ps.phi at this; omega) HG.out).mono ?_;rintro e w1 ⟨rfl,R1,Ar,Aq⟩;have A1:=yD Ar;have As:=yD (Aq);clear Ar Aq;have cb:=(Aa.out.xJ As.out).1.cell 0;simp only[yI,yJ] at cb
 go_wp2_with fail
 refine(vX _ p B _ R1 [112,114,111,99] A1.out).mono ?_;intro e w2 hp
 rcases Ran.goF At Ag (zAR [112,114,111,99] HG.out) (xI.trans As.out hp) with ⟨s2,R2,Aw,A2,rfl,AM⟩ | ⟨er,a,rfl,HX,HY⟩
 rotate_left
 ·refine yZ (P:=Tryz.prog) (fn:=Tryz.f84) rfl ?_;refine xI.trans (xH.ext Af.out) ?_;rw[HX.out];exact HY.out
 clear hp;have Am:Hid (s.nd.length<s2.nd.length):=yD (zDI HG.out Aw.out).1;have Ad:Hid (s2.phi≤1000000):=yD (AM.out.phi AY.out);have AK:Hid (s2.phi+1≤s.phi):=yD (zDI HG.out Aw.out).2.1;have AW:=yD (((xH.ext (M:=xG p R) Af.out).trans AM.out.mv));have AX:=yD (Aa.out.xJ AM.out.mv);have AR:=yD (Ran.refl AM.out.ps AM.out.lt.xQ);have cb:=(AX.out.xJ AR.out.mv).1.cell 0;simp only[yI,yJ] at cb
 go_wp2_with fail
 try clear cb
 refine(VC _ p B s2 R2 s.nd.length AR.out.ps (AR.out.idx Am.out)).mono ?_;intro e w8 hp
 rcases Ran.go A2 AR (ZY s.nd.length _ AR.out.lt.xQ) hp with ⟨s8,R8,A3,rfl,AT⟩ | ⟨er,a,rfl,HX,HY⟩
 rotate_left
 ·refine yZ (P:=Tryz.prog) (fn:=Tryz.f84) rfl ?_;refine xI.trans AW.out ?_;rw[HX.out];exact HY.out
 clear hp;have cb:=(AX.out.xJ AT.out.mv).1.cell 0;simp only[yI,yJ] at cb
 go_wp2_with fail
 try clear cb
 refine(vX _ p B s8 R8 [40] AT.out.ps).mono ?_;intro e w9 hp
 rcases Ran.go A3 AT (xN _ _ AT.out.lt.xQ) hp with ⟨s9,R9,Ap,rfl,AD⟩ | ⟨er,a,rfl,HX,HY⟩
 rotate_left
 ·refine yZ (P:=Tryz.prog) (fn:=Tryz.f84) rfl ?_;refine xI.trans AW.out ?_;rw[HX.out];exact HY.out
 clear hp;have HF:=yD (AD.out.ps.fresh 133 #[.func (.func 132) #[] #[.pointer (some ⟨gp,0,none⟩)]]);have AZ:Hid (Ext w9 (w9.alloc (.cells #[.func (.func 132) #[] #[.pointer (some ⟨gp,0,none⟩)]] 133))):=yD (Ext.alloc _ _);have Av:=yD ((AX.out.xJ AD.out.mv).ext AZ.out);have cb:=(AX.out.xJ AD.out.mv).1.cell 0;simp only[yI,yJ] at cb
 go_wp2_with fail
 try clear cb
 refine(zCz _ p B s9 R9 s.nd.length 4 _ [⟨132,#[],#[.pointer (some ⟨gp,0,none⟩)],fun t=>if isP [41] t=true then .ok () t else JC (JN s9.nd.length) t⟩] 1 (AD.out.ps.ext AZ.out) (AD.out.idx Am.out) (AD.out.nd Ad.out) (by simp) AD.out.lt.xQ HF.out.row (fun f hf=>by
  rw[List.mem_singleton.1 hf]
  exact enters_of Tryz.func132 (by kernel_rfl) rfl) (fun k hk s' wr R' h1 h2 h3=>by
  obtain rfl:k=0:=by simp at hk; omega
  injection h1 with _ h1;subst h1
  exact zO1 wr p B gp _ R' s9.nd.length h3 (vH AD.out.lt.xQ s.nd.length 4) (by rw[jR]; omega) (by
   rw[zCP];have h1:=AD.out.lt.phi;have h2:=AK.out;have h3:=AY.out
   omega) (Av.out.xJ h2))).mono ?_
 intro e w50 hp;rw[zCF] at hp;have AV:zDW _ p B R9 (.int .i64 (s9.nd.length:Int)) (JM s.nd.length s9) e w50:=hp;have Ao:=zEs s.nd.length s9 AD.out.lt.xQ
 cases hq:JM s.nd.length s9 with
 | err er a=>
  rw[hq] at AV;obtain⟨rfl,ho⟩:=AV
  have Az:Hid (xI w p B R AF (jW er) w50):=yD (by
   refine xI.trans AW.out ?_;rw[Ap.out,hq]
   exact VK.trans (AD.out.mv.trans (xH.ext AZ.out)) ⟨rfl,ho⟩)
  exact yZ (P:=Tryz.prog) (fn:=Tryz.f84) rfl Az.out
 | ok a s50=>
  rw[hq] at AV Ao;obtain⟨rfl,A5,AP,AH⟩:=AV;obtain⟨n1,n2,n3,n4,n5⟩:=Ao;have AJ:=yD (AW.out.trans ((AD.out.mv.trans (xH.ext AZ.out)).trans AH));have AG:=yD (Av.out.xJ AH);have Al:Hid (s.nd.length<s50.nd.length):=yD (by have h1:=AD.out.lt.nd; have h2:=Am.out; omega);have AQ:Hid (s50.phi≤1000000):=yD (by have h1:=AD.out.lt.phi; have h2:=AK.out; have h3:=AY.out; omega);have AU:=yD (Ran.refl AP n1);have Aj:Hid (AF=(vE [41] s50).bind fun _ t=>(VF s.nd.length t).bind fun _ t=>zD4 s.nd.length t):=yD (by rw[Ap.out,hq]; rfl);clear hp hq AP AH n1 n2 n3 n4 n5;have cb:=(AG.out.xJ AU.out.mv).1.cell 0;simp only[yI,yJ] at cb
  go_wp2_with fail
  try clear cb
  refine(vX _ p B s50 A5 [41] AU.out.ps).mono ?_;intro e BC hp
  rcases Ran.go Aj AU (xN _ _ AU.out.lt.xQ) hp with ⟨AL,Ai,AO,rfl,AC⟩ | ⟨er,a,rfl,HX,HY⟩
  rotate_left
  ·refine yZ (P:=Tryz.prog) (fn:=Tryz.f84) rfl ?_;refine xI.trans AJ.out ?_;rw[HX.out];exact HY.out
  clear hp
  cases hi11:isP [115,105,110,103,108,101] AL with
  | false=>
   have AE:=yD hi11;clear hi11;have AI:=yD (zOx AO (zRM AE));have cb:=(AG.out.xJ AC.out.mv).1.cell 0;simp only[yI,yJ] at cb
   go_wp2_with fail
   try clear cb
   refine(zAQ _ p B AL Ai [115,105,110,103,108,101] AE AC.out.ps).mono ?_;rintro e Ax ⟨rfl,hx⟩;have AA:=yD (AC.out.ext hx);clear hx;have Ah:=yD (ZH AI.out);have cb:=(AG.out.xJ AA.out.mv).1.cell 0;simp only[yI,yJ] at cb
   go_wp2_with fail
   try clear cb
   refine(zJr _ p B AL Ai s.nd.length AA.out.ps AA.out.lt.xQ (AA.out.idx Al.out) (AA.out.phi AQ.out)).mono ?_;intro e BE hp
   rcases Ran.go Ah AA (zCW s.nd.length _ AA.out.lt.xQ) hp with ⟨BB,A8,Ae,rfl,AS⟩ | ⟨er,a,rfl,HX,HY⟩
   rotate_left
   ·refine yZ (P:=Tryz.prog) (fn:=Tryz.f84) rfl ?_;refine xI.trans AJ.out ?_;rw[HX.out];exact HY.out
   clear hp;have cb:=(AG.out.xJ AS.out.mv).1.cell 0;simp only[yI,yJ] at cb
   go_wp2_with fail
   try clear cb
   go_end0;refine xI.trans AJ.out ?_;rw[Ae.out];exact xI.ok AS.out.okp
  | true=>
   have AE:=yD hi11;clear hi11;have AI:=yD (bind_eq AO (zO7 AE));have cb:=(AG.out.xJ AC.out.mv).1.cell 0;simp only[yI,yJ] at cb
   go_wp2_with fail
   try clear cb
   refine(VO _ p B AL Ai [115,105,110,103,108,101] AE AC.out.ps).mono ?_;rintro e Ax ⟨rfl,ho⟩;obtain⟨A4,hs⟩:=AC.out.then ho (zBw AC.out.lt.xQ AE);have AA:=yD hs;clear ho hs;have cb:=(AG.out.xJ AA.out.mv).1.cell 0;simp only[yI,yJ] at cb
   go_wp2_with fail
   try clear cb
   refine(zCO _ p B AL.adv A4 s.nd.length AA.out.ps (AA.out.idx Al.out)).mono ?_;intro e A9 hp
   rcases Ran.go AI AA (ZR.num AA.out.lt.xQ s.nd.length 1) hp with ⟨Ay,A0,Ac,rfl,AB⟩ | ⟨er,a,rfl,HX,HY⟩
   rotate_left
   ·refine yZ (P:=Tryz.prog) (fn:=Tryz.f84) rfl ?_;refine xI.trans AJ.out ?_;rw[HX.out];exact HY.out
   clear hp;have Ak:=yD (ZH Ac.out);have cb:=(AG.out.xJ AB.out.mv).1.cell 0;simp only[yI,yJ] at cb
   go_wp2_with fail
   try clear cb
   refine(zJr _ p B Ay A0 s.nd.length AB.out.ps AB.out.lt.xQ (AB.out.idx Al.out) (AB.out.phi AQ.out)).mono ?_;intro e A6 hp
   rcases Ran.go Ak AB (zCW s.nd.length _ AB.out.lt.xQ) hp with ⟨BA,A7,Ab,rfl,AN⟩ | ⟨er,a,rfl,HX,HY⟩
   rotate_left
   ·refine yZ (P:=Tryz.prog) (fn:=Tryz.f84) rfl ?_;refine xI.trans AJ.out ?_;rw[HX.out];exact HY.out
   clear hp;have cb:=(AG.out.xJ AN.out.mv).1.cell 0;simp only[yI,yJ] at cb
   go_wp2_with fail
   try clear cb
   go_end0;refine xI.trans AJ.out ?_;rw[Ab.out];exact xI.ok AN.out.okp
theorem zRS {f:Nat}{s:Ps}(h:s.hd.kind=4):vY (f+1) s=.ok () s:=by unfold vY; rw[if_pos h]
theorem zNb {f:Nat}{s:Ps}(h:s.hd.kind≠4)(h1:isP [116,97,98,108,101] s=true):vY (f+1) s=(zAX 0 s).bind fun _ s=>vY f s:=by rw[vY,if_neg h,if_pos h1]
theorem zOs {f:Nat}{s:Ps}(h:s.hd.kind≠4)(h1:isP [116,97,98,108,101] s=false)(h2:isP [112,114,111,99] s=true):vY (f+1) s=(zCB 0 s).bind fun _ s=>vY f s:=by
 rw[vY,if_neg h,h1,if_pos h2]
 rfl
theorem zQ8 {f:Nat}{s:Ps}(h:s.hd.kind≠4)(h1:isP [116,97,98,108,101] s=false)(h2:isP [112,114,111,99] s=false):vY (f+1) s=.err 50 s.hd.at_:=by
 rw[vY,if_neg h,h1,h2]
 rfl
theorem zKj (w:World)(p B gp:Nat)(s:Ps)(R:xS)(i:Nat)(hi0:i=0)(h:PS w p B s R)(hG:Good s)(hi:i<s.nd.length)(hbig:s.phi≤1000000)(hb:Safe w (xG p R) gp 73 #[.pointer (some ⟨p,0,none⟩)]) :
  Calls Tryz.prog 81 #[.int .i64 (i:Int),.pointer (some ⟨gp,0,none⟩)] w (xI w p B R (vY (s.ts.length+1) s)):=by
 have AS:=yD (Ran.refl h hG);have HI:=yD hi;have AP:=yD hbig;have AE:=yD hb;have AR:=yD hi0;have AU:=zDb;obtain⟨AA,AO⟩:∃x,Hid (x=vY (s.ts.length+1) s):=⟨_,yD rfl⟩;rw[←AO.out];clear h hG hi hbig hb hi0
 go_enter Tryz.func81,Tryz.ntmps81
 go_wp2_with fail
 go_loopw [] (fun wr=>∃(s':Ps) (R':xS) (m:Nat),Hid (Ran w p B R s wr R' s')∧Hid (s'.ts.length<m)∧Hid (AA=vY m s')) (fun wr=>JP p wr)
 case atStart=>exact⟨s,R,s.ts.length+1,AS,yD (Nat.lt_succ_self _),AO⟩
 case round=>
  obtain⟨s',R',m,HS,HM,HL⟩:=hrel;obtain⟨wa,rfl⟩:∃wa:World,wa=wr:=⟨_,rfl⟩;obtain⟨m',rfl⟩:∃m',m=m'+1:=⟨m-1,by have:=HM.out; omega⟩;have cb:=(AE.out.xJ HS.out.mv).1.cell 0;simp only[yI,yJ] at cb
  by_cases hk:s'.hd.kind=4
  ·have HR:Hid (AA=.ok () s'):=yD (by rw[HL.out,zRS hk])
   have b4:((s'.hd.kind:Int) != 4)=false:=by rw[hk]; rfl
   have c4:(s'.hd.kind:Int)=4:=by rw[hk]; rfl
   clear hk
   go_wp2_with fail
   refine(ZG wa p s' R' HS.out.ps.ts).mono ?_;rintro e w2 ⟨rfl,hx⟩;have AC:=yD (HS.out.ext hx);clear hx cb;unfold YC
   go_wp2_with fail
   go_end0;rw[HR.out];exact xI.ok AC.out.okp
  ·have HK:=yD hk
   have b4:((s'.hd.kind:Int) != 4)=true:=by rw[zD]; omega
   have c4:¬(s'.hd.kind:Int)=4:=by omega
   clear hk
   go_wp2_with fail
   refine(ZG wa p s' R' HS.out.ps.ts).mono ?_;rintro e w2 ⟨rfl,hx⟩;have AC:=yD (HS.out.ext hx);clear hx cb;unfold YC;have AQ:=(AE.out.xJ AC.out.mv).1.cell 0;simp only[yI,yJ] at AQ
   cases hi:isP [116,97,98,108,101] s' with
   | true=>
    have AI:=yD hi;have HQ:Hid (AA=(zAX i s').bind fun _ s=>vY m' s):=yD (by rw[HL.out,AR.out,zNb HK.out hi]);clear hi
    go_wp2_with fail
    refine(XT _ p B s' R' [116,97,98,108,101] true AI AC.out.ps).mono ?_;rintro e w4 ⟨rfl,hx⟩;have AB:=yD (AC.out.ext hx);clear hx;have AD:=(AE.out.xJ AB.out.mv).1.cell 0;simp only[yI,yJ] at AD
    go_wp2_with fail
    refine(zOQ w4 p B s' R' i AB.out.ps AB.out.lt.xQ (AB.out.idx HI.out) (AB.out.phi AP.out)).mono ?_;intro e w5 hp
    rcases Ran.goF HQ AB (zJ0 i _ AB.out.lt.xQ) hp with ⟨s5,R5,AK,AL,rfl,AG⟩ | ⟨er,a,rfl,HX,HY⟩
    rotate_left
    ·refine yZ (P:=Tryz.prog) (fn:=Tryz.f81) rfl ?_;rw[HX.out];exact HY.out
    clear hp AD;have AH:=yD (zNx AB.out.lt.xQ AK.out);have AJ:Hid (s5.ts.length<m'):=yD (by have:=AH.out; have:=HM.out; omega);have AN:Hid (JP p w5<JP p wa):=yD (by rw[AG.out.ps.JP,HS.out.ps.JP]; exact AH.out)
    go_wp2_with fail
    go_roundw
    case rel=>exact⟨s5,R5,m',AG,AJ,AL⟩
    case measure=>exact AN.out
   | false=>
    have AI:=yD hi;clear hi
    go_wp2_with fail
    refine(XT _ p B s' R' [116,97,98,108,101] false AI AC.out.ps).mono ?_;rintro e w3 ⟨rfl,hx⟩;have AF:=yD (AC.out.ext hx);clear hx AQ;have AT:=(AE.out.xJ AF.out.mv).1.cell 0;simp only[yI,yJ] at AT
    cases hi:isP [112,114,111,99] s' with
    | true=>
     have AM:=yD hi;have HQ:Hid (AA=(zCB i s').bind fun _ s=>vY m' s):=yD (by rw[HL.out,AR.out,zOs HK.out AI.out hi]);clear hi
     go_wp2_with fail
     refine(XT _ p B s' R' [112,114,111,99] true AM AF.out.ps).mono ?_;rintro e w4 ⟨rfl,hx⟩;have AB:=yD (AF.out.ext hx);clear hx;have AD:=(AE.out.xJ AB.out.mv).1.cell 0;simp only[yI,yJ] at AD
     go_wp2_with fail
     refine(zQQ w4 p B s' R' i AB.out.ps AB.out.lt.xQ (AB.out.idx HI.out) (AB.out.phi AP.out)).mono ?_;intro e w5 hp
     rcases Ran.goF HQ AB (zKm i _ AB.out.lt.xQ) hp with ⟨s5,R5,AK,AL,rfl,AG⟩ | ⟨er,a,rfl,HX,HY⟩
     rotate_left
     ·refine yZ (P:=Tryz.prog) (fn:=Tryz.f81) rfl ?_;rw[HX.out];exact HY.out
     clear hp AD;have AH:=yD (zOD AB.out.lt.xQ AK.out);have AJ:Hid (s5.ts.length<m'):=yD (by have:=AH.out; have:=HM.out; omega);have AN:Hid (JP p w5<JP p wa):=yD (by rw[AG.out.ps.JP,HS.out.ps.JP]; exact AH.out)
     go_wp2_with fail
     go_roundw
     case rel=>exact⟨s5,R5,m',AG,AJ,AL⟩
     case measure=>exact AN.out
    | false=>
     have AM:=yD hi;have HQ:Hid (AA=.err 50 s'.hd.at_):=yD (by rw[HL.out,zQ8 HK.out AI.out hi]);clear hi
     go_wp2_with fail
     refine(XT _ p B s' R' [112,114,111,99] false AM AF.out.ps).mono ?_;rintro e w4 ⟨rfl,hx⟩;have AB:=yD (AF.out.ext hx);clear hx;have AD:=(AE.out.xJ AB.out.mv).1.cell 0;simp only[yI,yJ] at AD
     go_wp2_with fail
     refine(zBx _ p 50).mono ?_;rintro e w5 ⟨rfl,rfl⟩;have HF:Hid (xI w p B R AA (jW 50) w4):=yD (by rw[HQ.out]; exact⟨rfl,s',rfl,AB.out.okp⟩);exact yZ (P:=Tryz.prog) (fn:=Tryz.f81) rfl HF.out
theorem zRm {s:Ps}(h:Good s)(k:Nat):Good (s.node k):=by
 refine⟨h.last,h.deep,fun n hn=>?_⟩
 have hl:(s.node k).nd.length=s.nd.length+1:=by show(s.nd++[_]).length=_; simp
 rw[hl]
 rcases List.mem_append.1 (show n ∈ s.nd++[_] from hn) with hn | hn
 ·have:=h.few n hn; omega
 ·rw[List.mem_singleton.1 hn]; simp
theorem zMD (s:Ps)(k:Nat):(s.node k).nd.length=s.nd.length+1:=by show(s.nd++[_]).length=_; simp
theorem zMj (w:World)(p B:Nat)(s:Ps)(R:xS)(h:PS w p B s R)(hG:Good s)(h0:s.nd.length=0)(hbig:s.phi≤999999) :
  Calls Tryz.prog 39 #[.pointer (some ⟨p,0,none⟩)] w (xI w p B R (zAZ s)):=by
 have HP:=yD h;have HG:=yD hG;have H0:=yD h0;have AG:=yD hbig;have AD:Hid (Ext w (w.alloc (.cells #[.pointer (some ⟨p,0,none⟩)] 73))):=yD (Ext.alloc _ _);have AF:=yD (h.fresh 73 #[.pointer (some ⟨p,0,none⟩)]);have AI:=yD (h.ext AD.out);have cb:=AF.out.1.cell 0;simp only[yI,yJ] at cb;obtain⟨AB,AE⟩:∃x,Hid (x=zAZ s):=⟨_,yD rfl⟩;rw[←AE.out];have hm:=hmf;obtain⟨gb,AH⟩:∃gb,Hid (w.heap.size=gb):=⟨_,yD rfl⟩;rw[AH.out] at AF cb;clear h hG hbig h0
 go_enter Tryz.func39,Tryz.ntmps39
 go_upto_region 1 with fail
 rw[AH.out];generalize w.alloc (.cells #[.pointer (some ⟨p,0,none⟩)] 73)=W0 at *;have HF:=yD (AI.out.fresh 133 #[.func (.func 81) #[] #[.pointer (some ⟨gb,0,none⟩)]]);have AC:Hid (Ext W0 (W0.alloc (.cells #[.func (.func 81) #[] #[.pointer (some ⟨gb,0,none⟩)]] 133))):=yD (Ext.alloc _ _)
 go_wp2_with fail
 refine(zLf _ p B s R 1 _ [⟨81,#[],#[.pointer (some ⟨gb,0,none⟩)],fun t=>vY (t.ts.length+1) t⟩] 1 (AI.out.ext AC.out) (by have:=AG.out; unfold Ps.phi at this; omega) (by simp) HF.out.row (fun f hf=>by
  rw[List.mem_singleton.1 hf]
  exact enters_of Tryz.func81 (by kernel_rfl) rfl) (fun k hk s' wr R' h1 h2 h3=>by
  obtain rfl:k=0:=by simp at hk; omega
  injection h1 with _ h1;subst h1
  exact zKj wr p B gb _ R' s.nd.length H0.out h3 (zRm HG.out 1) (by rw[zMD]; omega) (by
   have h1:=AG.out;unfold Ps.phi at h1 ⊢;rw[zMD]
   show s.nd.length+1+2*s.ts.length≤_
   omega) ((AF.out.ext AC.out).xJ h2))).mono ?_
 intro e w1 AA;rw[zCF] at AA
 rcases AA.unit with ⟨s',hr,rfl,ho⟩ | ⟨er,a,hr,he⟩
 ·have HR:Hid (AB=.ok () s'):=yD (AE.out.trans hr);have HO:=yD (OkP.trans (xH.ext (AD.out.trans AC.out)) ho);clear AA hr ho
  go_wp2_with fail
  go_end0;rw[HR.out];exact xI.ok HO.out
 ·have HE:=yD (VK.trans (xH.ext (AD.out.trans AC.out)) he);have HR:Hid (AB=.err er a):=yD (AE.out.trans hr);obtain⟨rfl,_⟩:=he;refine yZ (P:=Tryz.prog) (fn:=Tryz.f39) rfl ?_;rw[HR.out];exact HE.out
end Go.Proofs.YtioffpjajhalaaaGreatDoor
