/- The document's statements, the others. Condition: the nodes fit into memory. -/
import Derived.Test.YtioffpjajhalaaaGreatDoorKaa
import Derived.Test.YtioffpjajhalaaaGreatDoorKbh
import Derived.Test.YtioffpjajhalaaaGreatDoorKbi
set_option linter.unusedVariables false
set_option linter.unusedSimpArgs false
set_option maxRecDepth 100000
set_option maxHeartbeats 16000000
namespace Go.Proofs.YtioffpjajhalaaaGreatDoor
open Go Go.RowKit
theorem zKB (w:World)(p B:Nat)(r:Rs)(R:vJ)(f:Nat)(hst:YD f)(i:Nat)(h:QS w p B r R)(hi:i<r.s.nd.length)(hb:r.phi≤1000000)(hl:r.s.ts.length≤f+1)(hk:r.s.hd.kind=1)(hf:vP r.s.hd.text=some 12)(hc:(vW (r.s.nd.length) (Rs.adv (Rs.yX r (i) 12))).is [97,108,108]=true) :
  Calls Tryz.prog 160 #[.pointer (some ⟨p,0,none⟩),.int .i64 (i:Int)] w fun e w'=>e=.returned (.tuple #[])∧jO w p B R (xV (f+1) i r) w':=by
 have HB:=yE hb;have HI:=yE hi;have H0:=yE (xG.refl h);clear h hb hi;have AU:Hid (((YQ r.s.hd.text:Nat):Int)=12):=yE (by unfold YQ; rw[hf]; rfl);have AO:Hid (xV (f+1) i r=xD [59] (zEp (r.s.nd.length) (Rs.adv (Rs.yX r (i) 12)))):=yE (by rw[xV,if_pos hk,hf]; rfl);have AK:=yE hk;have x0:=H0.out.qs.x0;have x1:=H0.out.qs.x1;have t0:w.cell? ⟨R.bt,R.o0+R.I*5,none⟩=some (.int .u8 (r.s.hd.kind:Int)):=H0.out.qs.tok 0 (by decide);have AA:=H0.out.qs.few;have AB:=H0.out.qs.yY.last.pos;have qp:=H0.out.qs.pos;rw[hk] at t0;clear hk hf
 go_enter Tryz.func160,Tryz.ntmps160
 go_wp2_with fail
 go_quiet (fail)
 rename_i nq;have H1:=xG.drew H0 nq;clear x0 x1 t0 AA AB qp;generalize w.drewN nq=w1 at *
 go_wp2_with fail
 refine(ZR _ p B r R H1.out.qs).mono ?_;rintro e _ ⟨rfl,m,rfl⟩;have H2:=xG.drew H1 m;generalize w1.drewN m=w2 at *
 go_wp2_with fail
 refine(YB _ r.s.hd.text).mono ?_;rintro e w3 ⟨rfl,hx⟩;have H3:=xG.ext H2 hx;clear hx;rw[AU.out]
 go_wp2_with fail
 refine(jK _ p B _ R (i) H3.out.qs (HI.out) (JU (H3.out.bound HB.out (by omega)))).mono ?_;rintro e AW ⟨rfl,AI,hk,hm⟩;have HK:=yE (And.intro hk hm);clear hk hm
 go_wp2_with fail
 refine(jA _ p B _ AI (i) 12 HK.out.1 (H3.out.bound HB.out (by omega))).mono ?_;rintro e w4 ⟨rfl,hp⟩;obtain⟨R4,H4⟩:=xG.yX H3 HK hp;clear hp HK;have AR:Hid (r.s.nd.length<(Ps.nd (Rs.s (Rs.yX r (i) 12))).length):=yE (by rw[show(r.yX i 12).s.nd.length=r.s.nd.length+1 from xR r.s i 12]; omega);have AF:Hid (Tok.kind (Ps.hd (Rs.s (Rs.yX r (i) 12)))≠4):=yE (by show r.s.hd.kind≠4; rw[AK.out]; decide);have AX:Hid ((Rs.adv (Rs.yX r (i) 12)).s.ts.length≤f):=yE (by have h1:=H4.out.qs.yY.last.len AF.out; have h2:(Rs.adv (Rs.yX r (i) 12)).s.ts.length<r.s.ts.length:=h1; omega);have x1:=H4.out.qs.x1;have AE:=H4.out.qs.blk.frozen 1;have AA:=H4.out.qs.few;have AB:=H4.out.qs.yY.last.pos
 go_wp2_with fail
 have H5:=xG.adv H4 (AF.out);clear x1 AE AA AB;generalize w4.setCell ⟨p,1,none⟩ (.int .i64 ((R4.I:Int)+1))=w5 at *;generalize { R4 with I:=R4.I+1 } = R5 at *;have AG:Hid (r.s.nd.length<(Ps.nd (Rs.s (Rs.adv (Rs.yX r (i) 12)))).length):=yE (yS AR.out (xK.nd (jI H4.out.qs.yY (AF.out))));refine(VE _ p B _ R5 r.s.nd.length H5.out.qs (AG.out) (H5.out.bound HB.out (by omega))).mono ?_;rintro e w6 ⟨rfl,hp⟩;obtain⟨R6,H6⟩:=xG.go H5 (vY (r.s.nd.length)) hp;clear hp;have AN:Hid (r.s.nd.length<(Ps.nd (Rs.s (vW (r.s.nd.length) (Rs.adv (Rs.yX r (i) 12))))).length):=yE (yS AG.out (xK.nd (vY (r.s.nd.length) _ H5.out.qs.yY)))
 go_wp2_with fail
 have AM:=yE (zRt hc);have HC:=yE hc;clear hc;refine(vE _ p B _ R6 [97,108,108] true (HC) H6.out.qs).mono ?_;rintro e _ ⟨rfl,m,rfl⟩;have H7:=xG.drew H6 m;generalize w6.drewN m=w7 at *;have AH:=AN;obtain⟨g7,AC,hA,AP,AQ⟩:=H7.out.qs.YC (i:=r.s.nd.length) (AH.out);have x3:=H7.out.qs.x3 hA;have AD:=yE hA;have q0:(0:Int)≤((r.s.nd.length:Nat):Int):=Int.natCast_nonneg _
 have q1:((r.s.nd.length:Nat):Int)<(R6.nh.length:Int):=by omega
 clear hA;have c3:w7.cell? ⟨g7,r.s.nd.length*5+3,none⟩=some (.int .i64 (R6.nh[r.s.nd.length]'AC).1.num):=(H7.out.qs.jP _ AC AD.out 3 (by decide));have z3:=H7.out.qs.JZ (r.s.nd.length*5+3) AD.out
 go_upto_region 45 with fail
 obtain⟨R8,H8⟩:=xG.num (i:=r.s.nd.length) (g:=g7) H7 (1) AC AD.out;clear c3 z3 x3 q0 q1;generalize w7.setCell ⟨g7,r.s.nd.length*5+3,none⟩ (.int .i64 (1))=w8 at *;have AJ:Hid (r.s.nd.length<(Ps.nd (Rs.s (Rs.num (vW (r.s.nd.length) (Rs.adv (Rs.yX r (i) 12))) (r.s.nd.length) (1)))).length):=yE (yS AH.out (xK.nd (zD8 (r.s.nd.length) (1) _ H7.out.qs.yY)));have x1:=H8.out.qs.x1;have AE:=H8.out.qs.blk.frozen 1;have AA:=H8.out.qs.few;have AB:=H8.out.qs.yY.last.pos
 go_wp2_with fail
 have H9:=xG.adv H8 ((vS HC.out).1);clear x1 AE AA AB;generalize w8.setCell ⟨p,1,none⟩ (.int .i64 ((R8.I:Int)+1))=w9 at *;generalize { R8 with I:=R8.I+1 } = R9 at *;have AS:Hid (r.s.nd.length<(Ps.nd (Rs.s (Rs.adv (Rs.num (vW (r.s.nd.length) (Rs.adv (Rs.yX r (i) 12))) (r.s.nd.length) (1))))).length):=yE (yS AJ.out (xK.nd (jI H8.out.qs.yY ((vS HC.out).1))));refine(vF _ p B _ R9 [59] H9.out.qs).mono ?_;rintro e AY ⟨rfl,hp⟩;obtain⟨AV,AL⟩:=xG.go H9 (xJ [59]) hp;clear hp;have AT:Hid (r.s.nd.length<(Ps.nd (Rs.s (xD [59] (Rs.adv (Rs.num (vW (r.s.nd.length) (Rs.adv (Rs.yX r (i) 12))) (r.s.nd.length) (1)))))).length):=yE (yS AS.out (xK.nd (xJ [59] _ H9.out.qs.yY)))
 go_wp2_with fail
 go_end0;rw[AO.out,AM.out];exact⟨rfl,AL.out.post⟩
theorem zJF (w:World)(p B:Nat)(r:Rs)(R:vJ)(f:Nat)(hst:YD f)(i:Nat)(h:QS w p B r R)(hi:i<r.s.nd.length)(hb:r.phi≤1000000)(hl:r.s.ts.length≤f+1)(hk:r.s.hd.kind=1)(hf:vP r.s.hd.text=some 12)(hc:(vW (r.s.nd.length) (Rs.adv (Rs.yX r (i) 12))).is [97,108,108]=false) :
  Calls Tryz.prog 160 #[.pointer (some ⟨p,0,none⟩),.int .i64 (i:Int)] w fun e w'=>e=.returned (.tuple #[])∧jO w p B R (xV (f+1) i r) w':=by
 have HB:=yE hb;have HI:=yE hi;have H0:=yE (xG.refl h);clear h hb hi;have AN:Hid (((YQ r.s.hd.text:Nat):Int)=12):=yE (by unfold YQ; rw[hf]; rfl);have AK:Hid (xV (f+1) i r=xD [59] (zEp (r.s.nd.length) (Rs.adv (Rs.yX r (i) 12)))):=yE (by rw[xV,if_pos hk,hf]; rfl);have AG:=yE hk;have x0:=H0.out.qs.x0;have x1:=H0.out.qs.x1;have t0:w.cell? ⟨R.bt,R.o0+R.I*5,none⟩=some (.int .u8 (r.s.hd.kind:Int)):=H0.out.qs.tok 0 (by decide);have AA:=H0.out.qs.few;have AB:=H0.out.qs.yY.last.pos;have qp:=H0.out.qs.pos;rw[hk] at t0;clear hk hf
 go_enter Tryz.func160,Tryz.ntmps160
 go_wp2_with fail
 go_quiet (fail)
 rename_i nq;have H1:=xG.drew H0 nq;clear x0 x1 t0 AA AB qp;generalize w.drewN nq=w1 at *
 go_wp2_with fail
 refine(ZR _ p B r R H1.out.qs).mono ?_;rintro e _ ⟨rfl,m,rfl⟩;have H2:=xG.drew H1 m;generalize w1.drewN m=w2 at *
 go_wp2_with fail
 refine(YB _ r.s.hd.text).mono ?_;rintro e w3 ⟨rfl,hx⟩;have H3:=xG.ext H2 hx;clear hx;rw[AN.out]
 go_wp2_with fail
 refine(jK _ p B _ R (i) H3.out.qs (HI.out) (JU (H3.out.bound HB.out (by omega)))).mono ?_;rintro e AO ⟨rfl,AE,hk,hm⟩;have HK:=yE (And.intro hk hm);clear hk hm
 go_wp2_with fail
 refine(jA _ p B _ AE (i) 12 HK.out.1 (H3.out.bound HB.out (by omega))).mono ?_;rintro e w4 ⟨rfl,hp⟩;obtain⟨R4,H4⟩:=xG.yX H3 HK hp;clear hp HK;have AL:Hid (r.s.nd.length<(Ps.nd (Rs.s (Rs.yX r (i) 12))).length):=yE (by rw[show(r.yX i 12).s.nd.length=r.s.nd.length+1 from xR r.s i 12]; omega);have AC:Hid (Tok.kind (Ps.hd (Rs.s (Rs.yX r (i) 12)))≠4):=yE (by show r.s.hd.kind≠4; rw[AG.out]; decide);have AP:Hid ((Rs.adv (Rs.yX r (i) 12)).s.ts.length≤f):=yE (by have h1:=H4.out.qs.yY.last.len AC.out; have h2:(Rs.adv (Rs.yX r (i) 12)).s.ts.length<r.s.ts.length:=h1; omega);have x1:=H4.out.qs.x1;have AH:=H4.out.qs.blk.frozen 1;have AA:=H4.out.qs.few;have AB:=H4.out.qs.yY.last.pos
 go_wp2_with fail
 have H5:=xG.adv H4 (AC.out);clear x1 AH AA AB;generalize w4.setCell ⟨p,1,none⟩ (.int .i64 ((R4.I:Int)+1))=w5 at *;generalize { R4 with I:=R4.I+1 } = R5 at *;have AD:Hid (r.s.nd.length<(Ps.nd (Rs.s (Rs.adv (Rs.yX r (i) 12)))).length):=yE (yS AL.out (xK.nd (jI H4.out.qs.yY (AC.out))));refine(VE _ p B _ R5 r.s.nd.length H5.out.qs (AD.out) (H5.out.bound HB.out (by omega))).mono ?_;rintro e w6 ⟨rfl,hp⟩;obtain⟨R6,H6⟩:=xG.go H5 (vY (r.s.nd.length)) hp;clear hp;have AJ:Hid (r.s.nd.length<(Ps.nd (Rs.s (vW (r.s.nd.length) (Rs.adv (Rs.yX r (i) 12))))).length):=yE (yS AD.out (xK.nd (vY (r.s.nd.length) _ H5.out.qs.yY)))
 go_wp2_with fail
 have AI:=yE (zR3 hc);have HC:=yE hc;clear hc;refine(vE _ p B _ R6 [97,108,108] false (HC) H6.out.qs).mono ?_;rintro e _ ⟨rfl,m,rfl⟩;have H7:=xG.drew H6 m;generalize w6.drewN m=w7 at *;have AM:=AJ
 go_wp2_with fail
 refine(vF _ p B _ R6 [115,104,97,114,101,100] H7.out.qs).mono ?_;rintro e w8 ⟨rfl,hp⟩;obtain⟨R8,H8⟩:=xG.go H7 (xJ [115,104,97,114,101,100]) hp;clear hp;have AF:Hid (r.s.nd.length<(Ps.nd (Rs.s (xD [115,104,97,114,101,100] (vW (r.s.nd.length) (Rs.adv (Rs.yX r (i) 12)))))).length):=yE (yS AM.out (xK.nd (xJ [115,104,97,114,101,100] _ H7.out.qs.yY)))
 go_wp2_with fail
 refine(vF _ p B _ R8 [59] H8.out.qs).mono ?_;rintro e w9 ⟨rfl,hp⟩;obtain⟨R9,H9⟩:=xG.go H8 (xJ [59]) hp;clear hp;have AQ:Hid (r.s.nd.length<(Ps.nd (Rs.s (xD [59] (xD [115,104,97,114,101,100] (vW (r.s.nd.length) (Rs.adv (Rs.yX r (i) 12))))))).length):=yE (yS AF.out (xK.nd (xJ [59] _ H8.out.qs.yY)))
 go_wp2_with fail
 go_end0;rw[AK.out,AI.out];exact⟨rfl,H9.out.post⟩
theorem zHf (w:World)(p B:Nat)(r:Rs)(R:vJ)(f:Nat)(hst:YD f)(i:Nat)(h:QS w p B r R)(hi:i<r.s.nd.length)(hb:r.phi≤1000000)(hl:r.s.ts.length≤f+1)(hk:r.s.hd.kind=1)(hf:vP r.s.hd.text=some 13)(hc:(xM ((Ps.nd (Rs.s (Rs.adv (Rs.yX r (i) 13)))).length) (Rs.yX (Rs.adv (Rs.yX r (i) 13)) (r.s.nd.length) 5)).is [91]=true) :
  Calls Tryz.prog 160 #[.pointer (some ⟨p,0,none⟩),.int .i64 (i:Int)] w fun e w'=>e=.returned (.tuple #[])∧jO w p B R (xV (f+1) i r) w':=by
 have HB:=yE hb;have HI:=yE hi;have H0:=yE (xG.refl h);clear h hb hi;have Aa:Hid (((YQ r.s.hd.text:Nat):Int)=13):=yE (by unfold YQ; rw[hf]; rfl);have AZ:Hid (xV (f+1) i r=xD [59] (VX (r.s.nd.length) (Rs.adv (Rs.yX r (i) 13)))):=yE (by rw[xV,if_pos hk,hf]; rfl);have AX:=yE hk;have x0:=H0.out.qs.x0;have x1:=H0.out.qs.x1;have t0:w.cell? ⟨R.bt,R.o0+R.I*5,none⟩=some (.int .u8 (r.s.hd.kind:Int)):=H0.out.qs.tok 0 (by decide);have AB:=H0.out.qs.few;have AA:=H0.out.qs.yY.last.pos;have qp:=H0.out.qs.pos;rw[hk] at t0;clear hk hf
 go_enter Tryz.func160,Tryz.ntmps160
 go_wp2_with fail
 go_quiet (fail)
 rename_i nq;have H1:=xG.drew H0 nq;clear x0 x1 t0 AB AA qp;generalize w.drewN nq=w1 at *
 go_wp2_with fail
 refine(ZR _ p B r R H1.out.qs).mono ?_;rintro e _ ⟨rfl,m,rfl⟩;have H2:=xG.drew H1 m;generalize w1.drewN m=w2 at *
 go_wp2_with fail
 refine(YB _ r.s.hd.text).mono ?_;rintro e w3 ⟨rfl,hx⟩;have H3:=xG.ext H2 hx;clear hx;rw[Aa.out]
 go_wp2_with fail
 refine(jK _ p B _ R (i) H3.out.qs (HI.out) (JU (H3.out.bound HB.out (by omega)))).mono ?_;rintro e Af ⟨rfl,AV,hk,hm⟩;have HK:=yE (And.intro hk hm);clear hk hm
 go_wp2_with fail
 refine(jA _ p B _ AV (i) 13 HK.out.1 (H3.out.bound HB.out (by omega))).mono ?_;rintro e w4 ⟨rfl,hp⟩;obtain⟨R4,H4⟩:=xG.yX H3 HK hp;clear hp HK;have AT:Hid (r.s.nd.length<(Ps.nd (Rs.s (Rs.yX r (i) 13))).length):=yE (by rw[show(r.yX i 13).s.nd.length=r.s.nd.length+1 from xR r.s i 13]; omega);have AF:Hid (Tok.kind (Ps.hd (Rs.s (Rs.yX r (i) 13)))≠4):=yE (by show r.s.hd.kind≠4; rw[AX.out]; decide);have Ag:Hid ((Rs.adv (Rs.yX r (i) 13)).s.ts.length≤f):=yE (by have h1:=H4.out.qs.yY.last.len AF.out; have h2:(Rs.adv (Rs.yX r (i) 13)).s.ts.length<r.s.ts.length:=h1; omega);have x1:=H4.out.qs.x1;have AY:=H4.out.qs.blk.frozen 1;have AB:=H4.out.qs.few;have AA:=H4.out.qs.yY.last.pos
 go_wp2_with fail
 have H5:=xG.adv H4 (AF.out);clear x1 AY AB AA;generalize w4.setCell ⟨p,1,none⟩ (.int .i64 ((R4.I:Int)+1))=w5 at *;generalize { R4 with I:=R4.I+1 } = R5 at *;have AM:Hid (r.s.nd.length<(Ps.nd (Rs.s (Rs.adv (Rs.yX r (i) 13)))).length):=yE (yS AT.out (xK.nd (jI H4.out.qs.yY (AF.out))));have AS:=yE (zLQ hc);have HC:=yE hc;clear hc;refine(jK _ p B _ R5 (r.s.nd.length) H5.out.qs (AM.out) (JU (H5.out.bound HB.out (by omega)))).mono ?_;rintro e Ah ⟨rfl,AR,hk,hm⟩;have HK:=yE (And.intro hk hm);clear hk hm
 go_wp2_with fail
 refine(jA _ p B _ AR (r.s.nd.length) 5 HK.out.1 (H5.out.bound HB.out (by omega))).mono ?_;rintro e w6 ⟨rfl,hp⟩;obtain⟨R6,H6⟩:=xG.yX H5 HK hp;clear hp HK;have Ac:Hid (r.s.nd.length<(Ps.nd (Rs.s (Rs.yX (Rs.adv (Rs.yX r (i) 13)) (r.s.nd.length) 5))).length):=yE (yS AM.out (xK.nd (ZG H5.out.qs.yY (r.s.nd.length) 5)))
 go_wp2_with fail
 have AJ:Hid ((Ps.nd (Rs.s (Rs.adv (Rs.yX r (i) 13)))).length<(Ps.nd (Rs.s (Rs.yX (Rs.adv (Rs.yX r (i) 13)) (r.s.nd.length) 5))).length):=yE (by rw[show(Ps.nd (Rs.s (Rs.yX (Rs.adv (Rs.yX r (i) 13)) (r.s.nd.length) 5))).length=(Ps.nd (Rs.s (Rs.adv (Rs.yX r (i) 13)))).length+1 from xR _ _ _]; omega);obtain⟨g6,AE,hA,AU,AG⟩:=H6.out.qs.YC (i:=((Ps.nd (Rs.s (Rs.adv (Rs.yX r (i) 13)))).length)) (AJ.out);have x3:=H6.out.qs.x3 hA;have AD:=yE hA;have q0:(0:Int)≤((((Ps.nd (Rs.s (Rs.adv (Rs.yX r (i) 13)))).length):Nat):Int):=Int.natCast_nonneg _
 have q1:((((Ps.nd (Rs.s (Rs.adv (Rs.yX r (i) 13)))).length):Nat):Int)<(R6.nh.length:Int):=by omega
 clear hA
 go_region_held3 (fun w'=>w'.cell? ⟨p,3,none⟩=some (.slice (some ⟨g6,0,none⟩) R6.nh.length R6.c))
  (first
   | assumption
   | go_keep
   | exact AN _)
  (first
   | (go_at_call 123; refine(zBk _ p B _ R6 (H6.out.qs.ext (by first | exact Ext.refl _ | exact Below.drew (Below.refl _ _)))).mono ?_; rintro e AC ⟨rfl,I6,hq,hm⟩; have y1:AC.cell? ⟨p,3,none⟩=some (.slice (some ⟨g6,0,none⟩) R6.nh.length R6.c):=hq.x3 AD.out; have HN:=yE (And.intro hq hm); have c2:AC.cell? ⟨g6,((Ps.nd (Rs.s (Rs.adv (Rs.yX r (i) 13)))).length)*5+2,none⟩=some (.string (xE (R6.nh[((Ps.nd (Rs.s (Rs.adv (Rs.yX r (i) 13)))).length)]'AE).1.text)):=(hq.jP _ AE AD.out 2 (by decide)); have z2:AC.frozen? ⟨g6,((Ps.nd (Rs.s (Rs.adv (Rs.yX r (i) 13)))).length)*5+2,none⟩=false:=hq.JZ _ AD.out; have AN:∀u,(AC.setCell ⟨g6,((Ps.nd (Rs.s (Rs.adv (Rs.yX r (i) 13)))).length)*5+2,none⟩ u).cell? ⟨p,3,none⟩=some (.slice (some ⟨g6,0,none⟩) R6.nh.length R6.c):=fun u=>(World.cell?_of_block (w:=AC) (a:=⟨p,3,none⟩) (zQ AC ⟨g6,((Ps.nd (Rs.s (Rs.adv (Rs.yX r (i) 13)))).length)*5+2,none⟩ u p (fun e=>AG e.symm))).trans y1; clear hq hm)
   | (fail))
 obtain⟨R7,H7⟩:=xG.named (i:=((Ps.nd (Rs.s (Rs.adv (Rs.yX r (i) 13)))).length)) (g:=g6) H6 HN.out.1 ((yZ.ext (by first | exact Ext.refl _ | exact Below.drew (Below.refl _ _))).trans HN.out.2) AE AD.out;clear c2 z2 y1 AN x3 q0 q1 HN;generalize AC.setCell ⟨g6,((Ps.nd (Rs.s (Rs.adv (Rs.yX r (i) 13)))).length)*5+2,none⟩ (.string (xE (Rs.zAz (Rs.yX (Rs.adv (Rs.yX r (i) 13)) (r.s.nd.length) 5))))=w7 at *
 go_wp2_with fail
 have AL:Hid ((Ps.nd (Rs.s (Rs.adv (Rs.yX r (i) 13)))).length<(Ps.nd (Rs.s (xM (((Ps.nd (Rs.s (Rs.adv (Rs.yX r (i) 13)))).length)) (Rs.yX (Rs.adv (Rs.yX r (i) 13)) (r.s.nd.length) 5)))).length):=yE (yS AJ.out (jY _ _ H6.out.qs.yY).nd);refine(vE _ p B _ R7 [91] true (HC) H7.out.qs).mono ?_;rintro e _ ⟨rfl,m,rfl⟩;have H8:=xG.drew H7 m;generalize w7.drewN m=w8 at *;obtain⟨g8,AH,hA,AP,AQ⟩:=H8.out.qs.YC (i:=((Ps.nd (Rs.s (Rs.adv (Rs.yX r (i) 13)))).length)) (AL.out);have x3:=H8.out.qs.x3 hA;have AI:=yE hA;have q0:(0:Int)≤((((Ps.nd (Rs.s (Rs.adv (Rs.yX r (i) 13)))).length):Nat):Int):=Int.natCast_nonneg _
 have q1:((((Ps.nd (Rs.s (Rs.adv (Rs.yX r (i) 13)))).length):Nat):Int)<(R7.nh.length:Int):=by omega
 clear hA;have c0:w8.cell? ⟨g8,((Ps.nd (Rs.s (Rs.adv (Rs.yX r (i) 13)))).length)*5,none⟩=some (.int .u8 ((R7.nh[((Ps.nd (Rs.s (Rs.adv (Rs.yX r (i) 13)))).length)]'AH).1.kind:Int)):=(H8.out.qs.jP _ AH AI.out 0 (by decide));have z0:=H8.out.qs.JZ (((Ps.nd (Rs.s (Rs.adv (Rs.yX r (i) 13)))).length)*5) AI.out
 go_wp2_with fail
 obtain⟨R9,H9⟩:=xG.kind (i:=((Ps.nd (Rs.s (Rs.adv (Rs.yX r (i) 13)))).length)) (g:=g8) H8 20 AH AI.out;clear c0 z0 x3 q0 q1;generalize w8.setCell ⟨g8,((Ps.nd (Rs.s (Rs.adv (Rs.yX r (i) 13)))).length)*5,none⟩ (.int .u8 20)=w9 at *;refine(zGn _ p B _ R9 ((Ps.nd (Rs.s (Rs.adv (Rs.yX r (i) 13)))).length) H9.out.qs (yS AL.out (zJ8 H8.out.qs.yY ((Ps.nd (Rs.s (Rs.adv (Rs.yX r (i) 13)))).length) (fun n=>{ n with kind:=20 }) fun _=>rfl).nd) (H9.out.bound HB.out (by omega))).mono ?_;rintro e Ae ⟨rfl,hp⟩;obtain⟨AW,AK⟩:=xG.go H9 (zDl ((Ps.nd (Rs.s (Rs.adv (Rs.yX r (i) 13)))).length)) hp;clear hp
 go_wp2_with fail
 refine(vF _ p B _ AW [59] AK.out.qs).mono ?_;rintro e Ad ⟨rfl,hp⟩;obtain⟨Ab,AO⟩:=xG.go AK (xJ [59]) hp;clear hp
 go_wp2_with fail
 go_end0;rw[AZ.out,AS.out];exact⟨rfl,AO.out.post⟩
theorem zGE (w:World)(p B:Nat)(r:Rs)(R:vJ)(f:Nat)(hst:YD f)(i:Nat)(h:QS w p B r R)(hi:i<r.s.nd.length)(hb:r.phi≤1000000)(hl:r.s.ts.length≤f+1)(hk:r.s.hd.kind=1)(hf:vP r.s.hd.text=some 13)(hc:(xM ((Ps.nd (Rs.s (Rs.adv (Rs.yX r (i) 13)))).length) (Rs.yX (Rs.adv (Rs.yX r (i) 13)) (r.s.nd.length) 5)).is [91]=false) :
  Calls Tryz.prog 160 #[.pointer (some ⟨p,0,none⟩),.int .i64 (i:Int)] w fun e w'=>e=.returned (.tuple #[])∧jO w p B R (xV (f+1) i r) w':=by
 have HB:=yE hb;have HI:=yE hi;have H0:=yE (xG.refl h);clear h hb hi;have AS:Hid (((YQ r.s.hd.text:Nat):Int)=13):=yE (by unfold YQ; rw[hf]; rfl);have AR:Hid (xV (f+1) i r=xD [59] (VX (r.s.nd.length) (Rs.adv (Rs.yX r (i) 13)))):=yE (by rw[xV,if_pos hk,hf]; rfl);have AP:=yE hk;have x0:=H0.out.qs.x0;have x1:=H0.out.qs.x1;have t0:w.cell? ⟨R.bt,R.o0+R.I*5,none⟩=some (.int .u8 (r.s.hd.kind:Int)):=H0.out.qs.tok 0 (by decide);have AB:=H0.out.qs.few;have AA:=H0.out.qs.yY.last.pos;have qp:=H0.out.qs.pos;rw[hk] at t0;clear hk hf
 go_enter Tryz.func160,Tryz.ntmps160
 go_wp2_with fail
 go_quiet (fail)
 rename_i nq;have H1:=xG.drew H0 nq;clear x0 x1 t0 AB AA qp;generalize w.drewN nq=w1 at *
 go_wp2_with fail
 refine(ZR _ p B r R H1.out.qs).mono ?_;rintro e _ ⟨rfl,m,rfl⟩;have H2:=xG.drew H1 m;generalize w1.drewN m=w2 at *
 go_wp2_with fail
 refine(YB _ r.s.hd.text).mono ?_;rintro e w3 ⟨rfl,hx⟩;have H3:=xG.ext H2 hx;clear hx;rw[AS.out]
 go_wp2_with fail
 refine(jK _ p B _ R (i) H3.out.qs (HI.out) (JU (H3.out.bound HB.out (by omega)))).mono ?_;rintro e AV ⟨rfl,AO,hk,hm⟩;have HK:=yE (And.intro hk hm);clear hk hm
 go_wp2_with fail
 refine(jA _ p B _ AO (i) 13 HK.out.1 (H3.out.bound HB.out (by omega))).mono ?_;rintro e w4 ⟨rfl,hp⟩;obtain⟨R4,H4⟩:=xG.yX H3 HK hp;clear hp HK;have AM:Hid (r.s.nd.length<(Ps.nd (Rs.s (Rs.yX r (i) 13))).length):=yE (by rw[show(r.yX i 13).s.nd.length=r.s.nd.length+1 from xR r.s i 13]; omega);have AF:Hid (Tok.kind (Ps.hd (Rs.s (Rs.yX r (i) 13)))≠4):=yE (by show r.s.hd.kind≠4; rw[AP.out]; decide);have AW:Hid ((Rs.adv (Rs.yX r (i) 13)).s.ts.length≤f):=yE (by have h1:=H4.out.qs.yY.last.len AF.out; have h2:(Rs.adv (Rs.yX r (i) 13)).s.ts.length<r.s.ts.length:=h1; omega);have x1:=H4.out.qs.x1;have AQ:=H4.out.qs.blk.frozen 1;have AB:=H4.out.qs.few;have AA:=H4.out.qs.yY.last.pos
 go_wp2_with fail
 have H5:=xG.adv H4 (AF.out);clear x1 AQ AB AA;generalize w4.setCell ⟨p,1,none⟩ (.int .i64 ((R4.I:Int)+1))=w5 at *;generalize { R4 with I:=R4.I+1 } = R5 at *;have AI:Hid (r.s.nd.length<(Ps.nd (Rs.s (Rs.adv (Rs.yX r (i) 13)))).length):=yE (yS AM.out (xK.nd (jI H4.out.qs.yY (AF.out))));have AL:=yE (zMF hc);have HC:=yE hc;clear hc;refine(jK _ p B _ R5 (r.s.nd.length) H5.out.qs (AI.out) (JU (H5.out.bound HB.out (by omega)))).mono ?_;rintro e AX ⟨rfl,AK,hk,hm⟩;have HK:=yE (And.intro hk hm);clear hk hm
 go_wp2_with fail
 refine(jA _ p B _ AK (r.s.nd.length) 5 HK.out.1 (H5.out.bound HB.out (by omega))).mono ?_;rintro e w6 ⟨rfl,hp⟩;obtain⟨R6,H6⟩:=xG.yX H5 HK hp;clear hp HK;have AT:Hid (r.s.nd.length<(Ps.nd (Rs.s (Rs.yX (Rs.adv (Rs.yX r (i) 13)) (r.s.nd.length) 5))).length):=yE (yS AI.out (xK.nd (ZG H5.out.qs.yY (r.s.nd.length) 5)))
 go_wp2_with fail
 have AH:Hid ((Ps.nd (Rs.s (Rs.adv (Rs.yX r (i) 13)))).length<(Ps.nd (Rs.s (Rs.yX (Rs.adv (Rs.yX r (i) 13)) (r.s.nd.length) 5))).length):=yE (by rw[show(Ps.nd (Rs.s (Rs.yX (Rs.adv (Rs.yX r (i) 13)) (r.s.nd.length) 5))).length=(Ps.nd (Rs.s (Rs.adv (Rs.yX r (i) 13)))).length+1 from xR _ _ _]; omega);obtain⟨g6,AE,hA,AN,AG⟩:=H6.out.qs.YC (i:=((Ps.nd (Rs.s (Rs.adv (Rs.yX r (i) 13)))).length)) (AH.out);have x3:=H6.out.qs.x3 hA;have AD:=yE hA;have q0:(0:Int)≤((((Ps.nd (Rs.s (Rs.adv (Rs.yX r (i) 13)))).length):Nat):Int):=Int.natCast_nonneg _
 have q1:((((Ps.nd (Rs.s (Rs.adv (Rs.yX r (i) 13)))).length):Nat):Int)<(R6.nh.length:Int):=by omega
 clear hA
 go_region_held3 (fun w'=>w'.cell? ⟨p,3,none⟩=some (.slice (some ⟨g6,0,none⟩) R6.nh.length R6.c))
  (first
   | assumption
   | go_keep
   | exact AJ _)
  (first
   | (go_at_call 123; refine(zBk _ p B _ R6 (H6.out.qs.ext (by first | exact Ext.refl _ | exact Below.drew (Below.refl _ _)))).mono ?_; rintro e AC ⟨rfl,I6,hq,hm⟩; have y1:AC.cell? ⟨p,3,none⟩=some (.slice (some ⟨g6,0,none⟩) R6.nh.length R6.c):=hq.x3 AD.out; have HN:=yE (And.intro hq hm); have c2:AC.cell? ⟨g6,((Ps.nd (Rs.s (Rs.adv (Rs.yX r (i) 13)))).length)*5+2,none⟩=some (.string (xE (R6.nh[((Ps.nd (Rs.s (Rs.adv (Rs.yX r (i) 13)))).length)]'AE).1.text)):=(hq.jP _ AE AD.out 2 (by decide)); have z2:AC.frozen? ⟨g6,((Ps.nd (Rs.s (Rs.adv (Rs.yX r (i) 13)))).length)*5+2,none⟩=false:=hq.JZ _ AD.out; have AJ:∀u,(AC.setCell ⟨g6,((Ps.nd (Rs.s (Rs.adv (Rs.yX r (i) 13)))).length)*5+2,none⟩ u).cell? ⟨p,3,none⟩=some (.slice (some ⟨g6,0,none⟩) R6.nh.length R6.c):=fun u=>(World.cell?_of_block (w:=AC) (a:=⟨p,3,none⟩) (zQ AC ⟨g6,((Ps.nd (Rs.s (Rs.adv (Rs.yX r (i) 13)))).length)*5+2,none⟩ u p (fun e=>AG e.symm))).trans y1; clear hq hm)
   | (fail))
 obtain⟨R7,H7⟩:=xG.named (i:=((Ps.nd (Rs.s (Rs.adv (Rs.yX r (i) 13)))).length)) (g:=g6) H6 HN.out.1 ((yZ.ext (by first | exact Ext.refl _ | exact Below.drew (Below.refl _ _))).trans HN.out.2) AE AD.out;clear c2 z2 y1 AJ x3 q0 q1 HN;generalize AC.setCell ⟨g6,((Ps.nd (Rs.s (Rs.adv (Rs.yX r (i) 13)))).length)*5+2,none⟩ (.string (xE (Rs.zAz (Rs.yX (Rs.adv (Rs.yX r (i) 13)) (r.s.nd.length) 5))))=w7 at *
 go_wp2_with fail
 have AU:Hid ((Ps.nd (Rs.s (Rs.adv (Rs.yX r (i) 13)))).length<(Ps.nd (Rs.s (xM (((Ps.nd (Rs.s (Rs.adv (Rs.yX r (i) 13)))).length)) (Rs.yX (Rs.adv (Rs.yX r (i) 13)) (r.s.nd.length) 5)))).length):=yE (yS AH.out (jY _ _ H6.out.qs.yY).nd);refine(vE _ p B _ R7 [91] false (HC) H7.out.qs).mono ?_;rintro e _ ⟨rfl,m,rfl⟩;have H8:=xG.drew H7 m;generalize w7.drewN m=w8 at *
 go_wp2_with fail
 refine(vF _ p B _ R7 [59] H8.out.qs).mono ?_;rintro e w9 ⟨rfl,hp⟩;obtain⟨R9,H9⟩:=xG.go H8 (xJ [59]) hp;clear hp
 go_wp2_with fail
 go_end0;rw[AR.out,AL.out];exact⟨rfl,H9.out.post⟩
theorem zUI (w:World)(p B:Nat)(r:Rs)(R:vJ)(f:Nat)(hst:YD f)(i:Nat)(h:QS w p B r R)(hi:i<r.s.nd.length)(hb:r.phi≤1000000)(hl:r.s.ts.length≤f+1)(hk:r.s.hd.kind=1)(hf:vP r.s.hd.text=some 14) :
  Calls Tryz.prog 160 #[.pointer (some ⟨p,0,none⟩),.int .i64 (i:Int)] w fun e w'=>e=.returned (.tuple #[])∧jO w p B R (xV (f+1) i r) w':=by
 have HB:=yE hb;have HI:=yE hi;have H0:=yE (xG.refl h);clear h hb hi;have AK:Hid (((YQ r.s.hd.text:Nat):Int)=14):=yE (by unfold YQ; rw[hf]; rfl);have AI:Hid (xV (f+1) i r=XT (xV f) (r.s.nd.length) (Rs.adv (Rs.yX r (i) 14))):=yE (by rw[xV,if_pos hk,hf]; rfl);have AF:=yE hk;have x0:=H0.out.qs.x0;have x1:=H0.out.qs.x1;have t0:w.cell? ⟨R.bt,R.o0+R.I*5,none⟩=some (.int .u8 (r.s.hd.kind:Int)):=H0.out.qs.tok 0 (by decide);have AA:=H0.out.qs.few;have AB:=H0.out.qs.yY.last.pos;have qp:=H0.out.qs.pos;rw[hk] at t0;clear hk hf
 go_enter Tryz.func160,Tryz.ntmps160
 go_wp2_with fail
 go_quiet (fail)
 rename_i nq;have H1:=xG.drew H0 nq;clear x0 x1 t0 AA AB qp;generalize w.drewN nq=w1 at *
 go_wp2_with fail
 refine(ZR _ p B r R H1.out.qs).mono ?_;rintro e _ ⟨rfl,m,rfl⟩;have H2:=xG.drew H1 m;generalize w1.drewN m=w2 at *
 go_wp2_with fail
 refine(YB _ r.s.hd.text).mono ?_;rintro e w3 ⟨rfl,hx⟩;have H3:=xG.ext H2 hx;clear hx;rw[AK.out]
 go_wp2_with fail
 refine(jK _ p B _ R (i) H3.out.qs (HI.out) (JU (H3.out.bound HB.out (by omega)))).mono ?_;rintro e AL ⟨rfl,AE,hk,hm⟩;have HK:=yE (And.intro hk hm);clear hk hm
 go_wp2_with fail
 refine(jA _ p B _ AE (i) 14 HK.out.1 (H3.out.bound HB.out (by omega))).mono ?_;rintro e w4 ⟨rfl,hp⟩;obtain⟨R4,H4⟩:=xG.yX H3 HK hp;clear hp HK;have AJ:Hid (r.s.nd.length<(Ps.nd (Rs.s (Rs.yX r (i) 14))).length):=yE (by rw[show(r.yX i 14).s.nd.length=r.s.nd.length+1 from xR r.s i 14]; omega);have AC:Hid (Tok.kind (Ps.hd (Rs.s (Rs.yX r (i) 14)))≠4):=yE (by show r.s.hd.kind≠4; rw[AF.out]; decide);have AH:Hid ((Rs.adv (Rs.yX r (i) 14)).s.ts.length≤f):=yE (by have h1:=H4.out.qs.yY.last.len AC.out; have h2:(Rs.adv (Rs.yX r (i) 14)).s.ts.length<r.s.ts.length:=h1; omega);have x1:=H4.out.qs.x1;have AG:=H4.out.qs.blk.frozen 1;have AA:=H4.out.qs.few;have AB:=H4.out.qs.yY.last.pos
 go_wp2_with fail
 have H5:=xG.adv H4 (AC.out);clear x1 AG AA AB;generalize w4.setCell ⟨p,1,none⟩ (.int .i64 ((R4.I:Int)+1))=w5 at *;generalize { R4 with I:=R4.I+1 } = R5 at *;have AD:Hid (r.s.nd.length<(Ps.nd (Rs.s (Rs.adv (Rs.yX r (i) 14)))).length):=yE (yS AJ.out (xK.nd (jI H4.out.qs.yY (AC.out))));refine(zOE _ p B _ R5 f hst (r.s.nd.length) H5.out.qs (AD.out) (H5.out.bound HB.out (by omega)) (AH.out)).mono ?_;rintro e w6 ⟨rfl,hp⟩;obtain⟨R6,H6⟩:=xG.go H5 (zFI (ZB f) (r.s.nd.length)) hp;clear hp;have AM:Hid (r.s.nd.length<(Ps.nd (Rs.s (XT (xV f) (r.s.nd.length) (Rs.adv (Rs.yX r (i) 14))))).length):=yE (yS AD.out (xK.nd (zFI (ZB f) (r.s.nd.length) _ H5.out.qs.yY)))
 go_wp2_with fail
 refine bodyPost_ret (results_none rfl _ _ _) rfl ?_;rw[AI.out];exact⟨rfl,H6.out.post⟩
theorem zTF (w:World)(p B:Nat)(r:Rs)(R:vJ)(f:Nat)(hst:YD f)(i:Nat)(h:QS w p B r R)(hi:i<r.s.nd.length)(hb:r.phi≤1000000)(hl:r.s.ts.length≤f+1)(hk:r.s.hd.kind=1)(hf:vP r.s.hd.text=some 15) :
  Calls Tryz.prog 160 #[.pointer (some ⟨p,0,none⟩),.int .i64 (i:Int)] w fun e w'=>e=.returned (.tuple #[])∧jO w p B R (xV (f+1) i r) w':=by
 have HB:=yE hb;have HI:=yE hi;have H0:=yE (xG.refl h);clear h hb hi;have AK:Hid (((YQ r.s.hd.text:Nat):Int)=15):=yE (by unfold YQ; rw[hf]; rfl);have AI:Hid (xV (f+1) i r=zKc (xV f) (r.s.nd.length) (Rs.adv (Rs.yX r (i) 15))):=yE (by rw[xV,if_pos hk,hf]; rfl);have AF:=yE hk;have x0:=H0.out.qs.x0;have x1:=H0.out.qs.x1;have t0:w.cell? ⟨R.bt,R.o0+R.I*5,none⟩=some (.int .u8 (r.s.hd.kind:Int)):=H0.out.qs.tok 0 (by decide);have AA:=H0.out.qs.few;have AB:=H0.out.qs.yY.last.pos;have qp:=H0.out.qs.pos;rw[hk] at t0;clear hk hf
 go_enter Tryz.func160,Tryz.ntmps160
 go_wp2_with fail
 go_quiet (fail)
 rename_i nq;have H1:=xG.drew H0 nq;clear x0 x1 t0 AA AB qp;generalize w.drewN nq=w1 at *
 go_wp2_with fail
 refine(ZR _ p B r R H1.out.qs).mono ?_;rintro e _ ⟨rfl,m,rfl⟩;have H2:=xG.drew H1 m;generalize w1.drewN m=w2 at *
 go_wp2_with fail
 refine(YB _ r.s.hd.text).mono ?_;rintro e w3 ⟨rfl,hx⟩;have H3:=xG.ext H2 hx;clear hx;rw[AK.out]
 go_wp2_with fail
 refine(jK _ p B _ R (i) H3.out.qs (HI.out) (JU (H3.out.bound HB.out (by omega)))).mono ?_;rintro e AL ⟨rfl,AE,hk,hm⟩;have HK:=yE (And.intro hk hm);clear hk hm
 go_wp2_with fail
 refine(jA _ p B _ AE (i) 15 HK.out.1 (H3.out.bound HB.out (by omega))).mono ?_;rintro e w4 ⟨rfl,hp⟩;obtain⟨R4,H4⟩:=xG.yX H3 HK hp;clear hp HK;have AJ:Hid (r.s.nd.length<(Ps.nd (Rs.s (Rs.yX r (i) 15))).length):=yE (by rw[show(r.yX i 15).s.nd.length=r.s.nd.length+1 from xR r.s i 15]; omega);have AC:Hid (Tok.kind (Ps.hd (Rs.s (Rs.yX r (i) 15)))≠4):=yE (by show r.s.hd.kind≠4; rw[AF.out]; decide);have AH:Hid ((Rs.adv (Rs.yX r (i) 15)).s.ts.length≤f):=yE (by have h1:=H4.out.qs.yY.last.len AC.out; have h2:(Rs.adv (Rs.yX r (i) 15)).s.ts.length<r.s.ts.length:=h1; omega);have x1:=H4.out.qs.x1;have AG:=H4.out.qs.blk.frozen 1;have AA:=H4.out.qs.few;have AB:=H4.out.qs.yY.last.pos
 go_wp2_with fail
 have H5:=xG.adv H4 (AC.out);clear x1 AG AA AB;generalize w4.setCell ⟨p,1,none⟩ (.int .i64 ((R4.I:Int)+1))=w5 at *;generalize { R4 with I:=R4.I+1 } = R5 at *;have AD:Hid (r.s.nd.length<(Ps.nd (Rs.s (Rs.adv (Rs.yX r (i) 15)))).length):=yE (yS AJ.out (xK.nd (jI H4.out.qs.yY (AC.out))));refine(zSU _ p B _ R5 f hst (r.s.nd.length) H5.out.qs (AD.out) (H5.out.bound HB.out (by omega)) (AH.out)).mono ?_;rintro e w6 ⟨rfl,hp⟩;obtain⟨R6,H6⟩:=xG.go H5 (zKb (ZB f) (r.s.nd.length)) hp;clear hp;have AM:Hid (r.s.nd.length<(Ps.nd (Rs.s (zKc (xV f) (r.s.nd.length) (Rs.adv (Rs.yX r (i) 15))))).length):=yE (yS AD.out (xK.nd (zKb (ZB f) (r.s.nd.length) _ H5.out.qs.yY)))
 go_wp2_with fail
 refine bodyPost_ret (results_none rfl _ _ _) rfl ?_;rw[AI.out];exact⟨rfl,H6.out.post⟩
theorem zTt (w:World)(p B:Nat)(r:Rs)(R:vJ)(f:Nat)(hst:YD f)(i:Nat)(h:QS w p B r R)(hi:i<r.s.nd.length)(hb:r.phi≤1000000)(hl:r.s.ts.length≤f+1)(hk:r.s.hd.kind=1)(hf:vP r.s.hd.text=some 16) :
  Calls Tryz.prog 160 #[.pointer (some ⟨p,0,none⟩),.int .i64 (i:Int)] w fun e w'=>e=.returned (.tuple #[])∧jO w p B R (xV (f+1) i r) w':=by
 have HB:=yE hb;have HI:=yE hi;have H0:=yE (xG.refl h);clear h hb hi;have AS:Hid (((YQ r.s.hd.text:Nat):Int)=16):=yE (by unfold YQ; rw[hf]; rfl);have AR:Hid (xV (f+1) i r=xD [59] (zSL (r.s.nd.length) (Rs.adv (Rs.yX r (i) 16)))):=yE (by rw[xV,if_pos hk,hf]; rfl);have AP:=yE hk;have x0:=H0.out.qs.x0;have x1:=H0.out.qs.x1;have t0:w.cell? ⟨R.bt,R.o0+R.I*5,none⟩=some (.int .u8 (r.s.hd.kind:Int)):=H0.out.qs.tok 0 (by decide);have AB:=H0.out.qs.few;have AC:=H0.out.qs.yY.last.pos;have qp:=H0.out.qs.pos;rw[hk] at t0;clear hk hf
 go_enter Tryz.func160,Tryz.ntmps160
 go_wp2_with fail
 go_quiet (fail)
 rename_i nq;have H1:=xG.drew H0 nq;clear x0 x1 t0 AB AC qp;generalize w.drewN nq=w1 at *
 go_wp2_with fail
 refine(ZR _ p B r R H1.out.qs).mono ?_;rintro e _ ⟨rfl,m,rfl⟩;have H2:=xG.drew H1 m;generalize w1.drewN m=w2 at *
 go_wp2_with fail
 refine(YB _ r.s.hd.text).mono ?_;rintro e w3 ⟨rfl,hx⟩;have H3:=xG.ext H2 hx;clear hx;rw[AS.out]
 go_wp2_with fail
 refine(jK _ p B _ R (i) H3.out.qs (HI.out) (JU (H3.out.bound HB.out (by omega)))).mono ?_;rintro e AU ⟨rfl,AO,hk,hm⟩;have HK:=yE (And.intro hk hm);clear hk hm
 go_wp2_with fail
 refine(jA _ p B _ AO (i) 16 HK.out.1 (H3.out.bound HB.out (by omega))).mono ?_;rintro e w4 ⟨rfl,hp⟩;obtain⟨R4,H4⟩:=xG.yX H3 HK hp;clear hp HK;have AN:Hid (r.s.nd.length<(Ps.nd (Rs.s (Rs.yX r (i) 16))).length):=yE (by rw[show(r.yX i 16).s.nd.length=r.s.nd.length+1 from xR r.s i 16]; omega);have AF:Hid (Tok.kind (Ps.hd (Rs.s (Rs.yX r (i) 16)))≠4):=yE (by show r.s.hd.kind≠4; rw[AP.out]; decide);have AV:Hid ((Rs.adv (Rs.yX r (i) 16)).s.ts.length≤f):=yE (by have h1:=H4.out.qs.yY.last.len AF.out; have h2:(Rs.adv (Rs.yX r (i) 16)).s.ts.length<r.s.ts.length:=h1; omega);have x1:=H4.out.qs.x1;have AQ:=H4.out.qs.blk.frozen 1;have AB:=H4.out.qs.few;have AC:=H4.out.qs.yY.last.pos
 go_wp2_with fail
 have H5:=xG.adv H4 (AF.out);clear x1 AQ AB AC;generalize w4.setCell ⟨p,1,none⟩ (.int .i64 ((R4.I:Int)+1))=w5 at *;generalize { R4 with I:=R4.I+1 } = R5 at *;have AH:Hid (r.s.nd.length<(Ps.nd (Rs.s (Rs.adv (Rs.yX r (i) 16)))).length):=yE (yS AN.out (xK.nd (jI H4.out.qs.yY (AF.out))));obtain⟨g5,AG,hA,AL,AE⟩:=H5.out.qs.YC (i:=r.s.nd.length) (AH.out);have x3:=H5.out.qs.x3 hA;have AD:=yE hA;have q0:(0:Int)≤((r.s.nd.length:Nat):Int):=Int.natCast_nonneg _
 have q1:((r.s.nd.length:Nat):Int)<(R5.nh.length:Int):=by omega
 clear hA
 go_region_held3 (fun w'=>w'.cell? ⟨p,3,none⟩=some (.slice (some ⟨g5,0,none⟩) R5.nh.length R5.c))
  (first
   | assumption
   | go_keep
   | exact AJ _)
  (first
   | (go_at_call 123; refine(zBk _ p B _ R5 (H5.out.qs.ext (by first | exact Ext.refl _ | exact Below.drew (Below.refl _ _)))).mono ?_; rintro e AA ⟨rfl,I5,hq,hm⟩; have y1:AA.cell? ⟨p,3,none⟩=some (.slice (some ⟨g5,0,none⟩) R5.nh.length R5.c):=hq.x3 AD.out; have HN:=yE (And.intro hq hm); have c2:AA.cell? ⟨g5,r.s.nd.length*5+2,none⟩=some (.string (xE (R5.nh[r.s.nd.length]'AG).1.text)):=(hq.jP _ AG AD.out 2 (by decide)); have z2:AA.frozen? ⟨g5,r.s.nd.length*5+2,none⟩=false:=hq.JZ _ AD.out; have AJ:∀u,(AA.setCell ⟨g5,r.s.nd.length*5+2,none⟩ u).cell? ⟨p,3,none⟩=some (.slice (some ⟨g5,0,none⟩) R5.nh.length R5.c):=fun u=>(World.cell?_of_block (w:=AA) (a:=⟨p,3,none⟩) (zQ AA ⟨g5,r.s.nd.length*5+2,none⟩ u p (fun e=>AE e.symm))).trans y1; clear hq hm)
   | (fail))
 obtain⟨R6,H6⟩:=xG.named (i:=r.s.nd.length) (g:=g5) H5 HN.out.1 ((yZ.ext (by first | exact Ext.refl _ | exact Below.drew (Below.refl _ _))).trans HN.out.2) AG AD.out;clear c2 z2 y1 AJ x3 q0 q1 HN;generalize AA.setCell ⟨g5,r.s.nd.length*5+2,none⟩ (.string (xE (Rs.zAz (Rs.adv (Rs.yX r (i) 16)))))=w6 at *;have AM:Hid (r.s.nd.length<(Ps.nd (Rs.s (xM (r.s.nd.length) (Rs.adv (Rs.yX r (i) 16))))).length):=yE (yS AH.out (xK.nd (jY (r.s.nd.length) _ H5.out.qs.yY)))
 go_wp2_with fail
 refine(vF _ p B _ R6 [61] H6.out.qs).mono ?_;rintro e w7 ⟨rfl,hp⟩;obtain⟨R7,H7⟩:=xG.go H6 (xJ [61]) hp;clear hp;have AI:Hid (r.s.nd.length<(Ps.nd (Rs.s (xD [61] (xM (r.s.nd.length) (Rs.adv (Rs.yX r (i) 16)))))).length):=yE (yS AM.out (xK.nd (xJ [61] _ H6.out.qs.yY)))
 go_wp2_with fail
 refine(XK _ p B _ R7 r.s.nd.length H7.out.qs (AI.out) (H7.out.bound HB.out (by omega))).mono ?_;rintro e w8 ⟨rfl,hp⟩;obtain⟨R8,H8⟩:=xG.go H7 (jQ (r.s.nd.length)) hp;clear hp;have AK:Hid (r.s.nd.length<(Ps.nd (Rs.s (vU (r.s.nd.length) (xD [61] (xM (r.s.nd.length) (Rs.adv (Rs.yX r (i) 16))))))).length):=yE (yS AI.out (xK.nd (jQ (r.s.nd.length) _ H7.out.qs.yY)))
 go_wp2_with fail
 refine(vF _ p B _ R8 [59] H8.out.qs).mono ?_;rintro e w9 ⟨rfl,hp⟩;obtain⟨R9,H9⟩:=xG.go H8 (xJ [59]) hp;clear hp;have AT:Hid (r.s.nd.length<(Ps.nd (Rs.s (xD [59] (vU (r.s.nd.length) (xD [61] (xM (r.s.nd.length) (Rs.adv (Rs.yX r (i) 16)))))))).length):=yE (yS AK.out (xK.nd (xJ [59] _ H8.out.qs.yY)))
 go_wp2_with fail
 go_end0;rw[AR.out];exact⟨rfl,H9.out.post⟩
theorem zSb (w:World)(p B:Nat)(r:Rs)(R:vJ)(f:Nat)(hst:YD f)(i:Nat)(h:QS w p B r R)(hi:i<r.s.nd.length)(hb:r.phi≤1000000)(hl:r.s.ts.length≤f+1)(hk:r.s.hd.kind=1)(hf:vP r.s.hd.text=some 17) :
  Calls Tryz.prog 160 #[.pointer (some ⟨p,0,none⟩),.int .i64 (i:Int)] w fun e w'=>e=.returned (.tuple #[])∧jO w p B R (xV (f+1) i r) w':=by
 have HB:=yE hb;have HI:=yE hi;have H0:=yE (xG.refl h);clear h hb hi;have AK:Hid (((YQ r.s.hd.text:Nat):Int)=17):=yE (by unfold YQ; rw[hf]; rfl);have AI:Hid (xV (f+1) i r=xD [59] (vU (r.s.nd.length) (Rs.adv (Rs.yX r (i) 17)))):=yE (by rw[xV,if_pos hk,hf]; rfl);have AF:=yE hk;have x0:=H0.out.qs.x0;have x1:=H0.out.qs.x1;have t0:w.cell? ⟨R.bt,R.o0+R.I*5,none⟩=some (.int .u8 (r.s.hd.kind:Int)):=H0.out.qs.tok 0 (by decide);have AA:=H0.out.qs.few;have AB:=H0.out.qs.yY.last.pos;have qp:=H0.out.qs.pos;rw[hk] at t0;clear hk hf
 go_enter Tryz.func160,Tryz.ntmps160
 go_wp2_with fail
 go_quiet (fail)
 rename_i nq;have H1:=xG.drew H0 nq;clear x0 x1 t0 AA AB qp;generalize w.drewN nq=w1 at *
 go_wp2_with fail
 refine(ZR _ p B r R H1.out.qs).mono ?_;rintro e _ ⟨rfl,m,rfl⟩;have H2:=xG.drew H1 m;generalize w1.drewN m=w2 at *
 go_wp2_with fail
 refine(YB _ r.s.hd.text).mono ?_;rintro e w3 ⟨rfl,hx⟩;have H3:=xG.ext H2 hx;clear hx;rw[AK.out]
 go_wp2_with fail
 refine(jK _ p B _ R (i) H3.out.qs (HI.out) (JU (H3.out.bound HB.out (by omega)))).mono ?_;rintro e AL ⟨rfl,AE,hk,hm⟩;have HK:=yE (And.intro hk hm);clear hk hm
 go_wp2_with fail
 refine(jA _ p B _ AE (i) 17 HK.out.1 (H3.out.bound HB.out (by omega))).mono ?_;rintro e w4 ⟨rfl,hp⟩;obtain⟨R4,H4⟩:=xG.yX H3 HK hp;clear hp HK;have AJ:Hid (r.s.nd.length<(Ps.nd (Rs.s (Rs.yX r (i) 17))).length):=yE (by rw[show(r.yX i 17).s.nd.length=r.s.nd.length+1 from xR r.s i 17]; omega);have AC:Hid (Tok.kind (Ps.hd (Rs.s (Rs.yX r (i) 17)))≠4):=yE (by show r.s.hd.kind≠4; rw[AF.out]; decide);have AM:Hid ((Rs.adv (Rs.yX r (i) 17)).s.ts.length≤f):=yE (by have h1:=H4.out.qs.yY.last.len AC.out; have h2:(Rs.adv (Rs.yX r (i) 17)).s.ts.length<r.s.ts.length:=h1; omega);have x1:=H4.out.qs.x1;have AG:=H4.out.qs.blk.frozen 1;have AA:=H4.out.qs.few;have AB:=H4.out.qs.yY.last.pos
 go_wp2_with fail
 have H5:=xG.adv H4 (AC.out);clear x1 AG AA AB;generalize w4.setCell ⟨p,1,none⟩ (.int .i64 ((R4.I:Int)+1))=w5 at *;generalize { R4 with I:=R4.I+1 } = R5 at *;have AD:Hid (r.s.nd.length<(Ps.nd (Rs.s (Rs.adv (Rs.yX r (i) 17)))).length):=yE (yS AJ.out (xK.nd (jI H4.out.qs.yY (AC.out))));refine(XK _ p B _ R5 r.s.nd.length H5.out.qs (AD.out) (H5.out.bound HB.out (by omega))).mono ?_;rintro e w6 ⟨rfl,hp⟩;obtain⟨R6,H6⟩:=xG.go H5 (jQ (r.s.nd.length)) hp;clear hp;have AH:Hid (r.s.nd.length<(Ps.nd (Rs.s (vU (r.s.nd.length) (Rs.adv (Rs.yX r (i) 17))))).length):=yE (yS AD.out (xK.nd (jQ (r.s.nd.length) _ H5.out.qs.yY)))
 go_wp2_with fail
 refine(vF _ p B _ R6 [59] H6.out.qs).mono ?_;rintro e w7 ⟨rfl,hp⟩;obtain⟨R7,H7⟩:=xG.go H6 (xJ [59]) hp;clear hp;have AN:Hid (r.s.nd.length<(Ps.nd (Rs.s (xD [59] (vU (r.s.nd.length) (Rs.adv (Rs.yX r (i) 17)))))).length):=yE (yS AH.out (xK.nd (xJ [59] _ H6.out.qs.yY)))
 go_wp2_with fail
 go_end0;rw[AI.out];exact⟨rfl,H7.out.post⟩
theorem zMo (w:World)(p B:Nat)(r:Rs)(R:vJ)(f:Nat)(hst:YD f)(i:Nat)(h:QS w p B r R)(hi:i<r.s.nd.length)(hb:r.phi≤1000000)(hl:r.s.ts.length≤f+1)(hk:r.s.hd.kind=1)(hf:vP r.s.hd.text=some 18) :
  Calls Tryz.prog 160 #[.pointer (some ⟨p,0,none⟩),.int .i64 (i:Int)] w fun e w'=>e=.returned (.tuple #[])∧jO w p B R (xV (f+1) i r) w':=by
 have HB:=yE hb;have HI:=yE hi;have H0:=yE (xG.refl h);clear h hb hi;have AJ:Hid (((YQ r.s.hd.text:Nat):Int)=18):=yE (by unfold YQ; rw[hf]; rfl);have AG:Hid (xV (f+1) i r=xD [59] ((Rs.adv (Rs.yX r (i) 18)))):=yE (by rw[xV,if_pos hk,hf]; rfl);have AE:=yE hk;have x0:=H0.out.qs.x0;have x1:=H0.out.qs.x1;have t0:w.cell? ⟨R.bt,R.o0+R.I*5,none⟩=some (.int .u8 (r.s.hd.kind:Int)):=H0.out.qs.tok 0 (by decide);have AA:=H0.out.qs.few;have AB:=H0.out.qs.yY.last.pos;have qp:=H0.out.qs.pos;rw[hk] at t0;clear hk hf
 go_enter Tryz.func160,Tryz.ntmps160
 go_wp2_with fail
 go_quiet (fail)
 rename_i nq;have H1:=xG.drew H0 nq;clear x0 x1 t0 AA AB qp;generalize w.drewN nq=w1 at *
 go_wp2_with fail
 refine(ZR _ p B r R H1.out.qs).mono ?_;rintro e _ ⟨rfl,m,rfl⟩;have H2:=xG.drew H1 m;generalize w1.drewN m=w2 at *
 go_wp2_with fail
 refine(YB _ r.s.hd.text).mono ?_;rintro e w3 ⟨rfl,hx⟩;have H3:=xG.ext H2 hx;clear hx;rw[AJ.out]
 go_wp2_with fail
 refine(jK _ p B _ R (i) H3.out.qs (HI.out) (JU (H3.out.bound HB.out (by omega)))).mono ?_;rintro e AK ⟨rfl,AD,hk,hm⟩;have HK:=yE (And.intro hk hm);clear hk hm
 go_wp2_with fail
 refine(jA _ p B _ AD (i) 18 HK.out.1 (H3.out.bound HB.out (by omega))).mono ?_;rintro e w4 ⟨rfl,hp⟩;obtain⟨R4,H4⟩:=xG.yX H3 HK hp;clear hp HK;have AI:Hid (r.s.nd.length<(Ps.nd (Rs.s (Rs.yX r (i) 18))).length):=yE (by rw[show(r.yX i 18).s.nd.length=r.s.nd.length+1 from xR r.s i 18]; omega);have AC:Hid (Tok.kind (Ps.hd (Rs.s (Rs.yX r (i) 18)))≠4):=yE (by show r.s.hd.kind≠4; rw[AE.out]; decide);have AM:Hid ((Rs.adv (Rs.yX r (i) 18)).s.ts.length≤f):=yE (by have h1:=H4.out.qs.yY.last.len AC.out; have h2:(Rs.adv (Rs.yX r (i) 18)).s.ts.length<r.s.ts.length:=h1; omega);have x1:=H4.out.qs.x1;have AF:=H4.out.qs.blk.frozen 1;have AA:=H4.out.qs.few;have AB:=H4.out.qs.yY.last.pos
 go_wp2_with fail
 have H5:=xG.adv H4 (AC.out);clear x1 AF AA AB;generalize w4.setCell ⟨p,1,none⟩ (.int .i64 ((R4.I:Int)+1))=w5 at *;generalize { R4 with I:=R4.I+1 } = R5 at *;have AH:Hid (r.s.nd.length<(Ps.nd (Rs.s (Rs.adv (Rs.yX r (i) 18)))).length):=yE (yS AI.out (xK.nd (jI H4.out.qs.yY (AC.out))));refine(vF _ p B _ R5 [59] H5.out.qs).mono ?_;rintro e w6 ⟨rfl,hp⟩;obtain⟨R6,H6⟩:=xG.go H5 (xJ [59]) hp;clear hp;have AL:Hid (r.s.nd.length<(Ps.nd (Rs.s (xD [59] (Rs.adv (Rs.yX r (i) 18))))).length):=yE (yS AH.out (xK.nd (xJ [59] _ H5.out.qs.yY)))
 go_wp2_with fail
 go_end0;rw[AG.out];exact⟨rfl,H6.out.post⟩
theorem zSf (w:World)(p B:Nat)(r:Rs)(R:vJ)(f:Nat)(hst:YD f)(i:Nat)(h:QS w p B r R)(hi:i<r.s.nd.length)(hb:r.phi≤1000000)(hl:r.s.ts.length≤f+1)(hk:r.s.hd.kind=1)(hf:vP r.s.hd.text=some 19) :
  Calls Tryz.prog 160 #[.pointer (some ⟨p,0,none⟩),.int .i64 (i:Int)] w fun e w'=>e=.returned (.tuple #[])∧jO w p B R (xV (f+1) i r) w':=by
 have HB:=yE hb;have HI:=yE hi;have H0:=yE (xG.refl h);clear h hb hi;have AJ:Hid (((YQ r.s.hd.text:Nat):Int)=19):=yE (by unfold YQ; rw[hf]; rfl);have AG:Hid (xV (f+1) i r=xD [59] ((Rs.adv (Rs.yX r (i) 19)))):=yE (by rw[xV,if_pos hk,hf]; rfl);have AE:=yE hk;have x0:=H0.out.qs.x0;have x1:=H0.out.qs.x1;have t0:w.cell? ⟨R.bt,R.o0+R.I*5,none⟩=some (.int .u8 (r.s.hd.kind:Int)):=H0.out.qs.tok 0 (by decide);have AA:=H0.out.qs.few;have AB:=H0.out.qs.yY.last.pos;have qp:=H0.out.qs.pos;rw[hk] at t0;clear hk hf
 go_enter Tryz.func160,Tryz.ntmps160
 go_wp2_with fail
 go_quiet (fail)
 rename_i nq;have H1:=xG.drew H0 nq;clear x0 x1 t0 AA AB qp;generalize w.drewN nq=w1 at *
 go_wp2_with fail
 refine(ZR _ p B r R H1.out.qs).mono ?_;rintro e _ ⟨rfl,m,rfl⟩;have H2:=xG.drew H1 m;generalize w1.drewN m=w2 at *
 go_wp2_with fail
 refine(YB _ r.s.hd.text).mono ?_;rintro e w3 ⟨rfl,hx⟩;have H3:=xG.ext H2 hx;clear hx;rw[AJ.out]
 go_wp2_with fail
 refine(jK _ p B _ R (i) H3.out.qs (HI.out) (JU (H3.out.bound HB.out (by omega)))).mono ?_;rintro e AK ⟨rfl,AD,hk,hm⟩;have HK:=yE (And.intro hk hm);clear hk hm
 go_wp2_with fail
 refine(jA _ p B _ AD (i) 19 HK.out.1 (H3.out.bound HB.out (by omega))).mono ?_;rintro e w4 ⟨rfl,hp⟩;obtain⟨R4,H4⟩:=xG.yX H3 HK hp;clear hp HK;have AI:Hid (r.s.nd.length<(Ps.nd (Rs.s (Rs.yX r (i) 19))).length):=yE (by rw[show(r.yX i 19).s.nd.length=r.s.nd.length+1 from xR r.s i 19]; omega);have AC:Hid (Tok.kind (Ps.hd (Rs.s (Rs.yX r (i) 19)))≠4):=yE (by show r.s.hd.kind≠4; rw[AE.out]; decide);have AM:Hid ((Rs.adv (Rs.yX r (i) 19)).s.ts.length≤f):=yE (by have h1:=H4.out.qs.yY.last.len AC.out; have h2:(Rs.adv (Rs.yX r (i) 19)).s.ts.length<r.s.ts.length:=h1; omega);have x1:=H4.out.qs.x1;have AF:=H4.out.qs.blk.frozen 1;have AA:=H4.out.qs.few;have AB:=H4.out.qs.yY.last.pos
 go_wp2_with fail
 have H5:=xG.adv H4 (AC.out);clear x1 AF AA AB;generalize w4.setCell ⟨p,1,none⟩ (.int .i64 ((R4.I:Int)+1))=w5 at *;generalize { R4 with I:=R4.I+1 } = R5 at *;have AH:Hid (r.s.nd.length<(Ps.nd (Rs.s (Rs.adv (Rs.yX r (i) 19)))).length):=yE (yS AI.out (xK.nd (jI H4.out.qs.yY (AC.out))));refine(vF _ p B _ R5 [59] H5.out.qs).mono ?_;rintro e w6 ⟨rfl,hp⟩;obtain⟨R6,H6⟩:=xG.go H5 (xJ [59]) hp;clear hp;have AL:Hid (r.s.nd.length<(Ps.nd (Rs.s (xD [59] (Rs.adv (Rs.yX r (i) 19))))).length):=yE (yS AH.out (xK.nd (xJ [59] _ H5.out.qs.yY)))
 go_wp2_with fail
 go_end0;rw[AG.out];exact⟨rfl,H6.out.post⟩
theorem zRP (w:World)(p B:Nat)(r:Rs)(R:vJ)(f:Nat)(i:Nat)(h:QS w p B r R)(hi:i<r.s.nd.length)(hb:r.phi≤1000000)(hk:r.s.hd.kind=1)(hf:vP r.s.hd.text=none) :
  Calls Tryz.prog 160 #[.pointer (some ⟨p,0,none⟩),.int .i64 (i:Int)] w fun e w'=>e=.returned (.tuple #[])∧jO w p B R (xV (f+1) i r) w':=by
 have HB:=yE hb;have HI:=yE hi;have H0:=yE (xG.refl h);clear h hb hi;have AC:Hid (xV (f+1) i r=r.fail 50):=yE (by rw[xV]; rw[if_pos hk,hf]);have x0:=H0.out.qs.x0;have x1:=H0.out.qs.x1;have t0:w.cell? ⟨R.bt,R.o0+R.I*5,none⟩=some (.int .u8 (r.s.hd.kind:Int)):=H0.out.qs.tok 0 (by decide);have AA:=H0.out.qs.few;have AB:=H0.out.qs.yY.last.pos;have qp:=H0.out.qs.pos;have AD:Hid (((YQ r.s.hd.text:Nat):Int)=0):=yE (by unfold YQ; rw[hf]; rfl);rw[hk] at t0;clear hk hf
 go_enter Tryz.func160,Tryz.ntmps160
 go_wp2_with fail
 go_quiet (fail)
 rename_i nq;have H1:=xG.drew H0 nq;clear x0 x1 t0 AA AB qp;generalize w.drewN nq=w1 at *
 go_wp2_with fail
 refine(ZR _ p B r R H1.out.qs).mono ?_;rintro e _ ⟨rfl,m,rfl⟩;have H2:=xG.drew H1 m;generalize w1.drewN m=w2 at *
 go_wp2_with fail
 refine(YB _ r.s.hd.text).mono ?_;rintro e w3 ⟨rfl,hx⟩;have H3:=xG.ext H2 hx;clear hx;rw[AD.out]
 go_wp2_with fail
 refine(JF _ p B _ R 50 (by decide) H3.out.qs).mono ?_;rintro e w4 ⟨rfl,hp⟩;obtain⟨R4,H4⟩:=xG.goL H3 (XU H3.out.qs.yY 50) hp;clear hp
 go_wp2_with fail
 refine bodyPost_ret (results_none rfl _ _ _) rfl ?_;rw[AC.out];exact⟨rfl,H4.out.post⟩
theorem zQQ (w:World)(p B:Nat)(r:Rs)(R:vJ)(f:Nat)(i:Nat)(h:QS w p B r R)(hi:i<r.s.nd.length)(hb:r.phi≤1000000)(hk:¬r.s.hd.kind=1) :
  Calls Tryz.prog 160 #[.pointer (some ⟨p,0,none⟩),.int .i64 (i:Int)] w fun e w'=>e=.returned (.tuple #[])∧jO w p B R (xV (f+1) i r) w':=by
 have HB:=yE hb;have HI:=yE hi;have H0:=yE (xG.refl h);clear h hb hi;have AC:Hid (xV (f+1) i r=r.fail 50):=yE (by rw[xV]; rw[if_neg hk]);have x0:=H0.out.qs.x0;have x1:=H0.out.qs.x1;have t0:w.cell? ⟨R.bt,R.o0+R.I*5,none⟩=some (.int .u8 (r.s.hd.kind:Int)):=H0.out.qs.tok 0 (by decide);have AA:=H0.out.qs.few;have AB:=H0.out.qs.yY.last.pos;have qp:=H0.out.qs.pos
 have n1:((r.s.hd.kind:Int)==1)=false:=by rw[yG]; omega
 have m1:¬(r.s.hd.kind:Int)=1:=by omega
 clear hk
 go_enter Tryz.func160,Tryz.ntmps160
 go_wp2_with fail
 go_quiet (fail)
 rename_i nq;have H1:=xG.drew H0 nq;clear x0 x1 t0 AA AB qp;generalize w.drewN nq=w1 at *
 go_wp2_with fail
 refine(JF _ p B _ R 50 (by decide) H1.out.qs).mono ?_;rintro e w2 ⟨rfl,hp⟩;obtain⟨R2,H2⟩:=xG.goL H1 (XU H1.out.qs.yY 50) hp;clear hp
 go_wp2_with fail
 refine bodyPost_ret (results_none rfl _ _ _) rfl ?_;rw[AC.out];exact⟨rfl,H2.out.post⟩
theorem zOM {t:Bs}{k:Nat}(h:vP t=some k):k=7∨k=8∨k=9∨k=10∨k=11∨k=12∨k=13∨k=14∨k=15∨k=16∨k=17∨k=18∨k=19:=by
 unfold vP at h;obtain⟨m,hm,rfl⟩:=Option.map_eq_some_iff.1 h;have h1:=List.mem_of_find?_eq_some hm
 have h2:∀m ∈ YV,m.2=7∨m.2=8∨m.2=9∨m.2=10∨m.2=11∨m.2=12∨m.2=13∨m.2=14∨m.2=15∨m.2=16∨m.2=17∨m.2=18∨m.2=19:=by decide
 exact h2 m h1
theorem zDB:∀f,YD f
 | 0=>fun w p B r R i h hl hi hb=>absurd h.yY.last.pos (by omega)
 | f+1=>fun w p B r R i h hl hi hb=>by
  have ih:=zDB f
  by_cases hk:r.s.hd.kind=1
  ·cases hf:vP r.s.hd.text with
   | none=>exact zRP w p B r R f i h hi hb hk hf
   | some k=>
    rcases zOM hf with rfl | rfl | rfl | rfl | rfl | rfl | rfl | rfl | rfl | rfl | rfl | rfl | rfl
    ·cases hc:(zDu r.s.nd.length (xD [61] (xM r.s.nd.length (Rs.adv (Rs.yX r i 7))))).is [102,111,114] with
     | true=>exact zKC w p B r R f ih i h hi hb hl hk hf hc
     | false=>exact zJX w p B r R f ih i h hi hb hl hk hf hc
    ·exact zTA w p B r R f ih i h hi hb hl hk hf
    ·exact zTK w p B r R f ih i h hi hb hl hk hf
    ·exact zO3 w p B r R f ih i h hi hb hl hk hf
    ·exact zSn w p B r R f ih i h hi hb hl hk hf
    ·cases hc:(vW r.s.nd.length (Rs.adv (Rs.yX r i 12))).is [97,108,108] with
     | true=>exact zKB w p B r R f ih i h hi hb hl hk hf hc
     | false=>exact zJF w p B r R f ih i h hi hb hl hk hf hc
    ·cases hc:(xM (Ps.nd (Rs.s (Rs.adv (Rs.yX r i 13)))).length (Rs.yX (Rs.adv (Rs.yX r i 13)) r.s.nd.length 5)).is [91] with
     | true=>exact zHf w p B r R f ih i h hi hb hl hk hf hc
     | false=>exact zGE w p B r R f ih i h hi hb hl hk hf hc
    ·exact zUI w p B r R f ih i h hi hb hl hk hf
    ·exact zTF w p B r R f ih i h hi hb hl hk hf
    ·exact zTt w p B r R f ih i h hi hb hl hk hf
    ·exact zSb w p B r R f ih i h hi hb hl hk hf
    ·exact zMo w p B r R f ih i h hi hb hl hk hf
    ·exact zSf w p B r R f ih i h hi hb hl hk hf
  ·exact zQQ w p B r R f i h hi hb hk
end Go.Proofs.YtioffpjajhalaaaGreatDoor
