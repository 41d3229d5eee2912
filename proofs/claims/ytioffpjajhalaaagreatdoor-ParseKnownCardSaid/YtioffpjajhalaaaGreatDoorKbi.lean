/- The document's statements. Condition: the nodes fit into memory. -/
import Derived.Test.YtioffpjajhalaaaGreatDoorKaa
import Derived.Test.YtioffpjajhalaaaGreatDoorKbh
set_option linter.unusedVariables false
set_option linter.unusedSimpArgs false
set_option maxRecDepth 100000
set_option maxHeartbeats 16000000
namespace Go.Proofs.YtioffpjajhalaaaGreatDoor
open Go Go.RowKit
theorem xG.ext {w w1 w2:World}{p B:Nat}{R R1:vJ}{r r1:Rs}{c:Int}(h:Hid (xG w p B R r w1 R1 r1 c))(hx:Ext w1 w2):Hid (xG w p B R r w2 R1 r1 c):=yE ⟨h.out.qs.ext hx,h.out.mv.trans (yZ.ext hx),h.out.lt⟩
theorem zQN {i:Nat}{r:Rs}(h:(zDu i (xD [61] (xM i r))).is [102,111,114]=true):zEj i r=(xD [117,112,100,97,116,101] (zDu i (xD [61] (xM i r))).adv).num i 1:=by unfold zEj; dsimp only; rw[if_pos h]
theorem zS0 {i:Nat}{r:Rs}(h:(zDu i (xD [61] (xM i r))).is [102,111,114]=false):zEj i r=zDu i (xD [61] (xM i r)):=by unfold zEj; dsimp only; rw[h]; rfl
theorem zRt {i:Nat}{r:Rs}(h:(vW i r).is [97,108,108]=true):zEp i r=((vW i r).num i 1).adv:=by unfold zEp; dsimp only; rw[if_pos h]
theorem zR3 {i:Nat}{r:Rs}(h:(vW i r).is [97,108,108]=false):zEp i r=xD [115,104,97,114,101,100] (vW i r):=by unfold zEp; dsimp only; rw[h]; rfl
theorem zLQ {i:Nat}{r:Rs}(h:(xM r.s.nd.length (r.yX i 5)).is [91]=true):VX i r=YO r.s.nd.length ((xM r.s.nd.length (r.yX i 5)).kind r.s.nd.length 20):=by unfold VX; dsimp only; rw[if_pos h]
theorem zMF {i:Nat}{r:Rs}(h:(xM r.s.nd.length (r.yX i 5)).is [91]=false):VX i r=xM r.s.nd.length (r.yX i 5):=by unfold VX; dsimp only; rw[h]; rfl
theorem zKC (w:World)(p B:Nat)(r:Rs)(R:vJ)(f:Nat)(hst:YD f)(i:Nat)(h:QS w p B r R)(hi:i<r.s.nd.length)(hb:r.phi≤1000000)(hl:r.s.ts.length≤f+1)(hk:r.s.hd.kind=1)(hf:vP r.s.hd.text=some 7)(hc:(zDu (r.s.nd.length) (xD [61] (xM (r.s.nd.length) (Rs.adv (Rs.yX r (i) 7))))).is [102,111,114]=true) :
  Calls Tryz.prog 160 #[.pointer (some ⟨p,0,none⟩),.int .i64 (i:Int)] w fun e w'=>e=.returned (.tuple #[])∧jO w p B R (xV (f+1) i r) w':=by
 have HB:=yE hb;have HI:=yE hi;have H0:=yE (xG.refl h);clear h hb hi;have Ar:Hid (((YQ r.s.hd.text:Nat):Int)=7):=yE (by unfold YQ; rw[hf]; rfl);have Ao:Hid (xV (f+1) i r=xD [59] (zEj (r.s.nd.length) (Rs.adv (Rs.yX r (i) 7)))):=yE (by rw[xV,if_pos hk,hf]; rfl);have An:=yE hk;have x0:=H0.out.qs.x0;have x1:=H0.out.qs.x1;have t0:w.cell? ⟨R.bt,R.o0+R.I*5,none⟩=some (.int .u8 (r.s.hd.kind:Int)):=H0.out.qs.tok 0 (by decide);have AB:=H0.out.qs.few;have AA:=H0.out.qs.yY.last.pos;have qp:=H0.out.qs.pos;rw[hk] at t0;clear hk hf
 go_enter Tryz.func160,Tryz.ntmps160
 go_wp2_with fail
 go_quiet (fail)
 rename_i nq;have H1:=xG.drew H0 nq;clear x0 x1 t0 AB AA qp;generalize w.drewN nq=w1 at *
 go_wp2_with fail
 refine(ZR _ p B r R H1.out.qs).mono ?_;rintro e _ ⟨rfl,m,rfl⟩;have H2:=xG.drew H1 m;generalize w1.drewN m=w2 at *
 go_wp2_with fail
 refine(YB _ r.s.hd.text).mono ?_;rintro e w3 ⟨rfl,hx⟩;have H3:=xG.ext H2 hx;clear hx;rw[Ar.out]
 go_wp2_with fail
 refine(jK _ p B _ R (i) H3.out.qs (HI.out) (JU (H3.out.bound HB.out (by omega)))).mono ?_;rintro e At ⟨rfl,Al,hk,hm⟩;have HK:=yE (And.intro hk hm);clear hk hm
 go_wp2_with fail
 refine(jA _ p B _ Al (i) 7 HK.out.1 (H3.out.bound HB.out (by omega))).mono ?_;rintro e w4 ⟨rfl,hp⟩;obtain⟨R4,H4⟩:=xG.yX H3 HK hp;clear hp HK;have Ai:Hid (r.s.nd.length<(Ps.nd (Rs.s (Rs.yX r (i) 7))).length):=yE (by rw[show(r.yX i 7).s.nd.length=r.s.nd.length+1 from xR r.s i 7]; omega);have AO:Hid (Tok.kind (Ps.hd (Rs.s (Rs.yX r (i) 7)))≠4):=yE (by show r.s.hd.kind≠4; rw[An.out]; decide);have Ax:Hid ((Rs.adv (Rs.yX r (i) 7)).s.ts.length≤f):=yE (by have h1:=H4.out.qs.yY.last.len AO.out; have h2:(Rs.adv (Rs.yX r (i) 7)).s.ts.length<r.s.ts.length:=h1; omega);have x1:=H4.out.qs.x1;have AR:=H4.out.qs.blk.frozen 1;have AB:=H4.out.qs.few;have AA:=H4.out.qs.yY.last.pos
 go_wp2_with fail
 have H5:=xG.adv H4 (AO.out);clear x1 AR AB AA;generalize w4.setCell ⟨p,1,none⟩ (.int .i64 ((R4.I:Int)+1))=w5 at *;generalize { R4 with I:=R4.I+1 } = R5 at *;have Ab:Hid (r.s.nd.length<(Ps.nd (Rs.s (Rs.adv (Rs.yX r (i) 7)))).length):=yE (yS Ai.out (xK.nd (jI H4.out.qs.yY (AO.out))));obtain⟨g5,AQ,hA,Af,AL⟩:=H5.out.qs.YC (i:=r.s.nd.length) (Ab.out);have x3:=H5.out.qs.x3 hA;have AI:=yE hA;have q0:(0:Int)≤((r.s.nd.length:Nat):Int):=Int.natCast_nonneg _
 have q1:((r.s.nd.length:Nat):Int)<(R5.nh.length:Int):=by omega
 clear hA
 go_region_held3 (fun w'=>w'.cell? ⟨p,3,none⟩=some (.slice (some ⟨g5,0,none⟩) R5.nh.length R5.c))
  (first
   | assumption
   | go_keep
   | exact Ad _)
  (first
   | (go_at_call 123; refine(zBk _ p B _ R5 (H5.out.qs.ext (by first | exact Ext.refl _ | exact Below.drew (Below.refl _ _)))).mono ?_; rintro e AC ⟨rfl,I5,hq,hm⟩; have y1:AC.cell? ⟨p,3,none⟩=some (.slice (some ⟨g5,0,none⟩) R5.nh.length R5.c):=hq.x3 AI.out; have HN:=yE (And.intro hq hm); have c2:AC.cell? ⟨g5,r.s.nd.length*5+2,none⟩=some (.string (xE (R5.nh[r.s.nd.length]'AQ).1.text)):=(hq.jP _ AQ AI.out 2 (by decide)); have z2:AC.frozen? ⟨g5,r.s.nd.length*5+2,none⟩=false:=hq.JZ _ AI.out; have Ad:∀u,(AC.setCell ⟨g5,r.s.nd.length*5+2,none⟩ u).cell? ⟨p,3,none⟩=some (.slice (some ⟨g5,0,none⟩) R5.nh.length R5.c):=fun u=>(World.cell?_of_block (w:=AC) (a:=⟨p,3,none⟩) (zQ AC ⟨g5,r.s.nd.length*5+2,none⟩ u p (fun e=>AL e.symm))).trans y1; clear hq hm)
   | (fail))
 obtain⟨R6,H6⟩:=xG.named (i:=r.s.nd.length) (g:=g5) H5 HN.out.1 ((yZ.ext (by first | exact Ext.refl _ | exact Below.drew (Below.refl _ _))).trans HN.out.2) AQ AI.out;clear c2 z2 y1 Ad x3 q0 q1 HN;generalize AC.setCell ⟨g5,r.s.nd.length*5+2,none⟩ (.string (xE (Rs.zAz (Rs.adv (Rs.yX r (i) 7)))))=w6 at *;have Ah:Hid (r.s.nd.length<(Ps.nd (Rs.s (xM (r.s.nd.length) (Rs.adv (Rs.yX r (i) 7))))).length):=yE (yS Ab.out (xK.nd (jY (r.s.nd.length) _ H5.out.qs.yY)))
 go_wp2_with fail
 refine(vF _ p B _ R6 [61] H6.out.qs).mono ?_;rintro e w7 ⟨rfl,hp⟩;obtain⟨R7,H7⟩:=xG.go H6 (xJ [61]) hp;clear hp;have Ac:Hid (r.s.nd.length<(Ps.nd (Rs.s (xD [61] (xM (r.s.nd.length) (Rs.adv (Rs.yX r (i) 7)))))).length):=yE (yS Ah.out (xK.nd (xJ [61] _ H6.out.qs.yY)))
 go_wp2_with fail
 refine(zEr _ p B _ R7 r.s.nd.length H7.out.qs (Ac.out) (H7.out.bound HB.out (by omega))).mono ?_;rintro e w8 ⟨rfl,hp⟩;obtain⟨R8,H8⟩:=xG.go H7 (zAv (r.s.nd.length)) hp;clear hp;have Ae:Hid (r.s.nd.length<(Ps.nd (Rs.s (zAj (r.s.nd.length) (xD [61] (xM (r.s.nd.length) (Rs.adv (Rs.yX r (i) 7))))))).length):=yE (yS Ac.out (xK.nd (zAv (r.s.nd.length) _ H7.out.qs.yY)))
 go_wp2_with fail
 refine(vF _ p B _ R8 [46] H8.out.qs).mono ?_;rintro e w9 ⟨rfl,hp⟩;obtain⟨R9,H9⟩:=xG.go H8 (xJ [46]) hp;clear hp;have AY:Hid (r.s.nd.length<(Ps.nd (Rs.s (xD [46] (zAj (r.s.nd.length) (xD [61] (xM (r.s.nd.length) (Rs.adv (Rs.yX r (i) 7)))))))).length):=yE (yS Ae.out (xK.nd (xJ [46] _ H8.out.qs.yY)))
 go_wp2_with fail
 refine(VE _ p B _ R9 r.s.nd.length H9.out.qs (AY.out) (H9.out.bound HB.out (by omega))).mono ?_;rintro e Ak ⟨rfl,hp⟩;obtain⟨AJ,AW⟩:=xG.go H9 (vY (r.s.nd.length)) hp;clear hp;have AT:Hid (r.s.nd.length<(Ps.nd (Rs.s (vW (r.s.nd.length) (xD [46] (zAj (r.s.nd.length) (xD [61] (xM (r.s.nd.length) (Rs.adv (Rs.yX r (i) 7))))))))).length):=yE (yS AY.out (xK.nd (vY (r.s.nd.length) _ H9.out.qs.yY)))
 go_wp2_with fail
 have Ag:=yE (zQN hc);have HC:=yE hc;clear hc;refine(vE _ p B _ AJ [102,111,114] true (HC) AW.out.qs).mono ?_;rintro e _ ⟨rfl,m,rfl⟩;have AF:=xG.drew AW m;generalize Ak.drewN m=Aj at *;have AS:=AT;have x1:=AF.out.qs.x1;have AR:=AF.out.qs.blk.frozen 1;have AB:=AF.out.qs.few;have AA:=AF.out.qs.yY.last.pos
 go_wp2_with fail
 have AU:=xG.adv AF ((vS HC.out).1);clear x1 AR AB AA;generalize Aj.setCell ⟨p,1,none⟩ (.int .i64 ((AJ.I:Int)+1))=As at *;generalize { AJ with I:=AJ.I+1 } = R12 at *;have AP:Hid (r.s.nd.length<(Ps.nd (Rs.s (Rs.adv (vW (r.s.nd.length) (xD [46] (zAj (r.s.nd.length) (xD [61] (xM (r.s.nd.length) (Rs.adv (Rs.yX r (i) 7)))))))))).length):=yE (yS AS.out (xK.nd (jI AF.out.qs.yY ((vS HC.out).1))));refine(vF _ p B _ R12 [117,112,100,97,116,101] AU.out.qs).mono ?_;rintro e Aa ⟨rfl,hp⟩;obtain⟨AV,AG⟩:=xG.go AU (xJ [117,112,100,97,116,101]) hp;clear hp;have AH:Hid (r.s.nd.length<(Ps.nd (Rs.s (xD [117,112,100,97,116,101] (Rs.adv (vW (r.s.nd.length) (xD [46] (zAj (r.s.nd.length) (xD [61] (xM (r.s.nd.length) (Rs.adv (Rs.yX r (i) 7))))))))))).length):=yE (yS AP.out (xK.nd (xJ [117,112,100,97,116,101] _ AU.out.qs.yY)));obtain⟨AM,AD,hA,AZ,AX⟩:=AG.out.qs.YC (i:=r.s.nd.length) (AH.out);have x3:=AG.out.qs.x3 hA;have AE:=yE hA;have q0:(0:Int)≤((r.s.nd.length:Nat):Int):=Int.natCast_nonneg _
 have q1:((r.s.nd.length:Nat):Int)<(AV.nh.length:Int):=by omega
 clear hA;have c3:Aa.cell? ⟨AM,r.s.nd.length*5+3,none⟩=some (.int .i64 (AV.nh[r.s.nd.length]'AD).1.num):=(AG.out.qs.jP _ AD AE.out 3 (by decide));have z3:=AG.out.qs.JZ (r.s.nd.length*5+3) AE.out
 go_wp2_with fail
 obtain⟨Am,AN⟩:=xG.num (i:=r.s.nd.length) (g:=AM) AG (1) AD AE.out;clear c3 z3 x3 q0 q1;generalize Aa.setCell ⟨AM,r.s.nd.length*5+3,none⟩ (.int .i64 (1))=Au at *;have AK:Hid (r.s.nd.length<(Ps.nd (Rs.s (Rs.num (xD [117,112,100,97,116,101] (Rs.adv (vW (r.s.nd.length) (xD [46] (zAj (r.s.nd.length) (xD [61] (xM (r.s.nd.length) (Rs.adv (Rs.yX r (i) 7))))))))) (r.s.nd.length) (1)))).length):=yE (yS AH.out (xK.nd (zD8 (r.s.nd.length) (1) _ AG.out.qs.yY)));refine(vF _ p B _ Am [59] AN.out.qs).mono ?_;rintro e Aw ⟨rfl,hp⟩;obtain⟨Av,Ap⟩:=xG.go AN (xJ [59]) hp;clear hp;have Aq:Hid (r.s.nd.length<(Ps.nd (Rs.s (xD [59] (Rs.num (xD [117,112,100,97,116,101] (Rs.adv (vW (r.s.nd.length) (xD [46] (zAj (r.s.nd.length) (xD [61] (xM (r.s.nd.length) (Rs.adv (Rs.yX r (i) 7))))))))) (r.s.nd.length) (1))))).length):=yE (yS AK.out (xK.nd (xJ [59] _ AN.out.qs.yY)))
 go_wp2_with fail
 go_end0;rw[Ao.out,Ag.out];exact⟨rfl,Ap.out.post⟩
theorem zJX (w:World)(p B:Nat)(r:Rs)(R:vJ)(f:Nat)(hst:YD f)(i:Nat)(h:QS w p B r R)(hi:i<r.s.nd.length)(hb:r.phi≤1000000)(hl:r.s.ts.length≤f+1)(hk:r.s.hd.kind=1)(hf:vP r.s.hd.text=some 7)(hc:(zDu (r.s.nd.length) (xD [61] (xM (r.s.nd.length) (Rs.adv (Rs.yX r (i) 7))))).is [102,111,114]=false) :
  Calls Tryz.prog 160 #[.pointer (some ⟨p,0,none⟩),.int .i64 (i:Int)] w fun e w'=>e=.returned (.tuple #[])∧jO w p B R (xV (f+1) i r) w':=by
 have HB:=yE hb;have HI:=yE hi;have H0:=yE (xG.refl h);clear h hb hi;have Ab:Hid (((YQ r.s.hd.text:Nat):Int)=7):=yE (by unfold YQ; rw[hf]; rfl);have Aa:Hid (xV (f+1) i r=xD [59] (zEj (r.s.nd.length) (Rs.adv (Rs.yX r (i) 7)))):=yE (by rw[xV,if_pos hk,hf]; rfl);have AY:=yE hk;have x0:=H0.out.qs.x0;have x1:=H0.out.qs.x1;have t0:w.cell? ⟨R.bt,R.o0+R.I*5,none⟩=some (.int .u8 (r.s.hd.kind:Int)):=H0.out.qs.tok 0 (by decide);have AB:=H0.out.qs.few;have AC:=H0.out.qs.yY.last.pos;have qp:=H0.out.qs.pos;rw[hk] at t0;clear hk hf
 go_enter Tryz.func160,Tryz.ntmps160
 go_wp2_with fail
 go_quiet (fail)
 rename_i nq;have H1:=xG.drew H0 nq;clear x0 x1 t0 AB AC qp;generalize w.drewN nq=w1 at *
 go_wp2_with fail
 refine(ZR _ p B r R H1.out.qs).mono ?_;rintro e _ ⟨rfl,m,rfl⟩;have H2:=xG.drew H1 m;generalize w1.drewN m=w2 at *
 go_wp2_with fail
 refine(YB _ r.s.hd.text).mono ?_;rintro e w3 ⟨rfl,hx⟩;have H3:=xG.ext H2 hx;clear hx;rw[Ab.out]
 go_wp2_with fail
 refine(jK _ p B _ R (i) H3.out.qs (HI.out) (JU (H3.out.bound HB.out (by omega)))).mono ?_;rintro e Ag ⟨rfl,AX,hk,hm⟩;have HK:=yE (And.intro hk hm);clear hk hm
 go_wp2_with fail
 refine(jA _ p B _ AX (i) 7 HK.out.1 (H3.out.bound HB.out (by omega))).mono ?_;rintro e w4 ⟨rfl,hp⟩;obtain⟨R4,H4⟩:=xG.yX H3 HK hp;clear hp HK;have AU:Hid (r.s.nd.length<(Ps.nd (Rs.s (Rs.yX r (i) 7))).length):=yE (by rw[show(r.yX i 7).s.nd.length=r.s.nd.length+1 from xR r.s i 7]; omega);have AG:Hid (Tok.kind (Ps.hd (Rs.s (Rs.yX r (i) 7)))≠4):=yE (by show r.s.hd.kind≠4; rw[AY.out]; decide);have Ah:Hid ((Rs.adv (Rs.yX r (i) 7)).s.ts.length≤f):=yE (by have h1:=H4.out.qs.yY.last.len AG.out; have h2:(Rs.adv (Rs.yX r (i) 7)).s.ts.length<r.s.ts.length:=h1; omega);have x1:=H4.out.qs.x1;have AZ:=H4.out.qs.blk.frozen 1;have AB:=H4.out.qs.few;have AC:=H4.out.qs.yY.last.pos
 go_wp2_with fail
 have H5:=xG.adv H4 (AG.out);clear x1 AZ AB AC;generalize w4.setCell ⟨p,1,none⟩ (.int .i64 ((R4.I:Int)+1))=w5 at *;generalize { R4 with I:=R4.I+1 } = R5 at *;have AN:Hid (r.s.nd.length<(Ps.nd (Rs.s (Rs.adv (Rs.yX r (i) 7)))).length):=yE (yS AU.out (xK.nd (jI H4.out.qs.yY (AG.out))));obtain⟨g5,AH,hA,AR,AF⟩:=H5.out.qs.YC (i:=r.s.nd.length) (AN.out);have x3:=H5.out.qs.x3 hA;have AD:=yE hA;have q0:(0:Int)≤((r.s.nd.length:Nat):Int):=Int.natCast_nonneg _
 have q1:((r.s.nd.length:Nat):Int)<(R5.nh.length:Int):=by omega
 clear hA
 go_region_held3 (fun w'=>w'.cell? ⟨p,3,none⟩=some (.slice (some ⟨g5,0,none⟩) R5.nh.length R5.c))
  (first
   | assumption
   | go_keep
   | exact AP _)
  (first
   | (go_at_call 123; refine(zBk _ p B _ R5 (H5.out.qs.ext (by first | exact Ext.refl _ | exact Below.drew (Below.refl _ _)))).mono ?_; rintro e AA ⟨rfl,I5,hq,hm⟩; have y1:AA.cell? ⟨p,3,none⟩=some (.slice (some ⟨g5,0,none⟩) R5.nh.length R5.c):=hq.x3 AD.out; have HN:=yE (And.intro hq hm); have c2:AA.cell? ⟨g5,r.s.nd.length*5+2,none⟩=some (.string (xE (R5.nh[r.s.nd.length]'AH).1.text)):=(hq.jP _ AH AD.out 2 (by decide)); have z2:AA.frozen? ⟨g5,r.s.nd.length*5+2,none⟩=false:=hq.JZ _ AD.out; have AP:∀u,(AA.setCell ⟨g5,r.s.nd.length*5+2,none⟩ u).cell? ⟨p,3,none⟩=some (.slice (some ⟨g5,0,none⟩) R5.nh.length R5.c):=fun u=>(World.cell?_of_block (w:=AA) (a:=⟨p,3,none⟩) (zQ AA ⟨g5,r.s.nd.length*5+2,none⟩ u p (fun e=>AF e.symm))).trans y1; clear hq hm)
   | (fail))
 obtain⟨R6,H6⟩:=xG.named (i:=r.s.nd.length) (g:=g5) H5 HN.out.1 ((yZ.ext (by first | exact Ext.refl _ | exact Below.drew (Below.refl _ _))).trans HN.out.2) AH AD.out;clear c2 z2 y1 AP x3 q0 q1 HN;generalize AA.setCell ⟨g5,r.s.nd.length*5+2,none⟩ (.string (xE (Rs.zAz (Rs.adv (Rs.yX r (i) 7)))))=w6 at *;have AT:Hid (r.s.nd.length<(Ps.nd (Rs.s (xM (r.s.nd.length) (Rs.adv (Rs.yX r (i) 7))))).length):=yE (yS AN.out (xK.nd (jY (r.s.nd.length) _ H5.out.qs.yY)))
 go_wp2_with fail
 refine(vF _ p B _ R6 [61] H6.out.qs).mono ?_;rintro e w7 ⟨rfl,hp⟩;obtain⟨R7,H7⟩:=xG.go H6 (xJ [61]) hp;clear hp;have AO:Hid (r.s.nd.length<(Ps.nd (Rs.s (xD [61] (xM (r.s.nd.length) (Rs.adv (Rs.yX r (i) 7)))))).length):=yE (yS AT.out (xK.nd (xJ [61] _ H6.out.qs.yY)))
 go_wp2_with fail
 refine(zEr _ p B _ R7 r.s.nd.length H7.out.qs (AO.out) (H7.out.bound HB.out (by omega))).mono ?_;rintro e w8 ⟨rfl,hp⟩;obtain⟨R8,H8⟩:=xG.go H7 (zAv (r.s.nd.length)) hp;clear hp;have AQ:Hid (r.s.nd.length<(Ps.nd (Rs.s (zAj (r.s.nd.length) (xD [61] (xM (r.s.nd.length) (Rs.adv (Rs.yX r (i) 7))))))).length):=yE (yS AO.out (xK.nd (zAv (r.s.nd.length) _ H7.out.qs.yY)))
 go_wp2_with fail
 refine(vF _ p B _ R8 [46] H8.out.qs).mono ?_;rintro e w9 ⟨rfl,hp⟩;obtain⟨R9,H9⟩:=xG.go H8 (xJ [46]) hp;clear hp;have AL:Hid (r.s.nd.length<(Ps.nd (Rs.s (xD [46] (zAj (r.s.nd.length) (xD [61] (xM (r.s.nd.length) (Rs.adv (Rs.yX r (i) 7)))))))).length):=yE (yS AQ.out (xK.nd (xJ [46] _ H8.out.qs.yY)))
 go_wp2_with fail
 refine(VE _ p B _ R9 r.s.nd.length H9.out.qs (AL.out) (H9.out.bound HB.out (by omega))).mono ?_;rintro e AW ⟨rfl,hp⟩;obtain⟨AM,AK⟩:=xG.go H9 (vY (r.s.nd.length)) hp;clear hp;have AJ:Hid (r.s.nd.length<(Ps.nd (Rs.s (vW (r.s.nd.length) (xD [46] (zAj (r.s.nd.length) (xD [61] (xM (r.s.nd.length) (Rs.adv (Rs.yX r (i) 7))))))))).length):=yE (yS AL.out (xK.nd (vY (r.s.nd.length) _ H9.out.qs.yY)))
 go_wp2_with fail
 have AS:=yE (zS0 hc);have HC:=yE hc;clear hc;refine(vE _ p B _ AM [102,111,114] false (HC) AK.out.qs).mono ?_;rintro e _ ⟨rfl,m,rfl⟩;have AE:=xG.drew AK m;generalize AW.drewN m=Af at *;have AI:=AJ
 go_wp2_with fail
 refine(vF _ p B _ AM [59] AE.out.qs).mono ?_;rintro e Ae ⟨rfl,hp⟩;obtain⟨Ad,Ac⟩:=xG.go AE (xJ [59]) hp;clear hp;have AV:Hid (r.s.nd.length<(Ps.nd (Rs.s (xD [59] (vW (r.s.nd.length) (xD [46] (zAj (r.s.nd.length) (xD [61] (xM (r.s.nd.length) (Rs.adv (Rs.yX r (i) 7)))))))))).length):=yE (yS AI.out (xK.nd (xJ [59] _ AE.out.qs.yY)))
 go_wp2_with fail
 go_end0;rw[Aa.out,AS.out];exact⟨rfl,Ac.out.post⟩
theorem zTA (w:World)(p B:Nat)(r:Rs)(R:vJ)(f:Nat)(hst:YD f)(i:Nat)(h:QS w p B r R)(hi:i<r.s.nd.length)(hb:r.phi≤1000000)(hl:r.s.ts.length≤f+1)(hk:r.s.hd.kind=1)(hf:vP r.s.hd.text=some 8) :
  Calls Tryz.prog 160 #[.pointer (some ⟨p,0,none⟩),.int .i64 (i:Int)] w fun e w'=>e=.returned (.tuple #[])∧jO w p B R (xV (f+1) i r) w':=by
 have HB:=yE hb;have HI:=yE hi;have H0:=yE (xG.refl h);clear h hb hi;have AS:Hid (((YQ r.s.hd.text:Nat):Int)=8):=yE (by unfold YQ; rw[hf]; rfl);have AP:Hid (xV (f+1) i r=xD [59] (zSZ (r.s.nd.length) (Rs.adv (Rs.yX r (i) 8)))):=yE (by rw[xV,if_pos hk,hf]; rfl);have AM:=yE hk;have x0:=H0.out.qs.x0;have x1:=H0.out.qs.x1;have t0:w.cell? ⟨R.bt,R.o0+R.I*5,none⟩=some (.int .u8 (r.s.hd.kind:Int)):=H0.out.qs.tok 0 (by decide);have AA:=H0.out.qs.few;have AB:=H0.out.qs.yY.last.pos;have qp:=H0.out.qs.pos;rw[hk] at t0;clear hk hf
 go_enter Tryz.func160,Tryz.ntmps160
 go_wp2_with fail
 go_quiet (fail)
 rename_i nq;have H1:=xG.drew H0 nq;clear x0 x1 t0 AA AB qp;generalize w.drewN nq=w1 at *
 go_wp2_with fail
 refine(ZR _ p B r R H1.out.qs).mono ?_;rintro e _ ⟨rfl,m,rfl⟩;have H2:=xG.drew H1 m;generalize w1.drewN m=w2 at *
 go_wp2_with fail
 refine(YB _ r.s.hd.text).mono ?_;rintro e w3 ⟨rfl,hx⟩;have H3:=xG.ext H2 hx;clear hx;rw[AS.out]
 go_wp2_with fail
 refine(jK _ p B _ R (i) H3.out.qs (HI.out) (JU (H3.out.bound HB.out (by omega)))).mono ?_;rintro e AU ⟨rfl,AI,hk,hm⟩;have HK:=yE (And.intro hk hm);clear hk hm
 go_wp2_with fail
 refine(jA _ p B _ AI (i) 8 HK.out.1 (H3.out.bound HB.out (by omega))).mono ?_;rintro e w4 ⟨rfl,hp⟩;obtain⟨R4,H4⟩:=xG.yX H3 HK hp;clear hp HK;have AQ:Hid (r.s.nd.length<(Ps.nd (Rs.s (Rs.yX r (i) 8))).length):=yE (by rw[show(r.yX i 8).s.nd.length=r.s.nd.length+1 from xR r.s i 8]; omega);have AD:Hid (Tok.kind (Ps.hd (Rs.s (Rs.yX r (i) 8)))≠4):=yE (by show r.s.hd.kind≠4; rw[AM.out]; decide);have AV:Hid ((Rs.adv (Rs.yX r (i) 8)).s.ts.length≤f):=yE (by have h1:=H4.out.qs.yY.last.len AD.out; have h2:(Rs.adv (Rs.yX r (i) 8)).s.ts.length<r.s.ts.length:=h1; omega);have x1:=H4.out.qs.x1;have AN:=H4.out.qs.blk.frozen 1;have AA:=H4.out.qs.few;have AB:=H4.out.qs.yY.last.pos
 go_wp2_with fail
 have H5:=xG.adv H4 (AD.out);clear x1 AN AA AB;generalize w4.setCell ⟨p,1,none⟩ (.int .i64 ((R4.I:Int)+1))=w5 at *;generalize { R4 with I:=R4.I+1 } = R5 at *;have AF:Hid (r.s.nd.length<(Ps.nd (Rs.s (Rs.adv (Rs.yX r (i) 8)))).length):=yE (yS AQ.out (xK.nd (jI H4.out.qs.yY (AD.out))));refine(zEr _ p B _ R5 r.s.nd.length H5.out.qs (AF.out) (H5.out.bound HB.out (by omega))).mono ?_;rintro e w6 ⟨rfl,hp⟩;obtain⟨R6,H6⟩:=xG.go H5 (zAv (r.s.nd.length)) hp;clear hp;have AO:Hid (r.s.nd.length<(Ps.nd (Rs.s (zAj (r.s.nd.length) (Rs.adv (Rs.yX r (i) 8))))).length):=yE (yS AF.out (xK.nd (zAv (r.s.nd.length) _ H5.out.qs.yY)))
 go_wp2_with fail
 refine(vF _ p B _ R6 [46] H6.out.qs).mono ?_;rintro e w7 ⟨rfl,hp⟩;obtain⟨R7,H7⟩:=xG.go H6 (xJ [46]) hp;clear hp;have AH:Hid (r.s.nd.length<(Ps.nd (Rs.s (xD [46] (zAj (r.s.nd.length) (Rs.adv (Rs.yX r (i) 8)))))).length):=yE (yS AO.out (xK.nd (xJ [46] _ H6.out.qs.yY)))
 go_wp2_with fail
 refine(VE _ p B _ R7 r.s.nd.length H7.out.qs (AH.out) (H7.out.bound HB.out (by omega))).mono ?_;rintro e w8 ⟨rfl,hp⟩;obtain⟨R8,H8⟩:=xG.go H7 (vY (r.s.nd.length)) hp;clear hp;have AL:Hid (r.s.nd.length<(Ps.nd (Rs.s (vW (r.s.nd.length) (xD [46] (zAj (r.s.nd.length) (Rs.adv (Rs.yX r (i) 8))))))).length):=yE (yS AH.out (xK.nd (vY (r.s.nd.length) _ H7.out.qs.yY)))
 go_wp2_with fail
 refine(vF _ p B _ R8 [61] H8.out.qs).mono ?_;rintro e w9 ⟨rfl,hp⟩;obtain⟨R9,H9⟩:=xG.go H8 (xJ [61]) hp;clear hp;have AG:Hid (r.s.nd.length<(Ps.nd (Rs.s (xD [61] (vW (r.s.nd.length) (xD [46] (zAj (r.s.nd.length) (Rs.adv (Rs.yX r (i) 8)))))))).length):=yE (yS AL.out (xK.nd (xJ [61] _ H8.out.qs.yY)))
 go_wp2_with fail
 refine(XK _ p B _ R9 r.s.nd.length H9.out.qs (AG.out) (H9.out.bound HB.out (by omega))).mono ?_;rintro e AX ⟨rfl,hp⟩;obtain⟨AK,AC⟩:=xG.go H9 (jQ (r.s.nd.length)) hp;clear hp;have AE:Hid (r.s.nd.length<(Ps.nd (Rs.s (vU (r.s.nd.length) (xD [61] (vW (r.s.nd.length) (xD [46] (zAj (r.s.nd.length) (Rs.adv (Rs.yX r (i) 8))))))))).length):=yE (yS AG.out (xK.nd (jQ (r.s.nd.length) _ H9.out.qs.yY)))
 go_wp2_with fail
 refine(vF _ p B _ AK [59] AC.out.qs).mono ?_;rintro e AW ⟨rfl,hp⟩;obtain⟨AT,AJ⟩:=xG.go AC (xJ [59]) hp;clear hp;have AR:Hid (r.s.nd.length<(Ps.nd (Rs.s (xD [59] (vU (r.s.nd.length) (xD [61] (vW (r.s.nd.length) (xD [46] (zAj (r.s.nd.length) (Rs.adv (Rs.yX r (i) 8)))))))))).length):=yE (yS AE.out (xK.nd (xJ [59] _ AC.out.qs.yY)))
 go_wp2_with fail
 go_end0;rw[AP.out];exact⟨rfl,AJ.out.post⟩
theorem zTK (w:World)(p B:Nat)(r:Rs)(R:vJ)(f:Nat)(hst:YD f)(i:Nat)(h:QS w p B r R)(hi:i<r.s.nd.length)(hb:r.phi≤1000000)(hl:r.s.ts.length≤f+1)(hk:r.s.hd.kind=1)(hf:vP r.s.hd.text=some 9) :
  Calls Tryz.prog 160 #[.pointer (some ⟨p,0,none⟩),.int .i64 (i:Int)] w fun e w'=>e=.returned (.tuple #[])∧jO w p B R (xV (f+1) i r) w':=by
 have HB:=yE hb;have HI:=yE hi;have H0:=yE (xG.refl h);clear h hb hi;have Ah:Hid (((YQ r.s.hd.text:Nat):Int)=9):=yE (by unfold YQ; rw[hf]; rfl);have Af:Hid (xV (f+1) i r=xD [59] (zFa (r.s.nd.length) (Rs.adv (Rs.yX r (i) 9)))):=yE (by rw[xV,if_pos hk,hf]; rfl);have Ad:=yE hk;have x0:=H0.out.qs.x0;have x1:=H0.out.qs.x1;have t0:w.cell? ⟨R.bt,R.o0+R.I*5,none⟩=some (.int .u8 (r.s.hd.kind:Int)):=H0.out.qs.tok 0 (by decide);have AB:=H0.out.qs.few;have AA:=H0.out.qs.yY.last.pos;have qp:=H0.out.qs.pos;rw[hk] at t0;clear hk hf
 go_enter Tryz.func160,Tryz.ntmps160
 go_wp2_with fail
 go_quiet (fail)
 rename_i nq;have H1:=xG.drew H0 nq;clear x0 x1 t0 AB AA qp;generalize w.drewN nq=w1 at *
 go_wp2_with fail
 refine(ZR _ p B r R H1.out.qs).mono ?_;rintro e _ ⟨rfl,m,rfl⟩;have H2:=xG.drew H1 m;generalize w1.drewN m=w2 at *
 go_wp2_with fail
 refine(YB _ r.s.hd.text).mono ?_;rintro e w3 ⟨rfl,hx⟩;have H3:=xG.ext H2 hx;clear hx;rw[Ah.out]
 go_wp2_with fail
 refine(jK _ p B _ R (i) H3.out.qs (HI.out) (JU (H3.out.bound HB.out (by omega)))).mono ?_;rintro e Am ⟨rfl,Aa,hk,hm⟩;have HK:=yE (And.intro hk hm);clear hk hm
 go_wp2_with fail
 refine(jA _ p B _ Aa (i) 9 HK.out.1 (H3.out.bound HB.out (by omega))).mono ?_;rintro e w4 ⟨rfl,hp⟩;obtain⟨R4,H4⟩:=xG.yX H3 HK hp;clear hp HK;have AW:Hid (r.s.nd.length<(Ps.nd (Rs.s (Rs.yX r (i) 9))).length):=yE (by rw[show(r.yX i 9).s.nd.length=r.s.nd.length+1 from xR r.s i 9]; omega);have AH:Hid (Tok.kind (Ps.hd (Rs.s (Rs.yX r (i) 9)))≠4):=yE (by show r.s.hd.kind≠4; rw[Ad.out]; decide);have Ao:Hid ((Rs.adv (Rs.yX r (i) 9)).s.ts.length≤f):=yE (by have h1:=H4.out.qs.yY.last.len AH.out; have h2:(Rs.adv (Rs.yX r (i) 9)).s.ts.length<r.s.ts.length:=h1; omega);have x1:=H4.out.qs.x1;have AI:=H4.out.qs.blk.frozen 1;have AB:=H4.out.qs.few;have AA:=H4.out.qs.yY.last.pos
 go_wp2_with fail
 have H5:=xG.adv H4 (AH.out);clear x1 AI AB AA;generalize w4.setCell ⟨p,1,none⟩ (.int .i64 ((R4.I:Int)+1))=w5 at *;generalize { R4 with I:=R4.I+1 } = R5 at *;have AP:Hid (r.s.nd.length<(Ps.nd (Rs.s (Rs.adv (Rs.yX r (i) 9)))).length):=yE (yS AW.out (xK.nd (jI H4.out.qs.yY (AH.out))));refine(zEr _ p B _ R5 r.s.nd.length H5.out.qs (AP.out) (H5.out.bound HB.out (by omega))).mono ?_;rintro e w6 ⟨rfl,hp⟩;obtain⟨R6,H6⟩:=xG.go H5 (zAv (r.s.nd.length)) hp;clear hp;have AV:Hid (r.s.nd.length<(Ps.nd (Rs.s (zAj (r.s.nd.length) (Rs.adv (Rs.yX r (i) 9))))).length):=yE (yS AP.out (xK.nd (zAv (r.s.nd.length) _ H5.out.qs.yY)))
 go_wp2_with fail
 refine(vF _ p B _ R6 [40] H6.out.qs).mono ?_;rintro e w7 ⟨rfl,hp⟩;obtain⟨R7,H7⟩:=xG.go H6 (xJ [40]) hp;clear hp;have AQ:Hid (r.s.nd.length<(Ps.nd (Rs.s (xD [40] (zAj (r.s.nd.length) (Rs.adv (Rs.yX r (i) 9)))))).length):=yE (yS AV.out (xK.nd (xJ [40] _ H6.out.qs.yY)))
 go_wp2_with fail
 refine(XK _ p B _ R7 r.s.nd.length H7.out.qs (AQ.out) (H7.out.bound HB.out (by omega))).mono ?_;rintro e w8 ⟨rfl,hp⟩;obtain⟨R8,H8⟩:=xG.go H7 (jQ (r.s.nd.length)) hp;clear hp;have AM:Hid (r.s.nd.length<(Ps.nd (Rs.s (vU (r.s.nd.length) (xD [40] (zAj (r.s.nd.length) (Rs.adv (Rs.yX r (i) 9))))))).length):=yE (yS AQ.out (xK.nd (jQ (r.s.nd.length) _ H7.out.qs.yY)))
 go_wp2_with fail
 have HJ:=xG.le (d:=8) H8 (by decide)
 go_loopw [] (fun wr=>zSG w p B R r (vU (r.s.nd.length)) (vU (r.s.nd.length) (xD [40] (zAj (r.s.nd.length) (Rs.adv (Rs.yX r (i) 9))))) wr) (fun wr=>zA7 p wr)
 case atStart=>exact⟨_,_,_,HJ,yE (Nat.lt_succ_self _),yE rfl,yE (zU _)⟩
 case round=>
  obtain⟨q,Rq,f',AE,HF,AO,AG⟩:=hrel;obtain⟨wq,rfl⟩:∃wa:World,wa=wr:=⟨_,rfl⟩;obtain⟨AN,rfl⟩:∃n,f'=n+1:=⟨f'-1,by have:=HF.out; omega⟩;have Ac:Hid (zA7 p wq=q.s.ts.length):=yE AE.out.qs.zA7
  cases hq:q.is [44] with
  | true=>
   have HQ:=yE hq;have AL:=yE (vS hq).1;have AJ:Hid (VL (vU (r.s.nd.length)) ((Ps.ts (Rs.s (vU (r.s.nd.length) (xD [40] (zAj (r.s.nd.length) (Rs.adv (Rs.yX r (i) 9))))))).length+1) (vU (r.s.nd.length) (xD [40] (zAj (r.s.nd.length) (Rs.adv (Rs.yX r (i) 9)))))=VL (vU (r.s.nd.length)) AN ((vU (r.s.nd.length)) q.adv)):=yE (AO.out.trans (zGU hq));clear hq
   go_wp2_with fail
   refine(vE _ p B q Rq [44] true HQ AE.out.qs).mono ?_;rintro e _ ⟨rfl,m,rfl⟩;have AC:=xG.drew AE m;generalize wq.drewN m=Ae at *;have x1:=AC.out.qs.x1;have AI:=AC.out.qs.blk.frozen 1;have AB:=AC.out.qs.few;have AA:=AC.out.qs.yY.last.pos
   go_wp2_with fail
   have AD:=xG.adv AC AL.out;clear x1 AI AB AA;generalize Ae.setCell ⟨p,1,none⟩ (.int .i64 ((Rq.I:Int)+1))=An at *;generalize { Rq with I:=Rq.I+1 } = Rq2 at *;refine(XK _ p B _ Rq2 r.s.nd.length AD.out.qs (yS (AM.out) (Nat.le_trans AG.out (zU _))) (AD.out.bound HB.out (by omega))).mono ?_;rintro e Ap ⟨rfl,hp⟩;obtain⟨Aj,AY⟩:=xG.go AD (jQ (r.s.nd.length)) hp;clear hp
   have AS:Hid (((vU (r.s.nd.length)) q.adv).s.ts.length<q.s.ts.length):=yE (by
    have h1:=AC.out.qs.yY.last.len AL.out;have h2:=(jQ (r.s.nd.length) q.adv AD.out.qs.yY).ts;have h3:q.adv.s.ts.length<q.s.ts.length:=h1
    omega)
   have AT:Hid ((Ps.nd (Rs.s (vU (r.s.nd.length) (xD [40] (zAj (r.s.nd.length) (Rs.adv (Rs.yX r (i) 9))))))).length≤((vU (r.s.nd.length)) q.adv).s.nd.length):=yE (Nat.le_trans AG.out (jQ (r.s.nd.length) q.adv AD.out.qs.yY).nd);have AR:=xG.le (d:=8) AY (by decide)
   go_wp2_with fail
   go_roundw
   case rel=>exact⟨_,_,AN,AR,yE (by have:=AS.out; have:=HF.out; omega),AJ,AT⟩
   case measure=>rw[Ac.out,AR.out.qs.zA7]; exact AS.out
  | false=>
   have HQ:=yE hq;have AZ:Hid (zCO (vU (r.s.nd.length)) (xD [40] (zAj (r.s.nd.length) (Rs.adv (Rs.yX r (i) 9))))=q):=yE (AO.out.trans (zJp hq));clear hq
   go_wp2_with fail
   refine(vE _ p B q Rq [44] false HQ AE.out.qs).mono ?_;rintro e _ ⟨rfl,m,rfl⟩;have H9:=xG.drew AE m;generalize wq.drewN m=w9 at *;have AX:Hid (r.s.nd.length<q.s.nd.length):=yE (yS AM.out AG.out)
   go_wp2_with fail
   refine(vF _ p B _ Rq [41] H9.out.qs).mono ?_;rintro e Al ⟨rfl,hp⟩;obtain⟨Ab,AF⟩:=xG.go H9 (xJ [41]) hp;clear hp;have AK:Hid (r.s.nd.length<(Ps.nd (Rs.s (xD [41] q))).length):=yE (yS AX.out (xK.nd (xJ [41] _ H9.out.qs.yY)))
   go_wp2_with fail
   refine(vF _ p B _ Ab [59] AF.out.qs).mono ?_;rintro e Ak ⟨rfl,hp⟩;obtain⟨Ai,AU⟩:=xG.go AF (xJ [59]) hp;clear hp;have Ag:Hid (r.s.nd.length<(Ps.nd (Rs.s (xD [59] (xD [41] q)))).length):=yE (yS AK.out (xK.nd (xJ [59] _ AF.out.qs.yY)))
   go_wp2_with fail
   go_end0;rw[Af.out,show zFa (r.s.nd.length) (Rs.adv (Rs.yX r (i) 9))=xD [41] (zCO (vU (r.s.nd.length)) (xD [40] (zAj (r.s.nd.length) (Rs.adv (Rs.yX r (i) 9))))) from rfl,AZ.out];exact⟨rfl,AU.out.post⟩
theorem zO3 (w:World)(p B:Nat)(r:Rs)(R:vJ)(f:Nat)(hst:YD f)(i:Nat)(h:QS w p B r R)(hi:i<r.s.nd.length)(hb:r.phi≤1000000)(hl:r.s.ts.length≤f+1)(hk:r.s.hd.kind=1)(hf:vP r.s.hd.text=some 10) :
  Calls Tryz.prog 160 #[.pointer (some ⟨p,0,none⟩),.int .i64 (i:Int)] w fun e w'=>e=.returned (.tuple #[])∧jO w p B R (xV (f+1) i r) w':=by
 have HB:=yE hb;have HI:=yE hi;have H0:=yE (xG.refl h);clear h hb hi;have AK:Hid (((YQ r.s.hd.text:Nat):Int)=10):=yE (by unfold YQ; rw[hf]; rfl);have AI:Hid (xV (f+1) i r=xD [59] (zAj (r.s.nd.length) (Rs.adv (Rs.yX r (i) 10)))):=yE (by rw[xV,if_pos hk,hf]; rfl);have AF:=yE hk;have x0:=H0.out.qs.x0;have x1:=H0.out.qs.x1;have t0:w.cell? ⟨R.bt,R.o0+R.I*5,none⟩=some (.int .u8 (r.s.hd.kind:Int)):=H0.out.qs.tok 0 (by decide);have AA:=H0.out.qs.few;have AB:=H0.out.qs.yY.last.pos;have qp:=H0.out.qs.pos;rw[hk] at t0;clear hk hf
 go_enter Tryz.func160,Tryz.ntmps160
 go_wp2_with fail
 go_quiet (fail)
 rename_i nq;have H1:=xG.drew H0 nq;clear x0 x1 t0 AA AB qp;generalize w.drewN nq=w1 at *
 go_wp2_with fail
 refine(ZR _ p B r R H1.out.qs).mono ?_;rintro e _ ⟨rfl,m,rfl⟩;have H2:=xG.drew H1 m;generalize w1.drewN m=w2 at *
 go_wp2_with fail
 refine(YB _ r.s.hd.text).mono ?_;rintro e w3 ⟨rfl,hx⟩;have H3:=xG.ext H2 hx;clear hx;rw[AK.out]
 go_wp2_with fail
 refine(jK _ p B _ R (i) H3.out.qs (HI.out) (JU (H3.out.bound HB.out (by omega)))).mono ?_;rintro e AL ⟨rfl,AE,hk,hm⟩;have HK:=yE (And.intro hk hm);clear hk hm
 go_wp2_with fail
 refine(jA _ p B _ AE (i) 10 HK.out.1 (H3.out.bound HB.out (by omega))).mono ?_;rintro e w4 ⟨rfl,hp⟩;obtain⟨R4,H4⟩:=xG.yX H3 HK hp;clear hp HK;have AJ:Hid (r.s.nd.length<(Ps.nd (Rs.s (Rs.yX r (i) 10))).length):=yE (by rw[show(r.yX i 10).s.nd.length=r.s.nd.length+1 from xR r.s i 10]; omega);have AC:Hid (Tok.kind (Ps.hd (Rs.s (Rs.yX r (i) 10)))≠4):=yE (by show r.s.hd.kind≠4; rw[AF.out]; decide);have AM:Hid ((Rs.adv (Rs.yX r (i) 10)).s.ts.length≤f):=yE (by have h1:=H4.out.qs.yY.last.len AC.out; have h2:(Rs.adv (Rs.yX r (i) 10)).s.ts.length<r.s.ts.length:=h1; omega);have x1:=H4.out.qs.x1;have AG:=H4.out.qs.blk.frozen 1;have AA:=H4.out.qs.few;have AB:=H4.out.qs.yY.last.pos
 go_wp2_with fail
 have H5:=xG.adv H4 (AC.out);clear x1 AG AA AB;generalize w4.setCell ⟨p,1,none⟩ (.int .i64 ((R4.I:Int)+1))=w5 at *;generalize { R4 with I:=R4.I+1 } = R5 at *;have AD:Hid (r.s.nd.length<(Ps.nd (Rs.s (Rs.adv (Rs.yX r (i) 10)))).length):=yE (yS AJ.out (xK.nd (jI H4.out.qs.yY (AC.out))));refine(zEr _ p B _ R5 r.s.nd.length H5.out.qs (AD.out) (H5.out.bound HB.out (by omega))).mono ?_;rintro e w6 ⟨rfl,hp⟩;obtain⟨R6,H6⟩:=xG.go H5 (zAv (r.s.nd.length)) hp;clear hp;have AH:Hid (r.s.nd.length<(Ps.nd (Rs.s (zAj (r.s.nd.length) (Rs.adv (Rs.yX r (i) 10))))).length):=yE (yS AD.out (xK.nd (zAv (r.s.nd.length) _ H5.out.qs.yY)))
 go_wp2_with fail
 refine(vF _ p B _ R6 [59] H6.out.qs).mono ?_;rintro e w7 ⟨rfl,hp⟩;obtain⟨R7,H7⟩:=xG.go H6 (xJ [59]) hp;clear hp;have AN:Hid (r.s.nd.length<(Ps.nd (Rs.s (xD [59] (zAj (r.s.nd.length) (Rs.adv (Rs.yX r (i) 10)))))).length):=yE (yS AH.out (xK.nd (xJ [59] _ H6.out.qs.yY)))
 go_wp2_with fail
 go_end0;rw[AI.out];exact⟨rfl,H7.out.post⟩
theorem zSn (w:World)(p B:Nat)(r:Rs)(R:vJ)(f:Nat)(hst:YD f)(i:Nat)(h:QS w p B r R)(hi:i<r.s.nd.length)(hb:r.phi≤1000000)(hl:r.s.ts.length≤f+1)(hk:r.s.hd.kind=1)(hf:vP r.s.hd.text=some 11) :
  Calls Tryz.prog 160 #[.pointer (some ⟨p,0,none⟩),.int .i64 (i:Int)] w fun e w'=>e=.returned (.tuple #[])∧jO w p B R (xV (f+1) i r) w':=by
 have HB:=yE hb;have HI:=yE hi;have H0:=yE (xG.refl h);clear h hb hi;have AY:Hid (((YQ r.s.hd.text:Nat):Int)=11):=yE (by unfold YQ; rw[hf]; rfl);have AW:Hid (xV (f+1) i r=xD [59] (zNJ (r.s.nd.length) (Rs.adv (Rs.yX r (i) 11)))):=yE (by rw[xV,if_pos hk,hf]; rfl);have AU:=yE hk;have x0:=H0.out.qs.x0;have x1:=H0.out.qs.x1;have t0:w.cell? ⟨R.bt,R.o0+R.I*5,none⟩=some (.int .u8 (r.s.hd.kind:Int)):=H0.out.qs.tok 0 (by decide);have AB:=H0.out.qs.few;have AC:=H0.out.qs.yY.last.pos;have qp:=H0.out.qs.pos;rw[hk] at t0;clear hk hf
 go_enter Tryz.func160,Tryz.ntmps160
 go_wp2_with fail
 go_quiet (fail)
 rename_i nq;have H1:=xG.drew H0 nq;clear x0 x1 t0 AB AC qp;generalize w.drewN nq=w1 at *
 go_wp2_with fail
 refine(ZR _ p B r R H1.out.qs).mono ?_;rintro e _ ⟨rfl,m,rfl⟩;have H2:=xG.drew H1 m;generalize w1.drewN m=w2 at *
 go_wp2_with fail
 refine(YB _ r.s.hd.text).mono ?_;rintro e w3 ⟨rfl,hx⟩;have H3:=xG.ext H2 hx;clear hx;rw[AY.out]
 go_wp2_with fail
 refine(jK _ p B _ R (i) H3.out.qs (HI.out) (JU (H3.out.bound HB.out (by omega)))).mono ?_;rintro e Ac ⟨rfl,AS,hk,hm⟩;have HK:=yE (And.intro hk hm);clear hk hm
 go_wp2_with fail
 refine(jA _ p B _ AS (i) 11 HK.out.1 (H3.out.bound HB.out (by omega))).mono ?_;rintro e w4 ⟨rfl,hp⟩;obtain⟨R4,H4⟩:=xG.yX H3 HK hp;clear hp HK;have AR:Hid (r.s.nd.length<(Ps.nd (Rs.s (Rs.yX r (i) 11))).length):=yE (by rw[show(r.yX i 11).s.nd.length=r.s.nd.length+1 from xR r.s i 11]; omega);have AG:Hid (Tok.kind (Ps.hd (Rs.s (Rs.yX r (i) 11)))≠4):=yE (by show r.s.hd.kind≠4; rw[AU.out]; decide);have Ad:Hid ((Rs.adv (Rs.yX r (i) 11)).s.ts.length≤f):=yE (by have h1:=H4.out.qs.yY.last.len AG.out; have h2:(Rs.adv (Rs.yX r (i) 11)).s.ts.length<r.s.ts.length:=h1; omega);have x1:=H4.out.qs.x1;have AV:=H4.out.qs.blk.frozen 1;have AB:=H4.out.qs.few;have AC:=H4.out.qs.yY.last.pos
 go_wp2_with fail
 have H5:=xG.adv H4 (AG.out);clear x1 AV AB AC;generalize w4.setCell ⟨p,1,none⟩ (.int .i64 ((R4.I:Int)+1))=w5 at *;generalize { R4 with I:=R4.I+1 } = R5 at *;have AK:Hid (r.s.nd.length<(Ps.nd (Rs.s (Rs.adv (Rs.yX r (i) 11)))).length):=yE (yS AR.out (xK.nd (jI H4.out.qs.yY (AG.out))));obtain⟨g5,AH,hA,AP,AE⟩:=H5.out.qs.YC (i:=r.s.nd.length) (AK.out);have x3:=H5.out.qs.x3 hA;have AD:=yE hA;have q0:(0:Int)≤((r.s.nd.length:Nat):Int):=Int.natCast_nonneg _
 have q1:((r.s.nd.length:Nat):Int)<(R5.nh.length:Int):=by omega
 clear hA
 go_region_held3 (fun w'=>w'.cell? ⟨p,3,none⟩=some (.slice (some ⟨g5,0,none⟩) R5.nh.length R5.c))
  (first
   | assumption
   | go_keep
   | exact AM _)
  (first
   | (go_at_call 123; refine(zBk _ p B _ R5 (H5.out.qs.ext (by first | exact Ext.refl _ | exact Below.drew (Below.refl _ _)))).mono ?_; rintro e AA ⟨rfl,I5,hq,hm⟩; have y1:AA.cell? ⟨p,3,none⟩=some (.slice (some ⟨g5,0,none⟩) R5.nh.length R5.c):=hq.x3 AD.out; have HN:=yE (And.intro hq hm); have c2:AA.cell? ⟨g5,r.s.nd.length*5+2,none⟩=some (.string (xE (R5.nh[r.s.nd.length]'AH).1.text)):=(hq.jP _ AH AD.out 2 (by decide)); have z2:AA.frozen? ⟨g5,r.s.nd.length*5+2,none⟩=false:=hq.JZ _ AD.out; have AM:∀u,(AA.setCell ⟨g5,r.s.nd.length*5+2,none⟩ u).cell? ⟨p,3,none⟩=some (.slice (some ⟨g5,0,none⟩) R5.nh.length R5.c):=fun u=>(World.cell?_of_block (w:=AA) (a:=⟨p,3,none⟩) (zQ AA ⟨g5,r.s.nd.length*5+2,none⟩ u p (fun e=>AE e.symm))).trans y1; clear hq hm)
   | (fail))
 obtain⟨R6,H6⟩:=xG.named (i:=r.s.nd.length) (g:=g5) H5 HN.out.1 ((yZ.ext (by first | exact Ext.refl _ | exact Below.drew (Below.refl _ _))).trans HN.out.2) AH AD.out;clear c2 z2 y1 AM x3 q0 q1 HN;generalize AA.setCell ⟨g5,r.s.nd.length*5+2,none⟩ (.string (xE (Rs.zAz (Rs.adv (Rs.yX r (i) 11)))))=w6 at *;have AQ:Hid (r.s.nd.length<(Ps.nd (Rs.s (xM (r.s.nd.length) (Rs.adv (Rs.yX r (i) 11))))).length):=yE (yS AK.out (xK.nd (jY (r.s.nd.length) _ H5.out.qs.yY)))
 go_wp2_with fail
 refine(vF _ p B _ R6 [61] H6.out.qs).mono ?_;rintro e w7 ⟨rfl,hp⟩;obtain⟨R7,H7⟩:=xG.go H6 (xJ [61]) hp;clear hp;have AL:Hid (r.s.nd.length<(Ps.nd (Rs.s (xD [61] (xM (r.s.nd.length) (Rs.adv (Rs.yX r (i) 11)))))).length):=yE (yS AQ.out (xK.nd (xJ [61] _ H6.out.qs.yY)))
 go_wp2_with fail
 refine(VE _ p B _ R7 r.s.nd.length H7.out.qs (AL.out) (H7.out.bound HB.out (by omega))).mono ?_;rintro e w8 ⟨rfl,hp⟩;obtain⟨R8,H8⟩:=xG.go H7 (vY (r.s.nd.length)) hp;clear hp;have AO:Hid (r.s.nd.length<(Ps.nd (Rs.s (vW (r.s.nd.length) (xD [61] (xM (r.s.nd.length) (Rs.adv (Rs.yX r (i) 11))))))).length):=yE (yS AL.out (xK.nd (vY (r.s.nd.length) _ H7.out.qs.yY)))
 go_wp2_with fail
 refine(vF _ p B _ R8 [46] H8.out.qs).mono ?_;rintro e w9 ⟨rfl,hp⟩;obtain⟨R9,H9⟩:=xG.go H8 (xJ [46]) hp;clear hp;have AJ:Hid (r.s.nd.length<(Ps.nd (Rs.s (xD [46] (vW (r.s.nd.length) (xD [61] (xM (r.s.nd.length) (Rs.adv (Rs.yX r (i) 11)))))))).length):=yE (yS AO.out (xK.nd (xJ [46] _ H8.out.qs.yY)))
 go_wp2_with fail
 refine(VE _ p B _ R9 r.s.nd.length H9.out.qs (AJ.out) (H9.out.bound HB.out (by omega))).mono ?_;rintro e Ab ⟨rfl,hp⟩;obtain⟨AT,AF⟩:=xG.go H9 (vY (r.s.nd.length)) hp;clear hp;have AI:Hid (r.s.nd.length<(Ps.nd (Rs.s (vW (r.s.nd.length) (xD [46] (vW (r.s.nd.length) (xD [61] (xM (r.s.nd.length) (Rs.adv (Rs.yX r (i) 11))))))))).length):=yE (yS AJ.out (xK.nd (vY (r.s.nd.length) _ H9.out.qs.yY)))
 go_wp2_with fail
 refine(vF _ p B _ AT [59] AF.out.qs).mono ?_;rintro e Aa ⟨rfl,hp⟩;obtain⟨AZ,AN⟩:=xG.go AF (xJ [59]) hp;clear hp;have AX:Hid (r.s.nd.length<(Ps.nd (Rs.s (xD [59] (vW (r.s.nd.length) (xD [46] (vW (r.s.nd.length) (xD [61] (xM (r.s.nd.length) (Rs.adv (Rs.yX r (i) 11)))))))))).length):=yE (yS AI.out (xK.nd (xJ [59] _ AF.out.qs.yY)))
 go_wp2_with fail
 go_end0;rw[AW.out];exact⟨rfl,AN.out.post⟩
end Go.Proofs.YtioffpjajhalaaaGreatDoor
