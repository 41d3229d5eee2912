/- The document's table, proc, Parse. Condition: the nodes fit into memory. -/
import Derived.Test.YtioffpjajhalaaaGreatDoorKaa
import Derived.Test.YtioffpjajhalaaaGreatDoorKbj
import Derived.Test.YtioffpjajhalaaaGreatDoorKbl
set_option linter.unusedVariables false
set_option linter.unusedSimpArgs false
set_option maxRecDepth 100000
set_option maxHeartbeats 16000000
namespace Go.Proofs.YtioffpjajhalaaaGreatDoor
open Go Go.RowKit
theorem zOh {i:Nat}{r:Rs}(h:(r.yX i 4).is [41]=true):zB5 i r=r.yX i 4:=by unfold zB5; dsimp only; rw[if_pos h]
theorem zQR {i:Nat}{r:Rs}(h:(r.yX i 4).is [41]=false):zB5 i r=zCO (vW r.s.nd.length) (r.yX i 4):=by unfold zB5; dsimp only; rw[h]; rfl
theorem zHJ {i:Nat}{r:Rs}(h:r.is [115,105,110,103,108,101]=true):singleR i r=(r.num i 1).adv:=by unfold singleR; rw[if_pos h]
theorem zJD {i:Nat}{r:Rs}(h:r.is [115,105,110,103,108,101]=false):singleR i r=r:=by unfold singleR; rw[h]; rfl
theorem zOB (w:World)(p B:Nat)(r:Rs)(R:vJ)  (h:QS w p B r R)(hb:r.phi≤1000000)(hi:0<r.s.nd.length)(hk:r.s.hd.kind≠4) :
  Calls Tryz.prog 76 #[.pointer (some ⟨p,0,none⟩)] w fun e w'=>e=.returned (.tuple #[])∧jO w p B R (zEs 0 r) w':=by
 have HB:=yE hb;have H0:=yE (xG.refl h);clear h hb;have HI:=yE hi;have AR:=yE hk;clear hi hk
 go_enter Tryz.func76,Tryz.ntmps76
 go_wp2_with fail
 refine(jK _ p B _ R (0) H0.out.qs (HI.out) (JU (H0.out.bound HB.out (by omega)))).mono ?_;rintro e Ak ⟨rfl,AZ,hk,hm⟩;have HK:=yE (And.intro hk hm);clear hk hm
 go_wp2_with fail
 refine(jA _ p B _ AZ (0) 2 HK.out.1 (H0.out.bound HB.out (by omega))).mono ?_;rintro e w1 ⟨rfl,hp⟩;obtain⟨R1,H1⟩:=xG.yX H0 HK hp;clear hp HK;have Ae:Hid (r.s.nd.length<(Ps.nd (Rs.s (Rs.yX r (0) 2))).length):=yE (by rw[show(r.yX 0 2).s.nd.length=r.s.nd.length+1 from xR r.s 0 2]; omega);have x1:=H1.out.qs.x1;have AL:=H1.out.qs.blk.frozen 1;have AC:=H1.out.qs.few;have AA:=H1.out.qs.yY.last.pos
 go_wp2_with fail
 have H2:=xG.adv H1 (AR.out);clear x1 AL AC AA;generalize w1.setCell ⟨p,1,none⟩ (.int .i64 ((R1.I:Int)+1))=w2 at *;generalize { R1 with I:=R1.I+1 } = R2 at *;have AP:Hid (r.s.nd.length<(Ps.nd (Rs.s (Rs.adv (Rs.yX r (0) 2)))).length):=yE (yS Ae.out (xK.nd (jI H1.out.qs.yY (AR.out))));obtain⟨g2,AJ,hA,AX,AK⟩:=H2.out.qs.YC (i:=r.s.nd.length) (AP.out);have x3:=H2.out.qs.x3 hA;have AG:=yE hA;have q0:(0:Int)≤((r.s.nd.length:Nat):Int):=Int.natCast_nonneg _
 have q1:((r.s.nd.length:Nat):Int)<(R2.nh.length:Int):=by omega
 clear hA
 go_region_held3 (fun w'=>w'.cell? ⟨p,3,none⟩=some (.slice (some ⟨g2,0,none⟩) R2.nh.length R2.c))
  (first
   | assumption
   | go_keep
   | exact AS _)
  (first
   | (go_at_call 123; refine(zBk _ p B _ R2 (H2.out.qs.ext (by first | exact Ext.refl _ | exact Below.drew (Below.refl _ _)))).mono ?_; rintro e AB ⟨rfl,I2,hq,hm⟩; have y1:AB.cell? ⟨p,3,none⟩=some (.slice (some ⟨g2,0,none⟩) R2.nh.length R2.c):=hq.x3 AG.out; have HN:=yE (And.intro hq hm); have c2:AB.cell? ⟨g2,r.s.nd.length*5+2,none⟩=some (.string (xE (R2.nh[r.s.nd.length]'AJ).1.text)):=(hq.jP _ AJ AG.out 2 (by decide)); have z2:AB.frozen? ⟨g2,r.s.nd.length*5+2,none⟩=false:=hq.JZ _ AG.out; have AS:∀u,(AB.setCell ⟨g2,r.s.nd.length*5+2,none⟩ u).cell? ⟨p,3,none⟩=some (.slice (some ⟨g2,0,none⟩) R2.nh.length R2.c):=fun u=>(World.cell?_of_block (w:=AB) (a:=⟨p,3,none⟩) (zQ AB ⟨g2,r.s.nd.length*5+2,none⟩ u p (fun e=>AK e.symm))).trans y1; clear hq hm)
   | (fail))
 obtain⟨R3,H3⟩:=xG.named (i:=r.s.nd.length) (g:=g2) H2 HN.out.1 ((yZ.ext (by first | exact Ext.refl _ | exact Below.drew (Below.refl _ _))).trans HN.out.2) AJ AG.out;clear c2 z2 y1 AS x3 q0 q1 HN;generalize AB.setCell ⟨g2,r.s.nd.length*5+2,none⟩ (.string (xE (Rs.zAz (Rs.adv (Rs.yX r (0) 2)))))=w3 at *;have AH:Hid (r.s.nd.length<(Ps.nd (Rs.s (xM (r.s.nd.length) (Rs.adv (Rs.yX r (0) 2))))).length):=yE (yS AP.out (xK.nd (jY (r.s.nd.length) _ H2.out.qs.yY)))
 go_wp2_with fail
 refine(vF _ p B _ R3 [40] H3.out.qs).mono ?_;rintro e w4 ⟨rfl,hp⟩;obtain⟨R4,H4⟩:=xG.go H3 (xJ [40]) hp;clear hp;have AO:Hid (r.s.nd.length<(Ps.nd (Rs.s (xD [40] (xM (r.s.nd.length) (Rs.adv (Rs.yX r (0) 2)))))).length):=yE (yS AH.out (xK.nd (xJ [40] _ H3.out.qs.yY)))
 go_wp2_with fail
 refine(VE _ p B _ R4 r.s.nd.length H4.out.qs (AO.out) (H4.out.bound HB.out (by omega))).mono ?_;rintro e w5 ⟨rfl,hp⟩;obtain⟨R5,H5⟩:=xG.go H4 (vY (r.s.nd.length)) hp;clear hp;have AU:Hid (r.s.nd.length<(Ps.nd (Rs.s (vW (r.s.nd.length) (xD [40] (xM (r.s.nd.length) (Rs.adv (Rs.yX r (0) 2))))))).length):=yE (yS AO.out (xK.nd (vY (r.s.nd.length) _ H4.out.qs.yY)))
 go_wp2_with fail
 have HJ:=xG.le (d:=8) H5 (by decide)
 go_loopw [] (fun wr=>zSG w p B R r (vW (r.s.nd.length)) (vW (r.s.nd.length) (xD [40] (xM (r.s.nd.length) (Rs.adv (Rs.yX r (0) 2))))) wr) (fun wr=>zA7 p wr)
 case atStart=>exact⟨_,_,_,HJ,yE (Nat.lt_succ_self _),yE rfl,yE (zU _)⟩
 case round=>
  obtain⟨q,Rq,f',AF,HF,AT,AI⟩:=hrel;obtain⟨wq,rfl⟩:∃wa:World,wa=wr:=⟨_,rfl⟩;obtain⟨AQ,rfl⟩:∃n,f'=n+1:=⟨f'-1,by have:=HF.out; omega⟩;have Ac:Hid (zA7 p wq=q.s.ts.length):=yE AF.out.qs.zA7
  cases hq:q.is [44] with
  | true=>
   have HQ:=yE hq;have AN:=yE (vS hq).1;have AM:Hid (VL (vW (r.s.nd.length)) ((Ps.ts (Rs.s (vW (r.s.nd.length) (xD [40] (xM (r.s.nd.length) (Rs.adv (Rs.yX r (0) 2))))))).length+1) (vW (r.s.nd.length) (xD [40] (xM (r.s.nd.length) (Rs.adv (Rs.yX r (0) 2)))))=VL (vW (r.s.nd.length)) AQ ((vW (r.s.nd.length)) q.adv)):=yE (AT.out.trans (zGU hq));clear hq
   go_wp2_with fail
   refine(vE _ p B q Rq [44] true HQ AF.out.qs).mono ?_;rintro e _ ⟨rfl,m,rfl⟩;have AD:=xG.drew AF m;generalize wq.drewN m=Ad at *;have x1:=AD.out.qs.x1;have AL:=AD.out.qs.blk.frozen 1;have AC:=AD.out.qs.few;have AA:=AD.out.qs.yY.last.pos
   go_wp2_with fail
   have AE:=xG.adv AD AN.out;clear x1 AL AC AA;generalize Ad.setCell ⟨p,1,none⟩ (.int .i64 ((Rq.I:Int)+1))=Ai at *;generalize { Rq with I:=Rq.I+1 } = Rq2 at *;refine(VE _ p B _ Rq2 r.s.nd.length AE.out.qs (yS (AU.out) (Nat.le_trans AI.out (zU _))) (AE.out.bound HB.out (by omega))).mono ?_;rintro e Aj ⟨rfl,hp⟩;obtain⟨Ag,Aa⟩:=xG.go AE (vY (r.s.nd.length)) hp;clear hp
   have AW:Hid (((vW (r.s.nd.length)) q.adv).s.ts.length<q.s.ts.length):=yE (by
    have h1:=AD.out.qs.yY.last.len AN.out;have h2:=(vY (r.s.nd.length) q.adv AE.out.qs.yY).ts;have h3:q.adv.s.ts.length<q.s.ts.length:=h1
    omega)
   have AH:Hid ((Ps.nd (Rs.s (vW (r.s.nd.length) (xD [40] (xM (r.s.nd.length) (Rs.adv (Rs.yX r (0) 2))))))).length≤((vW (r.s.nd.length)) q.adv).s.nd.length):=yE (Nat.le_trans AI.out (vY (r.s.nd.length) q.adv AE.out.qs.yY).nd);have AV:=xG.le (d:=8) Aa (by decide)
   go_wp2_with fail
   go_roundw
   case rel=>exact⟨_,_,AQ,AV,yE (by have:=AW.out; have:=HF.out; omega),AM,AH⟩
   case measure=>rw[Ac.out,AV.out.qs.zA7]; exact AW.out
  | false=>
   have HQ:=yE hq;have Ab:Hid (zCO (vW (r.s.nd.length)) (xD [40] (xM (r.s.nd.length) (Rs.adv (Rs.yX r (0) 2))))=q):=yE (AT.out.trans (zJp hq));clear hq
   go_wp2_with fail
   refine(vE _ p B q Rq [44] false HQ AF.out.qs).mono ?_;rintro e _ ⟨rfl,m,rfl⟩;have H6:=xG.drew AF m;generalize wq.drewN m=w6 at *;have AY:Hid (r.s.nd.length<q.s.nd.length):=yE (yS AU.out AI.out)
   go_wp2_with fail
   refine(vF _ p B _ Rq [41] H6.out.qs).mono ?_;rintro e w7 ⟨rfl,hp⟩;obtain⟨R7,H7⟩:=xG.go H6 (xJ [41]) hp;clear hp;have Af:Hid (r.s.nd.length<(Ps.nd (Rs.s (xD [41] q))).length):=yE (yS AY.out (xK.nd (xJ [41] _ H6.out.qs.yY)))
   go_wp2_with fail
   refine(vF _ p B _ R7 [59] H7.out.qs).mono ?_;rintro e w8 ⟨rfl,hp⟩;obtain⟨R8,H8⟩:=xG.go H7 (xJ [59]) hp;clear hp;have Ah:Hid (r.s.nd.length<(Ps.nd (Rs.s (xD [59] (xD [41] q)))).length):=yE (yS Af.out (xK.nd (xJ [59] _ H7.out.qs.yY)))
   go_wp2_with fail
   go_end0;rw[show zEs 0 r=xD [59] (xD [41] (zCO (vW (r.s.nd.length)) (xD [40] (xM (r.s.nd.length) (Rs.adv (Rs.yX r (0) 2)))))) from rfl,Ab.out];exact⟨rfl,H8.out.post⟩
theorem zQ6 (w:World)(p B:Nat)(r:Rs)(R:vJ)  (h:QS w p B r R)(hb:r.phi≤1000000)(hi:0<r.s.nd.length)(hk:r.s.hd.kind≠4) :
  Calls Tryz.prog 77 #[.pointer (some ⟨p,0,none⟩)] w fun e w'=>e=.returned (.tuple #[])∧jO w p B R (zEK 0 r) w':=by
 have HB:=yE hb;have H0:=yE (xG.refl h);clear h hb;have HI:=yE hi;have Ap:=yE hk;clear hi hk
 go_enter Tryz.func77,Tryz.ntmps77
 go_wp2_with fail
 refine(jK _ p B _ R (0) H0.out.qs (HI.out) (JU (H0.out.bound HB.out (by omega)))).mono ?_;rintro e BD ⟨rfl,Ay,hk,hm⟩;have HK:=yE (And.intro hk hm);clear hk hm
 go_wp2_with fail
 refine(jA _ p B _ Ay (0) 3 HK.out.1 (H0.out.bound HB.out (by omega))).mono ?_;rintro e w1 ⟨rfl,hp⟩;obtain⟨R1,H1⟩:=xG.yX H0 HK hp;clear hp HK;have A4:Hid (r.s.nd.length<(Ps.nd (Rs.s (Rs.yX r (0) 3))).length):=yE (by rw[show(r.yX 0 3).s.nd.length=r.s.nd.length+1 from xR r.s 0 3]; omega);have x1:=H1.out.qs.x1;have AK:=H1.out.qs.blk.frozen 1;have AD:=H1.out.qs.few;have AC:=H1.out.qs.yY.last.pos
 go_wp2_with fail
 have H2:=xG.adv H1 (Ap.out);clear x1 AK AD AC;generalize w1.setCell ⟨p,1,none⟩ (.int .i64 ((R1.I:Int)+1))=w2 at *;generalize { R1 with I:=R1.I+1 } = R2 at *;have Ak:Hid (r.s.nd.length<(Ps.nd (Rs.s (Rs.adv (Rs.yX r (0) 3)))).length):=yE (yS A4.out (xK.nd (jI H1.out.qs.yY (Ap.out))));obtain⟨g2,Ac,hA,Ax,Ad⟩:=H2.out.qs.YC (i:=r.s.nd.length) (Ak.out);have x3:=H2.out.qs.x3 hA;have AT:=yE hA;have q0:(0:Int)≤((r.s.nd.length:Nat):Int):=Int.natCast_nonneg _
 have q1:((r.s.nd.length:Nat):Int)<(R2.nh.length:Int):=by omega
 clear hA
 go_region_held3 (fun w'=>w'.cell? ⟨p,3,none⟩=some (.slice (some ⟨g2,0,none⟩) R2.nh.length R2.c))
  (first
   | assumption
   | go_keep
   | exact Aq _)
  (first
   | (go_at_call 123; refine(zBk _ p B _ R2 (H2.out.qs.ext (by first | exact Ext.refl _ | exact Below.drew (Below.refl _ _)))).mono ?_; rintro e AJ ⟨rfl,I2,hq,hm⟩; have y1:AJ.cell? ⟨p,3,none⟩=some (.slice (some ⟨g2,0,none⟩) R2.nh.length R2.c):=hq.x3 AT.out; have HN:=yE (And.intro hq hm); have c2:AJ.cell? ⟨g2,r.s.nd.length*5+2,none⟩=some (.string (xE (R2.nh[r.s.nd.length]'Ac).1.text)):=(hq.jP _ Ac AT.out 2 (by decide)); have z2:AJ.frozen? ⟨g2,r.s.nd.length*5+2,none⟩=false:=hq.JZ _ AT.out; have Aq:∀u,(AJ.setCell ⟨g2,r.s.nd.length*5+2,none⟩ u).cell? ⟨p,3,none⟩=some (.slice (some ⟨g2,0,none⟩) R2.nh.length R2.c):=fun u=>(World.cell?_of_block (w:=AJ) (a:=⟨p,3,none⟩) (zQ AJ ⟨g2,r.s.nd.length*5+2,none⟩ u p (fun e=>Ad e.symm))).trans y1; clear hq hm)
   | (fail))
 obtain⟨R3,H3⟩:=xG.named (i:=r.s.nd.length) (g:=g2) H2 HN.out.1 ((yZ.ext (by first | exact Ext.refl _ | exact Below.drew (Below.refl _ _))).trans HN.out.2) Ac AT.out;clear c2 z2 y1 Aq x3 q0 q1 HN;generalize AJ.setCell ⟨g2,r.s.nd.length*5+2,none⟩ (.string (xE (Rs.zAz (Rs.adv (Rs.yX r (0) 3)))))=w3 at *;have AX:Hid (r.s.nd.length<(Ps.nd (Rs.s (xM (r.s.nd.length) (Rs.adv (Rs.yX r (0) 3))))).length):=yE (yS Ak.out (xK.nd (jY (r.s.nd.length) _ H2.out.qs.yY)))
 go_wp2_with fail
 refine(vF _ p B _ R3 [40] H3.out.qs).mono ?_;rintro e w4 ⟨rfl,hp⟩;obtain⟨R4,H4⟩:=xG.go H3 (xJ [40]) hp;clear hp;have Aj:Hid (r.s.nd.length<(Ps.nd (Rs.s (xD [40] (xM (r.s.nd.length) (Rs.adv (Rs.yX r (0) 3)))))).length):=yE (yS AX.out (xK.nd (xJ [40] _ H3.out.qs.yY)))
 go_wp2_with fail
 refine(jK _ p B _ R4 (r.s.nd.length) H4.out.qs (Aj.out) (JU (H4.out.bound HB.out (by omega)))).mono ?_;rintro e A9 ⟨rfl,A2,hk,hm⟩;have HK:=yE (And.intro hk hm);clear hk hm
 go_wp2_with fail
 refine(jA _ p B _ A2 (r.s.nd.length) 4 HK.out.1 (H4.out.bound HB.out (by omega))).mono ?_;rintro e w5 ⟨rfl,hp⟩;obtain⟨R5,H5⟩:=xG.yX H4 HK hp;clear hp HK;have As:Hid (r.s.nd.length<(Ps.nd (Rs.s (Rs.yX (xD [40] (xM (r.s.nd.length) (Rs.adv (Rs.yX r (0) 3)))) (r.s.nd.length) 4))).length):=yE (yS Aj.out (xK.nd (ZG H4.out.qs.yY (r.s.nd.length) 4)))
 go_wp2_with fail
 have Al:Hid ((Ps.nd (Rs.s (xD [40] (xM (r.s.nd.length) (Rs.adv (Rs.yX r (0) 3)))))).length<(Ps.nd (Rs.s (Rs.yX (xD [40] (xM (r.s.nd.length) (Rs.adv (Rs.yX r (0) 3)))) (r.s.nd.length) 4))).length):=yE (by rw[show(Ps.nd (Rs.s (Rs.yX (xD [40] (xM (r.s.nd.length) (Rs.adv (Rs.yX r (0) 3)))) (r.s.nd.length) 4))).length=(Ps.nd (Rs.s (xD [40] (xM (r.s.nd.length) (Rs.adv (Rs.yX r (0) 3)))))).length+1 from xR _ _ _]; omega)
 cases hp:Rs.is [41] (Rs.yX (xD [40] (xM (r.s.nd.length) (Rs.adv (Rs.yX r (0) 3)))) (r.s.nd.length) 4) with
 | true=>
  have AS:=yE (zOh hp);have HP:=yE hp;clear hp;refine(vE _ p B _ R5 [41] true (HP) H5.out.qs).mono ?_;rintro e _ ⟨rfl,m,rfl⟩;have H6:=xG.drew H5 m;generalize w5.drewN m=w6 at *;have AZ:=As
  go_wp2_with fail
  refine(vF _ p B _ R5 [41] H6.out.qs).mono ?_;rintro e w7 ⟨rfl,hp⟩;obtain⟨R7,H7⟩:=xG.go H6 (xJ [41]) hp;clear hp;have AV:Hid (r.s.nd.length<(Ps.nd (Rs.s (xD [41] (Rs.yX (xD [40] (xM (r.s.nd.length) (Rs.adv (Rs.yX r (0) 3)))) (r.s.nd.length) 4)))).length):=yE (yS AZ.out (xK.nd (xJ [41] _ H6.out.qs.yY)))
  go_wp2_with fail
  cases hs:Rs.is [115,105,110,103,108,101] (xD [41] (Rs.yX (xD [40] (xM (r.s.nd.length) (Rs.adv (Rs.yX r (0) 3)))) (r.s.nd.length) 4)) with
  | false=>
   have AH:=yE (zJD (i:=r.s.nd.length) hs);have HS:=yE hs;clear hs;refine(vE _ p B _ R7 [115,105,110,103,108,101] false (HS) H7.out.qs).mono ?_;rintro e _ ⟨rfl,m,rfl⟩;have H8:=xG.drew H7 m;generalize w7.drewN m=w8 at *;have AF:=AV
   go_wp2_with fail
   refine(VB _ p B _ R7 _ (zDB (Ps.ts (Rs.s (xD [41] (Rs.yX (xD [40] (xM (r.s.nd.length) (Rs.adv (Rs.yX r (0) 3)))) (r.s.nd.length) 4)))).length) (r.s.nd.length) H8.out.qs (AF.out) (H8.out.bound HB.out (by omega)) (zU _)).mono ?_;rintro e w9 ⟨rfl,hp⟩;obtain⟨R9,H9⟩:=xG.go H8 (ZJ (ZB (Ps.ts (Rs.s (xD [41] (Rs.yX (xD [40] (xM (r.s.nd.length) (Rs.adv (Rs.yX r (0) 3)))) (r.s.nd.length) 4)))).length) (r.s.nd.length)) hp;clear hp;have AR:Hid (r.s.nd.length<(Ps.nd (Rs.s (ZI (xV (Ps.ts (Rs.s (xD [41] (Rs.yX (xD [40] (xM (r.s.nd.length) (Rs.adv (Rs.yX r (0) 3)))) (r.s.nd.length) 4)))).length) (r.s.nd.length) (xD [41] (Rs.yX (xD [40] (xM (r.s.nd.length) (Rs.adv (Rs.yX r (0) 3)))) (r.s.nd.length) 4))))).length):=yE (yS AF.out (xK.nd (ZJ (ZB (Ps.ts (Rs.s (xD [41] (Rs.yX (xD [40] (xM (r.s.nd.length) (Rs.adv (Rs.yX r (0) 3)))) (r.s.nd.length) 4)))).length) (r.s.nd.length) _ H8.out.qs.yY)))
   go_wp2_with fail
   go_end0;rw[show zEK 0 r=zD9 (r.s.nd.length) (singleR (r.s.nd.length) (xD [41] (zB5 (r.s.nd.length) (xD [40] (xM (r.s.nd.length) (Rs.adv (Rs.yX r (0) 3))))))) from rfl,AS.out,AH.out];exact⟨rfl,H9.out.post⟩
  | true=>
   have AH:=yE (zHJ (i:=r.s.nd.length) hs);have HS:=yE hs;clear hs;refine(vE _ p B _ R7 [115,105,110,103,108,101] true (HS) H7.out.qs).mono ?_;rintro e _ ⟨rfl,m,rfl⟩;have H8:=xG.drew H7 m;generalize w7.drewN m=w8 at *;have AF:=AV;obtain⟨g8,Ab,hA,Av,Aw⟩:=H8.out.qs.YC (i:=r.s.nd.length) (AF.out);have x3:=H8.out.qs.x3 hA;have Ae:=yE hA;have q0:(0:Int)≤((r.s.nd.length:Nat):Int):=Int.natCast_nonneg _
   have q1:((r.s.nd.length:Nat):Int)<(R7.nh.length:Int):=by omega
   clear hA;have c3:w8.cell? ⟨g8,r.s.nd.length*5+3,none⟩=some (.int .i64 (R7.nh[r.s.nd.length]'Ab).1.num):=(H8.out.qs.jP _ Ab Ae.out 3 (by decide));have z3:=H8.out.qs.JZ (r.s.nd.length*5+3) Ae.out
   go_upto_region 15 with fail
   obtain⟨R9,H9⟩:=xG.num (i:=r.s.nd.length) (g:=g8) H8 (1) Ab Ae.out;clear c3 z3 x3 q0 q1;generalize w8.setCell ⟨g8,r.s.nd.length*5+3,none⟩ (.int .i64 (1))=w9 at *;have AR:Hid (r.s.nd.length<(Ps.nd (Rs.s (Rs.num (xD [41] (Rs.yX (xD [40] (xM (r.s.nd.length) (Rs.adv (Rs.yX r (0) 3)))) (r.s.nd.length) 4)) (r.s.nd.length) (1)))).length):=yE (yS AF.out (xK.nd (zD8 (r.s.nd.length) (1) _ H8.out.qs.yY)));have x1:=H9.out.qs.x1;have AK:=H9.out.qs.blk.frozen 1;have AD:=H9.out.qs.few;have AC:=H9.out.qs.yY.last.pos
   go_wp2_with fail
   have AB:=xG.adv H9 ((vS HS.out).1);clear x1 AK AD AC;generalize w9.setCell ⟨p,1,none⟩ (.int .i64 ((R9.I:Int)+1))=AU at *;generalize { R9 with I:=R9.I+1 } = R10 at *;have AA:Hid (r.s.nd.length<(Ps.nd (Rs.s (Rs.adv (Rs.num (xD [41] (Rs.yX (xD [40] (xM (r.s.nd.length) (Rs.adv (Rs.yX r (0) 3)))) (r.s.nd.length) 4)) (r.s.nd.length) (1))))).length):=yE (yS AR.out (xK.nd (jI H9.out.qs.yY ((vS HS.out).1))));refine(VB _ p B _ R10 _ (zDB (Ps.ts (Rs.s (Rs.adv (Rs.num (xD [41] (Rs.yX (xD [40] (xM (r.s.nd.length) (Rs.adv (Rs.yX r (0) 3)))) (r.s.nd.length) 4)) (r.s.nd.length) (1))))).length) (r.s.nd.length) AB.out.qs (AA.out) (AB.out.bound HB.out (by omega)) (zU _)).mono ?_;rintro e Aa ⟨rfl,hp⟩;obtain⟨AN,AE⟩:=xG.go AB (ZJ (ZB (Ps.ts (Rs.s (Rs.adv (Rs.num (xD [41] (Rs.yX (xD [40] (xM (r.s.nd.length) (Rs.adv (Rs.yX r (0) 3)))) (r.s.nd.length) 4)) (r.s.nd.length) (1))))).length) (r.s.nd.length)) hp;clear hp
   have AL:Hid (r.s.nd.length<(Ps.nd (Rs.s (ZI (xV (Ps.ts (Rs.s (Rs.adv (Rs.num (xD [41] (Rs.yX (xD [40] (xM (r.s.nd.length) (Rs.adv (Rs.yX r (0) 3)))) (r.s.nd.length) 4)) (r.s.nd.length) (1))))).length) (r.s.nd.length) (Rs.adv (Rs.num (xD [41] (Rs.yX (xD [40] (xM (r.s.nd.length) (Rs.adv (Rs.yX r (0) 3)))) (r.s.nd.length) 4)) (r.s.nd.length) (1)))))).length):=yE (yS AA.out (xK.nd (ZJ (ZB (Ps.ts (Rs.s (Rs.adv (Rs.num (xD [41] (Rs.yX (xD [40] (xM (r.s.nd.length) (Rs.adv (Rs.yX r (0) 3)))) (r.s.nd.length) 4)) (r.s.nd.length) (1))))).length) (r.s.nd.length) _ AB.out.qs.yY)))
   go_wp2_with fail
   go_end0;rw[show zEK 0 r=zD9 (r.s.nd.length) (singleR (r.s.nd.length) (xD [41] (zB5 (r.s.nd.length) (xD [40] (xM (r.s.nd.length) (Rs.adv (Rs.yX r (0) 3))))))) from rfl,AS.out,AH.out];exact⟨rfl,AE.out.post⟩
 | false=>
  have AS:=yE (zQR hp);have HP:=yE hp;clear hp;refine(vE _ p B _ R5 [41] false (HP) H5.out.qs).mono ?_;rintro e _ ⟨rfl,m,rfl⟩;have H6:=xG.drew H5 m;generalize w5.drewN m=w6 at *;have AZ:=As
  go_wp2_with fail
  refine(VE _ p B _ R5 (Ps.nd (Rs.s (xD [40] (xM (r.s.nd.length) (Rs.adv (Rs.yX r (0) 3)))))).length H6.out.qs (Al.out) (H6.out.bound HB.out (by omega))).mono ?_;rintro e w7 ⟨rfl,hp⟩;obtain⟨R7,H7⟩:=xG.go H6 (vY ((Ps.nd (Rs.s (xD [40] (xM (r.s.nd.length) (Rs.adv (Rs.yX r (0) 3)))))).length)) hp;clear hp;have AV:Hid (r.s.nd.length<(Ps.nd (Rs.s (vW ((Ps.nd (Rs.s (xD [40] (xM (r.s.nd.length) (Rs.adv (Rs.yX r (0) 3)))))).length) (Rs.yX (xD [40] (xM (r.s.nd.length) (Rs.adv (Rs.yX r (0) 3)))) (r.s.nd.length) 4)))).length):=yE (yS AZ.out (xK.nd (vY ((Ps.nd (Rs.s (xD [40] (xM (r.s.nd.length) (Rs.adv (Rs.yX r (0) 3)))))).length) _ H6.out.qs.yY)))
  go_wp2_with fail
  have HJ:=xG.le (d:=8) H7 (by decide)
  go_loopw [] (fun wr=>zSG w p B R r (vW ((Ps.nd (Rs.s (xD [40] (xM (r.s.nd.length) (Rs.adv (Rs.yX r (0) 3)))))).length)) (vW ((Ps.nd (Rs.s (xD [40] (xM (r.s.nd.length) (Rs.adv (Rs.yX r (0) 3)))))).length) (Rs.yX (xD [40] (xM (r.s.nd.length) (Rs.adv (Rs.yX r (0) 3)))) (r.s.nd.length) 4)) wr) (fun wr=>zA7 p wr)
  case atStart=>exact⟨_,_,_,HJ,yE (Nat.lt_succ_self _),yE rfl,yE (zU _)⟩
  case round=>
   obtain⟨q,Rq,f',AP,HF,Ar,AY⟩:=hrel;obtain⟨wq,rfl⟩:∃wa:World,wa=wr:=⟨_,rfl⟩;obtain⟨Ao,rfl⟩:∃n,f'=n+1:=⟨f'-1,by have:=HF.out; omega⟩;have A1:Hid (zA7 p wq=q.s.ts.length):=yE AP.out.qs.zA7
   cases hq:q.is [44] with
   | true=>
    have HQ:=yE hq;have Ah:=yE (vS hq).1;have Af:Hid (VL (vW ((Ps.nd (Rs.s (xD [40] (xM (r.s.nd.length) (Rs.adv (Rs.yX r (0) 3)))))).length)) ((Ps.ts (Rs.s (vW ((Ps.nd (Rs.s (xD [40] (xM (r.s.nd.length) (Rs.adv (Rs.yX r (0) 3)))))).length) (Rs.yX (xD [40] (xM (r.s.nd.length) (Rs.adv (Rs.yX r (0) 3)))) (r.s.nd.length) 4)))).length+1) (vW ((Ps.nd (Rs.s (xD [40] (xM (r.s.nd.length) (Rs.adv (Rs.yX r (0) 3)))))).length) (Rs.yX (xD [40] (xM (r.s.nd.length) (Rs.adv (Rs.yX r (0) 3)))) (r.s.nd.length) 4))=VL (vW ((Ps.nd (Rs.s (xD [40] (xM (r.s.nd.length) (Rs.adv (Rs.yX r (0) 3)))))).length)) Ao ((vW ((Ps.nd (Rs.s (xD [40] (xM (r.s.nd.length) (Rs.adv (Rs.yX r (0) 3)))))).length)) q.adv)):=yE (Ar.out.trans (zGU hq));clear hq
    go_wp2_with fail
    refine(vE _ p B q Rq [44] true HQ AP.out.qs).mono ?_;rintro e _ ⟨rfl,m,rfl⟩;have AM:=xG.drew AP m;generalize wq.drewN m=A3 at *;have x1:=AM.out.qs.x1;have AK:=AM.out.qs.blk.frozen 1;have AD:=AM.out.qs.few;have AC:=AM.out.qs.yY.last.pos
    go_wp2_with fail
    have AO:=xG.adv AM Ah.out;clear x1 AK AD AC;generalize A3.setCell ⟨p,1,none⟩ (.int .i64 ((Rq.I:Int)+1))=BB at *;generalize { Rq with I:=Rq.I+1 } = Rq2 at *;refine(VE _ p B _ Rq2 (Ps.nd (Rs.s (xD [40] (xM (r.s.nd.length) (Rs.adv (Rs.yX r (0) 3)))))).length AO.out.qs (yS (yS Al.out (vY ((Ps.nd (Rs.s (xD [40] (xM (r.s.nd.length) (Rs.adv (Rs.yX r (0) 3)))))).length) _ H6.out.qs.yY).nd) (Nat.le_trans AY.out (zU _))) (AO.out.bound HB.out (by omega))).mono ?_;rintro e BC ⟨rfl,hp⟩;obtain⟨A6,Az⟩:=xG.go AO (vY ((Ps.nd (Rs.s (xD [40] (xM (r.s.nd.length) (Rs.adv (Rs.yX r (0) 3)))))).length)) hp;clear hp
    have Au:Hid (((vW ((Ps.nd (Rs.s (xD [40] (xM (r.s.nd.length) (Rs.adv (Rs.yX r (0) 3)))))).length)) q.adv).s.ts.length<q.s.ts.length):=yE (by
     have h1:=AM.out.qs.yY.last.len Ah.out;have h2:=(vY ((Ps.nd (Rs.s (xD [40] (xM (r.s.nd.length) (Rs.adv (Rs.yX r (0) 3)))))).length) q.adv AO.out.qs.yY).ts;have h3:q.adv.s.ts.length<q.s.ts.length:=h1
     omega)
    have AX:Hid ((Ps.nd (Rs.s (vW ((Ps.nd (Rs.s (xD [40] (xM (r.s.nd.length) (Rs.adv (Rs.yX r (0) 3)))))).length) (Rs.yX (xD [40] (xM (r.s.nd.length) (Rs.adv (Rs.yX r (0) 3)))) (r.s.nd.length) 4)))).length≤((vW ((Ps.nd (Rs.s (xD [40] (xM (r.s.nd.length) (Rs.adv (Rs.yX r (0) 3)))))).length)) q.adv).s.nd.length):=yE (Nat.le_trans AY.out (vY ((Ps.nd (Rs.s (xD [40] (xM (r.s.nd.length) (Rs.adv (Rs.yX r (0) 3)))))).length) q.adv AO.out.qs.yY).nd);have At:=xG.le (d:=8) Az (by decide)
    go_wp2_with fail
    go_roundw
    case rel=>exact⟨_,_,Ao,At,yE (by have:=Au.out; have:=HF.out; omega),Af,AX⟩
    case measure=>rw[A1.out,At.out.qs.zA7]; exact Au.out
   | false=>
    have HQ:=yE hq;have An:Hid (zCO (vW ((Ps.nd (Rs.s (xD [40] (xM (r.s.nd.length) (Rs.adv (Rs.yX r (0) 3)))))).length)) (Rs.yX (xD [40] (xM (r.s.nd.length) (Rs.adv (Rs.yX r (0) 3)))) (r.s.nd.length) 4)=q):=yE (Ar.out.trans (zJp hq));clear hq
    go_wp2_with fail
    refine(vE _ p B q Rq [44] false HQ AP.out.qs).mono ?_;rintro e _ ⟨rfl,m,rfl⟩;have H8:=xG.drew AP m;generalize wq.drewN m=w8 at *;have AF:Hid (r.s.nd.length<q.s.nd.length):=yE (yS AV.out AY.out)
    go_wp2_with fail
    refine(vF _ p B _ Rq [41] H8.out.qs).mono ?_;rintro e w9 ⟨rfl,hp⟩;obtain⟨R9,H9⟩:=xG.go H8 (xJ [41]) hp;clear hp;have AR:Hid (r.s.nd.length<(Ps.nd (Rs.s (xD [41] q))).length):=yE (yS AF.out (xK.nd (xJ [41] _ H8.out.qs.yY)))
    go_wp2_with fail
    cases hs:Rs.is [115,105,110,103,108,101] (xD [41] q) with
    | false=>
     have AH:=yE (zJD (i:=r.s.nd.length) hs);have HS:=yE hs;clear hs;refine(vE _ p B _ R9 [115,105,110,103,108,101] false (HS) H9.out.qs).mono ?_;rintro e _ ⟨rfl,m,rfl⟩;have AB:=xG.drew H9 m;generalize w9.drewN m=AU at *;have AA:=AR
     go_wp2_with fail
     refine(VB _ p B _ R9 _ (zDB (Ps.ts (Rs.s (xD [41] q))).length) (r.s.nd.length) AB.out.qs (AA.out) (AB.out.bound HB.out (by omega)) (zU _)).mono ?_;rintro e Aa ⟨rfl,hp⟩;obtain⟨AN,AE⟩:=xG.go AB (ZJ (ZB (Ps.ts (Rs.s (xD [41] q))).length) (r.s.nd.length)) hp;clear hp;have AL:Hid (r.s.nd.length<(Ps.nd (Rs.s (ZI (xV (Ps.ts (Rs.s (xD [41] q))).length) (r.s.nd.length) (xD [41] q)))).length):=yE (yS AA.out (xK.nd (ZJ (ZB (Ps.ts (Rs.s (xD [41] q))).length) (r.s.nd.length) _ AB.out.qs.yY)))
     go_wp2_with fail
     go_end0;rw[show zEK 0 r=zD9 (r.s.nd.length) (singleR (r.s.nd.length) (xD [41] (zB5 (r.s.nd.length) (xD [40] (xM (r.s.nd.length) (Rs.adv (Rs.yX r (0) 3))))))) from rfl,AS.out,An.out,AH.out];exact⟨rfl,AE.out.post⟩
    | true=>
     have AH:=yE (zHJ (i:=r.s.nd.length) hs);have HS:=yE hs;clear hs;refine(vE _ p B _ R9 [115,105,110,103,108,101] true (HS) H9.out.qs).mono ?_;rintro e _ ⟨rfl,m,rfl⟩;have AB:=xG.drew H9 m;generalize w9.drewN m=AU at *;have AA:=AR;obtain⟨Ag,AI,hA,Am,Ai⟩:=AB.out.qs.YC (i:=r.s.nd.length) (AA.out);have x3:=AB.out.qs.x3 hA;have AG:=yE hA;have q0:(0:Int)≤((r.s.nd.length:Nat):Int):=Int.natCast_nonneg _
     have q1:((r.s.nd.length:Nat):Int)<(R9.nh.length:Int):=by omega
     clear hA;have c3:AU.cell? ⟨Ag,r.s.nd.length*5+3,none⟩=some (.int .i64 (R9.nh[r.s.nd.length]'AI).1.num):=(AB.out.qs.jP _ AI AG.out 3 (by decide));have z3:=AB.out.qs.JZ (r.s.nd.length*5+3) AG.out
     go_upto_region 15 with fail
     obtain⟨AN,AE⟩:=xG.num (i:=r.s.nd.length) (g:=Ag) AB (1) AI AG.out;clear c3 z3 x3 q0 q1;generalize AU.setCell ⟨Ag,r.s.nd.length*5+3,none⟩ (.int .i64 (1))=Aa at *;have AL:Hid (r.s.nd.length<(Ps.nd (Rs.s (Rs.num (xD [41] q) (r.s.nd.length) (1)))).length):=yE (yS AA.out (xK.nd (zD8 (r.s.nd.length) (1) _ AB.out.qs.yY)));have x1:=AE.out.qs.x1;have AK:=AE.out.qs.blk.frozen 1;have AD:=AE.out.qs.few;have AC:=AE.out.qs.yY.last.pos
     go_wp2_with fail
     have AW:=xG.adv AE ((vS HS.out).1);clear x1 AK AD AC;generalize Aa.setCell ⟨p,1,none⟩ (.int .i64 ((AN.I:Int)+1))=A8 at *;generalize { AN with I:=AN.I+1 } = R12 at *;have AQ:Hid (r.s.nd.length<(Ps.nd (Rs.s (Rs.adv (Rs.num (xD [41] q) (r.s.nd.length) (1))))).length):=yE (yS AL.out (xK.nd (jI AE.out.qs.yY ((vS HS.out).1))));refine(VB _ p B _ R12 _ (zDB (Ps.ts (Rs.s (Rs.adv (Rs.num (xD [41] q) (r.s.nd.length) (1))))).length) (r.s.nd.length) AW.out.qs (AQ.out) (AW.out.bound HB.out (by omega)) (zU _)).mono ?_;rintro e BA ⟨rfl,hp⟩;obtain⟨A7,A5⟩:=xG.go AW (ZJ (ZB (Ps.ts (Rs.s (Rs.adv (Rs.num (xD [41] q) (r.s.nd.length) (1))))).length) (r.s.nd.length)) hp;clear hp;have A0:Hid (r.s.nd.length<(Ps.nd (Rs.s (ZI (xV (Ps.ts (Rs.s (Rs.adv (Rs.num (xD [41] q) (r.s.nd.length) (1))))).length) (r.s.nd.length) (Rs.adv (Rs.num (xD [41] q) (r.s.nd.length) (1)))))).length):=yE (yS AQ.out (xK.nd (ZJ (ZB (Ps.ts (Rs.s (Rs.adv (Rs.num (xD [41] q) (r.s.nd.length) (1))))).length) (r.s.nd.length) _ AW.out.qs.yY)))
     go_wp2_with fail
     go_end0;rw[show zEK 0 r=zD9 (r.s.nd.length) (singleR (r.s.nd.length) (xD [41] (zB5 (r.s.nd.length) (xD [40] (xM (r.s.nd.length) (Rs.adv (Rs.yX r (0) 3))))))) from rfl,AS.out,An.out,AH.out];exact⟨rfl,A5.out.post⟩
theorem zOO (i:Nat)(r:Rs)(g:XW r)(hk:r.s.hd.kind≠4):(zEs i r).s.ts.length<r.s.ts.length:=by
 have a:=ZG g i 2;have d:=a.yY.last.len (show(r.yX i 2).s.hd.kind≠4 from hk);have b:=jI a.yY (show(r.yX i 2).s.hd.kind≠4 from hk);have c:=(((jY r.s.nd.length).comp ((xJ [40]).comp ((zGG (vY r.s.nd.length) (by decide)).comp ((xJ [41]).comp (xJ [59]))))) _ b.yY).ts;exact Nat.lt_of_le_of_lt c d
theorem zQh (i:Nat)(r:Rs)(g:XW r)(hk:r.s.hd.kind≠4):(zEK i r).s.ts.length<r.s.ts.length:=by
 have a:=ZG g i 3;have d:=a.yY.last.len (show(r.yX i 3).s.hd.kind≠4 from hk);have b:=jI a.yY (show(r.yX i 3).s.hd.kind≠4 from hk);have c:=(((jY r.s.nd.length).comp ((xJ [40]).comp ((zKY r.s.nd.length).comp ((xJ [41]).comp ((zJc r.s.nd.length).comp (zHF r.s.nd.length)))))) _ b.yY).ts;exact Nat.lt_of_le_of_lt c d
theorem zOz {f:Nat}{r:Rs}(h:r.s.hd.kind=4):YX f r=r:=by
 cases f with
 | zero=>rfl
 | succ f=>rw[YX,h]; simp
theorem zLM {f:Nat}{r:Rs}(h0:r.e=0)(hk:r.s.hd.kind≠4)(h:r.is [116,97,98,108,101]=true):YX (f+1) r=YX f (zEs 0 r):=by rw[YX,h0,if_pos (by simpa using hk),if_pos h]
theorem zNr {f:Nat}{r:Rs}(h0:r.e=0)(hk:r.s.hd.kind≠4)(h:r.is [116,97,98,108,101]=false)(h2:r.is [112,114,111,99]=true):YX (f+1) r=YX f (zEK 0 r):=by rw[YX,h0,if_pos (by simpa using hk),if_neg (by rw[h]; decide),if_pos h2]
theorem zM6 {f:Nat}{r:Rs}(h0:r.e=0)(hk:r.s.hd.kind≠4)(h:r.is [116,97,98,108,101]=false)(h2:r.is [112,114,111,99]=false):YX (f+1) r=YX f (r.fail 50):=by rw[YX,h0,if_pos (by simpa using hk),if_neg (by rw[h]; decide),if_neg (by rw[h2]; decide)]
def zUS (w:World)(p B:Nat)(R:vJ)(r:Rs)(F:Nat)(wr:World):Prop:=
 ∃(q:Rs) (R':vJ) (f':Nat),Hid (xG w p B R r wr R' q 0)∧Hid (q.e=0→q.s.ts.length<f')∧Hid (YX F r=YX f' q)∧Hid (0<q.s.nd.length)
def zD1 (w:World)(r:zGS)(e:Ending)(w':World):Prop:=Ext w w'∧match r with
 | .ok nd=>∃A c nh,e=.returned (.tuple #[.slice A nh.length c,.int .i64 0,.int .i64 0])∧nd=nh.map Prod.fst∧Cells w' A (ncs nh)∧(∀x ∈ nh,Cells w' x.2.1 (ints x.1.kids))∧nh.length≤1000000∧∀x ∈ nh,x.1.kids.length≤1000000
 | .err a er=>e=.returned (.tuple #[.slice none 0 0,.int .i64 (a:Int),.int .i64 er])
theorem NSq.nil (w:World)(B:Nat)(tn ti:TypeId):NS w B tn ti none 0 []:=⟨zP _ _ _ _,fun x hx=>(by cases hx),fun i j hi=>(by cases hi),fun _=>rfl,fun x hx=>(by cases hx)⟩
theorem zKD (A:Option Addr)(l:Bs)(n c:Nat)(w:World)(hn:n=l.length)(hbig:l.length≤1000)(hcap:l.length≤c)(h:Cells w A (xL l))(a:Nat)(er:Int)(hl:XS l=.err a er)(he:er≠0) :
  Calls Tryz.prog 33 #[.slice A n c] w (zD1 w (.err a er)):=by
 subst hn;have HL:=yE (zNn A l l.length c w rfl (by omega) hcap h);have HS:=yE hl
 have g1:(er != 0)=true:=by rw[zD]; exact he
 have g0:(er==0)=false:=beq_eq_false_iff_ne.2 he;clear h hl
 go_enter Tryz.func33,Tryz.ntmps33
 go_wp2_with fail
 refine HL.out.mono ?_;rw[HS.out];rintro e w1 ⟨hx,rfl⟩;have HX:=yE hx;clear hx
 go_wp2_with fail
 refine bodyPost_ret (v:=.tuple #[.slice none 0 0,.int .i64 (a:Int),.int .i64 er]) (by simp[results,Tryz.results33,go_sem]) rfl ?_;exact⟨HX.out,rfl⟩
theorem zP2 (A:Option Addr)(l:Bs)(n c:Nat)(w:World)(hn:n=l.length)(hbig:l.length≤1000)(hcap:l.length≤c)(h:Cells w A (xL l))(ts:List Tok)(hl:XS l=.ok ts)(hL:Lst ⟨ts,[],0⟩)(ht:ts.length≤1001) :
  Calls Tryz.prog 33 #[.slice A n c] w (zD1 w (zD5 ts)):=by
 subst hn;have HL:=yE (zNn A l l.length c w rfl (by omega) hcap h);have HS:=yE hl;have Af:=yE hL;have Ae:=yE ht;clear h hl hL ht
 go_enter Tryz.func33,Tryz.ntmps33
 go_wp2_with fail
 refine HL.out.mono ?_;rw[HS.out];rintro e w1 ⟨hx,A',c',rfl,AV,ho⟩;have HX:=yE hx;have AC:0<ts.length:=Af.out.pos
 have Ac:ts.length≠0:=by omega
 obtain⟨bt,rfl⟩:∃b,A'=some ⟨b,0,none⟩:=by
  rcases zCJ ho with e | e
  ·rw[e] at ho
   rcases ho.2 with ⟨_,h0⟩ | ⟨g,_,_,hv,_⟩
   ·exact absurd h0 Ac
   ·cases hv
  ·exact e
 have AW:=YP ho rfl;have HW:Hid (Ext w1 (w1.alloc (.cells #[.slice (some ⟨bt,0,none⟩) ts.length c',.int .i64 0,.int .i64 0,.slice none 0 0,.int .i64 0] 127))):=yE (Ext.alloc _ _)
 have hq:QS (w1.alloc (.cells #[.slice (some ⟨bt,0,none⟩) ts.length c',.int .i64 0,.int .i64 0,.slice none 0 0,.int .i64 0] 127)) w1.heap.size w1.heap.size ⟨⟨ts,[],0⟩,0⟩ ⟨bt,0,0,c',none,0,[]⟩:=by
  refine⟨?_,fun k hk=>?_,?_,AW.2,rfl,NSq.nil _ _ _ _,zU _,⟨Af.out,show(0:Nat)≤65 from by decide,fun _=>show(0:Nat)≤64 from by decide,fun n hn=>by cases hn⟩⟩
  ·have:=Blk.new w1 127 #[.slice (some ⟨bt,0,none⟩) ts.length c',.int .i64 0,.int .i64 0,.slice none 0 0,.int .i64 0]
   simpa using this
  ·have h1:=(HW.out.cell (p:=⟨bt,0+0*5+k,none⟩) AW.2);rw[h1];have Aj:k<ts.length*5:=hk;have h2:=ho.cellAt k Aj
   simpa using h2
  ·show 0+ts.length≤1000000
   have:=Ae.out
   omega
 have HQ:=yE hq;have Al:=yE (HX.out.trans HW.out);clear hx AV ho AW hq AC Ac
 go_wp2_with fail
 have An:Hid (w1.heap.size=w1.heap.size):=yE rfl;obtain⟨p,hp⟩:∃p,p=w1.heap.size:=⟨_,rfl⟩;have Ap:Hid (w.heap.size≤p):=yE (by rw[hp]; exact HX.out.size)
 have As:Hid (∀b,b<w.heap.size→b≠p):=yE fun b hb e=>by have:=Ap.out; omega
 have AK:=Al;generalize w1.alloc (.cells #[.slice (some ⟨bt,0,none⟩) ts.length c',.int .i64 0,.int .i64 0,.slice none 0 0,.int .i64 0] 127)=w2 at *;rw[←hp] at HQ ⊢;clear hp An HW HX;refine(zQu w2 p p ⟨⟨ts,[],0⟩,0⟩ _ 1 HQ.out (by show([]:List Nd).length≤_; simp)).mono ?_;rintro e w3 ⟨rfl,R1,AT,Ai⟩;have Ao:=yE Ai;have At:=yE AT;obtain⟨r1,AO⟩:∃r1,(⟨(⟨ts,[],0⟩:Ps).node 1,0⟩:Rs)=r1:=⟨_,rfl⟩
 have AN:QS w3 p p r1 R1:=by rw[←AO]; exact AT
 have H0:=yE (xG.refl AN);have Ag:Hid (r1.s.ts.length=ts.length):=yE (by rw[←AO]; rfl);have Ah:Hid (0<r1.s.nd.length∧r1.s.nd.length≤1):=yE (by rw[←AO]; exact⟨Nat.zero_lt_one,zU _⟩);have Ak:Hid (zD5 ts=(let r:=YX (ts.length+1) r1; if r.e=0 then .ok r.s.nd else .err r.s.hd.at_ r.e)):=yE (by rw[←AO]; rfl)
 have HB:Hid (r1.phi≤1000000):=yE (by
  unfold Rs.phi;have h1:=Ag.out;have h2:=Ah.out.2;have h3:=Ae.out
  omega)
 clear AT Ai AN AO
 have AP:Hid (∀(q:Rs) (R':vJ) (wq:World) (v:Ending),xG w3 p p R1 r1 wq R' q 0→YX (ts.length+1) r1=q→v=.returned (.tuple (if q.e=0 then #[.slice R'.A R'.nh.length R'.c,.int .i64 0,.int .i64 0] else #[.slice none 0 0,.int .i64 (q.s.hd.at_:Int),.int .i64 q.e]))→zD1 w (zD5 ts) v wq):=yE fun q R' wq v hr hw hv=>by
  have AS:=Ao.out.trans hr.mv
  have AX:Ext w wq:=⟨AS.os.trans AK.out.os,AS.tape.trans AK.out.tape,AS.output.trans AK.out.output,Nat.le_trans AK.out.size AS.size,fun b hb=>(AS.VS b (yS hb AK.out.size) fun hm=>by
   rcases hm with hm | hm
   ·exact As.out b hb hm
   ·rcases hm with hm | hm
    ·cases hm
    ·cases hm).trans (AK.out.block b hb)⟩
  have Ab:q.s.nd.length≤1000000:=by have h1:=hr.bound HB.out (m:=1000000) (by omega); unfold Rs.phi at h1; omega
  have Ar:R'.nh.length≤1000000:=by rw[←hr.qs.len]; exact Ab
  rw[Ak.out]
  dsimp only
  rw[hw];refine⟨AX,?_⟩;subst hv
  by_cases he:q.e=0
  ·rw[if_pos he,if_pos he];exact⟨R'.A,R'.c,R'.nh,rfl,hr.qs.nodes,Cells.own hr.qs.ns.row,fun x hx=>Cells.own (hr.qs.ns.kids x hx),Ar,fun x hx=>Nat.le_trans (hr.qs.yY.few x.1 (by rw[hr.qs.nodes]; exact List.mem_map.2 ⟨x,hx,rfl⟩)) Ab⟩
  ·rw[if_neg he,if_neg he]
 go_wp2_with fail
 go_loopw [] (fun wr=>zUS w3 p p R1 r1 (ts.length+1) wr) (fun wr=>zCX p wr)
 case atStart=>exact⟨_,_,_,H0,yE (fun _=>by rw[Ag.out]; exact Nat.lt_succ_self _),yE rfl,yE Ah.out.1⟩
 case round=>
  obtain⟨q,Rq,f',AE,HF,Aa,AU⟩:=hrel;obtain⟨wq,rfl⟩:∃wa:World,wa=wr:=⟨_,rfl⟩;have Aq:Hid (zCX p wq=2*q.s.ts.length+if q.e=0 then 1 else 0):=yE AE.out.qs.zCX;have x0:=AE.out.qs.x0;have x1:=AE.out.qs.x1;have x4:=AE.out.qs.x4;have t0:wq.cell? ⟨Rq.bt,Rq.o0+Rq.I*5,none⟩=some (.int .u8 (q.s.hd.kind:Int)):=AE.out.qs.tok 0 (by decide);have AH:=AE.out.qs.few;have AC:=AE.out.qs.yY.last.pos;have qp:=AE.out.qs.pos
  by_cases he:q.e=0
  ·have HE:=yE he;rw[he] at x4;clear he
   by_cases hk:q.s.hd.kind=4
   ·have HU:=yE (Aa.out.trans (zOz hk));rw[hk] at t0;clear hk
    go_wp2_with fail
    go_quiet (fail)
    rename_i nq;have AB:=xG.drew AE nq;clear x0 x1 x4 t0 AH AC qp;generalize wq.drewN nq=AI at *;have x4:=AB.out.qs.x4;rw[HE.out] at x4;have x3:AI.cell? ⟨p,3,none⟩=some (.slice Rq.A Rq.nh.length Rq.c):=AB.out.qs.blk.cell 3
    go_wp2_with fail
    refine bodyPost_ret (v:=.tuple #[.slice Rq.A Rq.nh.length Rq.c,.int .i64 0,.int .i64 0]) (by simp[results,Tryz.results33,go_sem]) rfl ?_;exact AP.out q Rq AI _ AB.out HU.out (by rw[if_pos HE.out])
   ·have AF:=yE hk
    have i4:¬(q.s.hd.kind:Int)=4:=by omega
    have j4:((q.s.hd.kind:Int) != 4)=true:=by rw[zD]; omega
    obtain⟨AY,rfl⟩:∃n,f'=n+1:=⟨f'-1,by have:=HF.out HE.out; omega⟩;clear hk
    have AG:Hid (∀(M:Rs→Rs) (wx:World) (Rx:vJ),(M q).e≠0∨(M q).s.ts.length<q.s.ts.length→YX (AY+1) q=YX AY (M q)→xK 0 q (M q)→xG w3 p p R1 r1 wx Rx (M q) 0→zUS w3 p p R1 r1 (ts.length+1) wx∧zCX p wx<zCX p wq):=yE fun M wx Rx AJ Am Ad hr=>by
     refine⟨⟨M q,Rx,AY,yE hr,yE fun h=>?_,yE (Aa.out.trans Am),yE (yS AU.out Ad.nd)⟩,?_⟩
     ·have h1:=HF.out HE.out
      rcases AJ with h2 | h2
      ·exact absurd h h2
      ·omega
     ·rw[Aq.out,hr.qs.zCX,if_pos HE.out];have h1:=Ad.ts
      rcases AJ with h | h
      ·rw[if_neg h]; omega
      ·split <;> omega
    go_wp2_with fail
    go_quiet (fail)
    rename_i nq;have AB:=xG.drew AE nq;clear x0 x1 x4 t0 AH AC qp;generalize wq.drewN nq=AI at *
    cases ht:q.is [116,97,98,108,101] with
    | true=>
     have HT:=yE ht;clear ht
     go_wp2_with fail
     refine(vE _ p p q Rq [116,97,98,108,101] true HT AB.out.qs).mono ?_;rintro e _ ⟨rfl,m,rfl⟩;have AD:=xG.drew AB m;generalize AI.drewN m=AL at *
     go_wp2_with fail
     refine(zOB _ p p q Rq AD.out.qs (AD.out.bound HB.out (by omega)) AU.out AF.out).mono ?_;rintro e AR ⟨rfl,hp⟩;obtain⟨AM,AQ⟩:=xG.goL AD (zNN AD.out.qs.yY 0 AF.out) hp;clear hp;have HJ:=yE (AG.out (zEs 0) AR AM (.inr (zOO 0 q AD.out.qs.yY AF.out)) (zLM HE.out AF.out HT.out) (zNN AD.out.qs.yY 0 AF.out) (xG.le AQ (by decide)).out)
     go_wp2_with fail
     go_roundw
     case rel=>exact HJ.out.1
     case measure=>exact HJ.out.2
    | false=>
     have HT:=yE ht;clear ht
     cases hc:q.is [112,114,111,99] with
     | true=>
      have HC:=yE hc;clear hc
      go_wp2_with fail
      refine(vE _ p p q Rq [116,97,98,108,101] false HT AB.out.qs).mono ?_;rintro e _ ⟨rfl,m,rfl⟩;have AD:=xG.drew AB m;generalize AI.drewN m=AL at *
      go_wp2_with fail
      refine(vE _ p p q Rq [112,114,111,99] true HC AD.out.qs).mono ?_;rintro e _ ⟨rfl,m,rfl⟩;have AA:=xG.drew AD m;generalize AL.drewN m=AZ at *
      go_wp2_with fail
      refine(zQ6 _ p p q Rq AA.out.qs (AA.out.bound HB.out (by omega)) AU.out AF.out).mono ?_;rintro e AR ⟨rfl,hp⟩;obtain⟨AM,AQ⟩:=xG.goL AA (zPu AA.out.qs.yY 0 AF.out) hp;clear hp;have HJ:=yE (AG.out (zEK 0) AR AM (.inr (zQh 0 q AA.out.qs.yY AF.out)) (zNr HE.out AF.out HT.out HC.out) (zPu AA.out.qs.yY 0 AF.out) (xG.le AQ (by decide)).out)
      go_wp2_with fail
      go_roundw
      case rel=>exact HJ.out.1
      case measure=>exact HJ.out.2
     | false=>
      have HC:=yE hc;clear hc
      go_wp2_with fail
      refine(vE _ p p q Rq [116,97,98,108,101] false HT AB.out.qs).mono ?_;rintro e _ ⟨rfl,m,rfl⟩;have AD:=xG.drew AB m;generalize AI.drewN m=AL at *
      go_wp2_with fail
      refine(vE _ p p q Rq [112,114,111,99] false HC AD.out.qs).mono ?_;rintro e _ ⟨rfl,m,rfl⟩;have AA:=xG.drew AD m;generalize AL.drewN m=AZ at *
      go_wp2_with fail
      refine(JF _ p p q Rq 50 (by decide) AA.out.qs).mono ?_;rintro e AR ⟨rfl,hp⟩;obtain⟨AM,AQ⟩:=xG.goL AA (XU AA.out.qs.yY 50) hp;clear hp;have HJ:=yE (AG.out (Rs.fail 50) AR AM (.inl (zGH q)) (zM6 HE.out AF.out HT.out HC.out) (XU AA.out.qs.yY 50) (xG.le AQ (by decide)).out)
      go_wp2_with fail
      go_roundw
      case rel=>exact HJ.out.1
      case measure=>exact HJ.out.2
  ·have HU:=yE (Aa.out.trans (zC7 _ _ he));have HE:=yE he;have g0:(q.e==0)=false:=beq_eq_false_iff_ne.2 he
   have g1:(q.e != 0)=true:=by rw[zD]; exact he
   clear he
   go_wp2_with fail
   go_quiet (fail)
   rename_i nq;have AB:=xG.drew AE nq;clear x0 x1 x4 t0 AH AC qp;generalize wq.drewN nq=AI at *;have x0:=AB.out.qs.x0;have x1:=AB.out.qs.x1;have x4:=AB.out.qs.x4;have t1:AI.cell? ⟨Rq.bt,Rq.o0+Rq.I*5+1,none⟩=some (.int .i64 (q.s.hd.at_:Int)):=AB.out.qs.tok 1 (by decide);have AH:=AB.out.qs.few;have AC:=AB.out.qs.yY.last.pos;have qp:=AB.out.qs.pos
   go_wp2_with fail
   go_quiet (fail)
   have AD:=xG.drew AB nq;clear x0 x1 x4 t1 AH AC qp;generalize AI.drewN nq=AL at *
   go_wp2_with fail
   refine bodyPost_ret (v:=.tuple #[.slice none 0 0,.int .i64 (q.s.hd.at_:Int),.int .i64 q.e]) (by simp[results,Tryz.results33,go_sem]) rfl ?_;exact AP.out q Rq AL _ AD.out HU.out (by rw[if_neg HE.out])
end Go.Proofs.YtioffpjajhalaaaGreatDoor
