/- The document's table, proc, Parse. Condition: the nodes fit into memory. interlocklaw05.ParseAny, walked: always true. Condition: errors.errorType reads as the program's text lays it. interlocklaw05.ParseAny, walked: always true. Condition: errors.errorType reads as the program's text lays it. -/
import Derived.Test.YtcccnicldbpieaaGreatDoorMd
import Derived.Test.YtcccnicldbpieaaGreatDoorLxI
import Derived.Test.YtcccnicldbpieaaGreatDoorPwB
import Derived.Deep.QuietTactic
namespace Go.Proofs.YtcccnicldbpieaaGreatDoor
open Go Go.RowKit
set_option linter.unusedVariables false
set_option linter.unusedSimpArgs false
theorem namesR_yes {i : Nat} {r : Rs} (h : (r.kidNode i 4).is [41] = true) : namesR i r = r.kidNode i 4 := by unfold namesR; dsimp only; rw [if_pos h]
theorem namesR_no {i : Nat} {r : Rs} (h : (r.kidNode i 4).is [41] = false) : namesR i r = listR (wordR r.s.nd.length) (r.kidNode i 4) := by unfold namesR; dsimp only; rw [h]; rfl
theorem singleR_yes {i : Nat} {r : Rs} (h : r.is [115, 105, 110, 103, 108, 101] = true) : singleR i r = (r.num i 1).adv := by unfold singleR; rw [if_pos h]
theorem singleR_no {i : Nat} {r : Rs} (h : r.is [115, 105, 110, 103, 108, 101] = false) : singleR i r = r := by unfold singleR; rw [h]; rfl
theorem gro_mem {c : Int} {M : Rs → Rs} (h : RGro c M) {r : Rs} (g : RGood r) : r.s.nd.length ≤ (M r).s.nd.length := (h r g).nd
set_option maxRecDepth 100000 in
set_option maxHeartbeats 8000000 in
theorem qtable_any (w : World) (p B : Nat) (r : Rs) (R : QRep)  (h : QS w p B r R) (hb : r.phi ≤ 1000000) (hi : 0 < r.s.nd.length) (hk : r.s.hd.kind ≠ 4) :
    Calls Tryz.prog 27 #[.pointer (some ⟨p, 0, none⟩)] w fun e w' => e = .returned (.tuple #[]) ∧ PostQ w p B R (tableR 0 r) w' := by
  have HB := Lib.hid hb
  have H0 := Lib.hid (RanQ.refl h)
  clear h hb
  have HI := Lib.hid hi
  have HKD := Lib.hid hk
  clear hi hk
  go_enter Tryz.func27, Tryz.ntmps27
  go_wp2_with fail
  refine (qkid_any _ p B _ R (0) H0.out.qs (HI.out) (nd_le (H0.out.bound HB.out (by omega)))).mono ?_
  rintro e w1a ⟨rfl, R1a, hk, hm⟩
  have HK := Lib.hid (And.intro hk hm)
  clear hk hm
  go_wp2_with fail
  refine (qnode_kid _ p B _ R1a (0) 2 HK.out.1 (H0.out.bound HB.out (by omega))).mono ?_
  rintro e w1 ⟨rfl, hp⟩
  obtain ⟨R1, H1⟩ := RanQ.kidNode H0 HK hp
  clear hp HK
  have HN1 : Hid (r.s.nd.length < (Ps.nd (Rs.s (Rs.kidNode r (0) 2))).length) := Lib.hid (by rw [show (r.kidNode 0 2).s.nd.length = r.s.nd.length + 1 from kidNode_len r.s 0 2]; omega)
  have x1 := H1.out.qs.x1
  have hf1 := H1.out.qs.blk.frozen 1
  have hfew := H1.out.qs.few
  have hpos := H1.out.qs.good.last.pos
  go_wp2_with fail
  have H2 := RanQ.adv H1 (HKD.out)
  clear x1 hf1 hfew hpos
  generalize w1.setCell ⟨p, 1, none⟩ (.int .i64 ((R1.I : Int) + 1)) = w2 at *
  generalize { R1 with I := R1.I + 1 } = R2 at *
  have HN2 : Hid (r.s.nd.length < (Ps.nd (Rs.s (Rs.adv (Rs.kidNode r (0) 2)))).length) := Lib.hid (Nat.lt_of_lt_of_le HN1.out (RLater.nd (rl_adv H1.out.qs.good (HKD.out))))
  obtain ⟨g2, hi2, hA, hgl2, hgp2⟩ := H2.out.qs.node_at (i := r.s.nd.length) (HN2.out)
  have x3 := H2.out.qs.x3 hA
  have HA2 := Lib.hid hA
  have q0 : (0 : Int) ≤ ((r.s.nd.length : Nat) : Int) := Int.natCast_nonneg _
  have q1 : ((r.s.nd.length : Nat) : Int) < (R2.nh.length : Int) := by omega
  clear hA
  go_region_held3 (fun w' => w'.cell? ⟨p, 3, none⟩ = some (.slice (some ⟨g2, 0, none⟩) R2.nh.length R2.c))
    (first
      | assumption
      | go_keep
      | exact y1s _)
    (first
      | (go_at_call 54; refine (qname_t _ p B _ R2 (H2.out.qs.ext (by first | exact Ext.refl _ | exact Below.drew (Below.refl _ _)))).mono ?_; rintro e w2b ⟨rfl, I2, hq, hm⟩; have y1 : w2b.cell? ⟨p, 3, none⟩ = some (.slice (some ⟨g2, 0, none⟩) R2.nh.length R2.c) := hq.x3 HA2.out; have HN := Lib.hid (And.intro hq hm); have c2 : w2b.cell? ⟨g2, r.s.nd.length * 5 + 2, none⟩ = some (.string (bstr (R2.nh[r.s.nd.length]'hi2).1.text)) := (hq.nodeCell _ hi2 HA2.out 2 (by decide)); have z2 : w2b.frozen? ⟨g2, r.s.nd.length * 5 + 2, none⟩ = false := hq.nthaw _ HA2.out; have y1s : ∀ u, (w2b.setCell ⟨g2, r.s.nd.length * 5 + 2, none⟩ u).cell? ⟨p, 3, none⟩ = some (.slice (some ⟨g2, 0, none⟩) R2.nh.length R2.c) := fun u => (World.cell?_of_block (w := w2b) (a := ⟨p, 3, none⟩) (Below.heap_setCell w2b ⟨g2, r.s.nd.length * 5 + 2, none⟩ u p (fun e => hgp2 e.symm))).trans y1; clear hq hm)
      | (fail))
  obtain ⟨R3, H3⟩ := RanQ.named (i := r.s.nd.length) (g := g2) H2 HN.out.1 ((Moves.ext (by first | exact Ext.refl _ | exact Below.drew (Below.refl _ _))).trans HN.out.2) hi2 HA2.out
  clear c2 z2 y1 y1s x3 q0 q1 HN
  generalize w2b.setCell ⟨g2, r.s.nd.length * 5 + 2, none⟩ (.string (bstr (Rs.nameT (Rs.adv (Rs.kidNode r (0) 2))))) = w3 at *
  have HN3 : Hid (r.s.nd.length < (Ps.nd (Rs.s (namedR (r.s.nd.length) (Rs.adv (Rs.kidNode r (0) 2))))).length) := Lib.hid (Nat.lt_of_lt_of_le HN2.out (RLater.nd (gro_named (r.s.nd.length) _ H2.out.qs.good)))
  go_wp2_with fail
  refine (qtake_any _ p B _ R3 [40] H3.out.qs).mono ?_
  rintro e w4 ⟨rfl, hp⟩
  obtain ⟨R4, H4⟩ := RanQ.go H3 (gro_take [40]) hp
  clear hp
  have HN4 : Hid (r.s.nd.length < (Ps.nd (Rs.s (takeR [40] (namedR (r.s.nd.length) (Rs.adv (Rs.kidNode r (0) 2)))))).length) := Lib.hid (Nat.lt_of_lt_of_le HN3.out (RLater.nd (gro_take [40] _ H3.out.qs.good)))
  go_wp2_with fail
  refine (qword_any _ p B _ R4 r.s.nd.length H4.out.qs (HN4.out) (H4.out.bound HB.out (by omega))).mono ?_
  rintro e w5 ⟨rfl, hp⟩
  obtain ⟨R5, H5⟩ := RanQ.go H4 (gro_word (r.s.nd.length)) hp
  clear hp
  have HN5 : Hid (r.s.nd.length < (Ps.nd (Rs.s (wordR (r.s.nd.length) (takeR [40] (namedR (r.s.nd.length) (Rs.adv (Rs.kidNode r (0) 2))))))).length) := Lib.hid (Nat.lt_of_lt_of_le HN4.out (RLater.nd (gro_word (r.s.nd.length) _ H4.out.qs.good)))
  go_wp2_with fail
  have HJ := RanQ.le (d := 8) H5 (by decide)
  go_loopw [] (fun wr => MoreJ w p B R r (wordR (r.s.nd.length)) (wordR (r.s.nd.length) (takeR [40] (namedR (r.s.nd.length) (Rs.adv (Rs.kidNode r (0) 2))))) wr) (fun wr => lenQ p wr)
  case atStart => exact ⟨_, _, _, HJ, Lib.hid (Nat.lt_succ_self _), Lib.hid rfl, Lib.hid (Nat.le_refl _)⟩
  case round =>
    obtain ⟨q, Rq, f', Hq0, HF, HEQ, HND⟩ := hrel
    obtain ⟨wq, rfl⟩ : ∃ wa : World, wa = wr := ⟨_, rfl⟩
    obtain ⟨f'', rfl⟩ : ∃ n, f' = n + 1 := ⟨f' - 1, by have := HF.out; omega⟩
    have HLM : Hid (lenQ p wq = q.s.ts.length) := Lib.hid Hq0.out.qs.lenQ
    cases hq : q.is [44] with
    | true =>
      have HQ := Lib.hid hq
      have HQ4 := Lib.hid (ris_kind hq).1
      have HEQ2 : Hid (moreR (wordR (r.s.nd.length)) ((Ps.ts (Rs.s (wordR (r.s.nd.length) (takeR [40] (namedR (r.s.nd.length) (Rs.adv (Rs.kidNode r (0) 2))))))).length + 1) (wordR (r.s.nd.length) (takeR [40] (namedR (r.s.nd.length) (Rs.adv (Rs.kidNode r (0) 2))))) = moreR (wordR (r.s.nd.length)) f'' ((wordR (r.s.nd.length)) q.adv)) := Lib.hid (HEQ.out.trans (moreR_yes hq))
      clear hq
      go_wp2_with fail
      refine (qis_any _ p B q Rq [44] true HQ Hq0.out.qs).mono ?_
      rintro e _ ⟨rfl, m, rfl⟩
      have Hq1 := RanQ.drew Hq0 m
      generalize wq.drewN m = wq1 at *
      have x1 := Hq1.out.qs.x1
      have hf1 := Hq1.out.qs.blk.frozen 1
      have hfew := Hq1.out.qs.few
      have hpos := Hq1.out.qs.good.last.pos
      go_wp2_with fail
      have Hq2 := RanQ.adv Hq1 HQ4.out
      clear x1 hf1 hfew hpos
      generalize wq1.setCell ⟨p, 1, none⟩ (.int .i64 ((Rq.I : Int) + 1)) = wq2 at *
      generalize { Rq with I := Rq.I + 1 } = Rq2 at *
      refine (qword_any _ p B _ Rq2 r.s.nd.length Hq2.out.qs (Nat.lt_of_lt_of_le (HN5.out) (Nat.le_trans HND.out (Nat.le_refl _))) (Hq2.out.bound HB.out (by omega))).mono ?_
      rintro e wq3 ⟨rfl, hp⟩
      obtain ⟨Rq3, Hq3⟩ := RanQ.go Hq2 (gro_word (r.s.nd.length)) hp
      clear hp
      have HL3 : Hid (((wordR (r.s.nd.length)) q.adv).s.ts.length < q.s.ts.length) := Lib.hid (by
        have h1 := Hq1.out.qs.good.last.len HQ4.out
        have h2 := (gro_word (r.s.nd.length) q.adv Hq2.out.qs.good).ts
        have h3 : q.adv.s.ts.length < q.s.ts.length := h1
        omega)
      have HN3 : Hid ((Ps.nd (Rs.s (wordR (r.s.nd.length) (takeR [40] (namedR (r.s.nd.length) (Rs.adv (Rs.kidNode r (0) 2))))))).length ≤ ((wordR (r.s.nd.length)) q.adv).s.nd.length) := Lib.hid (Nat.le_trans HND.out (gro_word (r.s.nd.length) q.adv Hq2.out.qs.good).nd)
      have HR3 := RanQ.le (d := 8) Hq3 (by decide)
      go_wp2_with fail
      go_roundw
      case rel => exact ⟨_, _, f'', HR3, Lib.hid (by have := HL3.out; have := HF.out; omega), HEQ2, HN3⟩
      case measure => rw [HLM.out, HR3.out.qs.lenQ]; exact HL3.out
    | false =>
      have HQ := Lib.hid hq
      have HLS : Hid (listR (wordR (r.s.nd.length)) (takeR [40] (namedR (r.s.nd.length) (Rs.adv (Rs.kidNode r (0) 2)))) = q) := Lib.hid (HEQ.out.trans (moreR_no hq))
      clear hq
      go_wp2_with fail
      refine (qis_any _ p B q Rq [44] false HQ Hq0.out.qs).mono ?_
      rintro e _ ⟨rfl, m, rfl⟩
      have H6 := RanQ.drew Hq0 m
      generalize wq.drewN m = w6 at *
      have HN6 : Hid (r.s.nd.length < q.s.nd.length) := Lib.hid (Nat.lt_of_lt_of_le HN5.out HND.out)
      go_wp2_with fail
      refine (qtake_any _ p B _ Rq [41] H6.out.qs).mono ?_
      rintro e w7 ⟨rfl, hp⟩
      obtain ⟨R7, H7⟩ := RanQ.go H6 (gro_take [41]) hp
      clear hp
      have HN7 : Hid (r.s.nd.length < (Ps.nd (Rs.s (takeR [41] q))).length) := Lib.hid (Nat.lt_of_lt_of_le HN6.out (RLater.nd (gro_take [41] _ H6.out.qs.good)))
      go_wp2_with fail
      refine (qtake_any _ p B _ R7 [59] H7.out.qs).mono ?_
      rintro e w8 ⟨rfl, hp⟩
      obtain ⟨R8, H8⟩ := RanQ.go H7 (gro_take [59]) hp
      clear hp
      have HN8 : Hid (r.s.nd.length < (Ps.nd (Rs.s (takeR [59] (takeR [41] q)))).length) := Lib.hid (Nat.lt_of_lt_of_le HN7.out (RLater.nd (gro_take [59] _ H7.out.qs.good)))
      go_wp2_with fail
      go_end0
      rw [show tableR 0 r = takeR [59] (takeR [41] (listR (wordR (r.s.nd.length)) (takeR [40] (namedR (r.s.nd.length) (Rs.adv (Rs.kidNode r (0) 2)))))) from rfl, HLS.out]
      exact ⟨rfl, H8.out.post⟩
set_option maxRecDepth 100000 in
set_option maxHeartbeats 8000000 in
theorem qproc_any (w : World) (p B : Nat) (r : Rs) (R : QRep)  (h : QS w p B r R) (hb : r.phi ≤ 1000000) (hi : 0 < r.s.nd.length) (hk : r.s.hd.kind ≠ 4) :
    Calls Tryz.prog 28 #[.pointer (some ⟨p, 0, none⟩)] w fun e w' => e = .returned (.tuple #[]) ∧ PostQ w p B R (procR 0 r) w' := by
  have HB := Lib.hid hb
  have H0 := Lib.hid (RanQ.refl h)
  clear h hb
  have HI := Lib.hid hi
  have HKD := Lib.hid hk
  clear hi hk
  go_enter Tryz.func28, Tryz.ntmps28
  go_wp2_with fail
  refine (qkid_any _ p B _ R (0) H0.out.qs (HI.out) (nd_le (H0.out.bound HB.out (by omega)))).mono ?_
  rintro e w1a ⟨rfl, R1a, hk, hm⟩
  have HK := Lib.hid (And.intro hk hm)
  clear hk hm
  go_wp2_with fail
  refine (qnode_kid _ p B _ R1a (0) 3 HK.out.1 (H0.out.bound HB.out (by omega))).mono ?_
  rintro e w1 ⟨rfl, hp⟩
  obtain ⟨R1, H1⟩ := RanQ.kidNode H0 HK hp
  clear hp HK
  have HN1 : Hid (r.s.nd.length < (Ps.nd (Rs.s (Rs.kidNode r (0) 3))).length) := Lib.hid (by rw [show (r.kidNode 0 3).s.nd.length = r.s.nd.length + 1 from kidNode_len r.s 0 3]; omega)
  have x1 := H1.out.qs.x1
  have hf1 := H1.out.qs.blk.frozen 1
  have hfew := H1.out.qs.few
  have hpos := H1.out.qs.good.last.pos
  go_wp2_with fail
  have H2 := RanQ.adv H1 (HKD.out)
  clear x1 hf1 hfew hpos
  generalize w1.setCell ⟨p, 1, none⟩ (.int .i64 ((R1.I : Int) + 1)) = w2 at *
  generalize { R1 with I := R1.I + 1 } = R2 at *
  have HN2 : Hid (r.s.nd.length < (Ps.nd (Rs.s (Rs.adv (Rs.kidNode r (0) 3)))).length) := Lib.hid (Nat.lt_of_lt_of_le HN1.out (RLater.nd (rl_adv H1.out.qs.good (HKD.out))))
  obtain ⟨g2, hi2, hA, hgl2, hgp2⟩ := H2.out.qs.node_at (i := r.s.nd.length) (HN2.out)
  have x3 := H2.out.qs.x3 hA
  have HA2 := Lib.hid hA
  have q0 : (0 : Int) ≤ ((r.s.nd.length : Nat) : Int) := Int.natCast_nonneg _
  have q1 : ((r.s.nd.length : Nat) : Int) < (R2.nh.length : Int) := by omega
  clear hA
  go_region_held3 (fun w' => w'.cell? ⟨p, 3, none⟩ = some (.slice (some ⟨g2, 0, none⟩) R2.nh.length R2.c))
    (first
      | assumption
      | go_keep
      | exact y1s _)
    (first
      | (go_at_call 54; refine (qname_t _ p B _ R2 (H2.out.qs.ext (by first | exact Ext.refl _ | exact Below.drew (Below.refl _ _)))).mono ?_; rintro e w2b ⟨rfl, I2, hq, hm⟩; have y1 : w2b.cell? ⟨p, 3, none⟩ = some (.slice (some ⟨g2, 0, none⟩) R2.nh.length R2.c) := hq.x3 HA2.out; have HN := Lib.hid (And.intro hq hm); have c2 : w2b.cell? ⟨g2, r.s.nd.length * 5 + 2, none⟩ = some (.string (bstr (R2.nh[r.s.nd.length]'hi2).1.text)) := (hq.nodeCell _ hi2 HA2.out 2 (by decide)); have z2 : w2b.frozen? ⟨g2, r.s.nd.length * 5 + 2, none⟩ = false := hq.nthaw _ HA2.out; have y1s : ∀ u, (w2b.setCell ⟨g2, r.s.nd.length * 5 + 2, none⟩ u).cell? ⟨p, 3, none⟩ = some (.slice (some ⟨g2, 0, none⟩) R2.nh.length R2.c) := fun u => (World.cell?_of_block (w := w2b) (a := ⟨p, 3, none⟩) (Below.heap_setCell w2b ⟨g2, r.s.nd.length * 5 + 2, none⟩ u p (fun e => hgp2 e.symm))).trans y1; clear hq hm)
      | (fail))
  obtain ⟨R3, H3⟩ := RanQ.named (i := r.s.nd.length) (g := g2) H2 HN.out.1 ((Moves.ext (by first | exact Ext.refl _ | exact Below.drew (Below.refl _ _))).trans HN.out.2) hi2 HA2.out
  clear c2 z2 y1 y1s x3 q0 q1 HN
  generalize w2b.setCell ⟨g2, r.s.nd.length * 5 + 2, none⟩ (.string (bstr (Rs.nameT (Rs.adv (Rs.kidNode r (0) 3))))) = w3 at *
  have HN3 : Hid (r.s.nd.length < (Ps.nd (Rs.s (namedR (r.s.nd.length) (Rs.adv (Rs.kidNode r (0) 3))))).length) := Lib.hid (Nat.lt_of_lt_of_le HN2.out (RLater.nd (gro_named (r.s.nd.length) _ H2.out.qs.good)))
  go_wp2_with fail
  refine (qtake_any _ p B _ R3 [40] H3.out.qs).mono ?_
  rintro e w4 ⟨rfl, hp⟩
  obtain ⟨R4, H4⟩ := RanQ.go H3 (gro_take [40]) hp
  clear hp
  have HN4 : Hid (r.s.nd.length < (Ps.nd (Rs.s (takeR [40] (namedR (r.s.nd.length) (Rs.adv (Rs.kidNode r (0) 3)))))).length) := Lib.hid (Nat.lt_of_lt_of_le HN3.out (RLater.nd (gro_take [40] _ H3.out.qs.good)))
  go_wp2_with fail
  refine (qkid_any _ p B _ R4 (r.s.nd.length) H4.out.qs (HN4.out) (nd_le (H4.out.bound HB.out (by omega)))).mono ?_
  rintro e w5a ⟨rfl, R5a, hk, hm⟩
  have HK := Lib.hid (And.intro hk hm)
  clear hk hm
  go_wp2_with fail
  refine (qnode_kid _ p B _ R5a (r.s.nd.length) 4 HK.out.1 (H4.out.bound HB.out (by omega))).mono ?_
  rintro e w5 ⟨rfl, hp⟩
  obtain ⟨R5, H5⟩ := RanQ.kidNode H4 HK hp
  clear hp HK
  have HN5 : Hid (r.s.nd.length < (Ps.nd (Rs.s (Rs.kidNode (takeR [40] (namedR (r.s.nd.length) (Rs.adv (Rs.kidNode r (0) 3)))) (r.s.nd.length) 4))).length) := Lib.hid (Nat.lt_of_lt_of_le HN4.out (RLater.nd (rl_kidNode H4.out.qs.good (r.s.nd.length) 4)))
  go_wp2_with fail
  have HL1 : Hid ((Ps.nd (Rs.s (takeR [40] (namedR (r.s.nd.length) (Rs.adv (Rs.kidNode r (0) 3)))))).length < (Ps.nd (Rs.s (Rs.kidNode (takeR [40] (namedR (r.s.nd.length) (Rs.adv (Rs.kidNode r (0) 3)))) (r.s.nd.length) 4))).length) := Lib.hid (by rw [show (Ps.nd (Rs.s (Rs.kidNode (takeR [40] (namedR (r.s.nd.length) (Rs.adv (Rs.kidNode r (0) 3)))) (r.s.nd.length) 4))).length = (Ps.nd (Rs.s (takeR [40] (namedR (r.s.nd.length) (Rs.adv (Rs.kidNode r (0) 3)))))).length + 1 from kidNode_len _ _ _]; omega)
  cases hp : Rs.is [41] (Rs.kidNode (takeR [40] (namedR (r.s.nd.length) (Rs.adv (Rs.kidNode r (0) 3)))) (r.s.nd.length) 4) with
  | true =>
    have HNM := Lib.hid (namesR_yes hp)
    have HP := Lib.hid hp
    clear hp
    refine (qis_any _ p B _ R5 [41] true (HP) H5.out.qs).mono ?_
    rintro e _ ⟨rfl, m, rfl⟩
    have H6 := RanQ.drew H5 m
    generalize w5.drewN m = w6 at *
    have HN6 := HN5
    go_wp2_with fail
    refine (qtake_any _ p B _ R5 [41] H6.out.qs).mono ?_
    rintro e w7 ⟨rfl, hp⟩
    obtain ⟨R7, H7⟩ := RanQ.go H6 (gro_take [41]) hp
    clear hp
    have HN7 : Hid (r.s.nd.length < (Ps.nd (Rs.s (takeR [41] (Rs.kidNode (takeR [40] (namedR (r.s.nd.length) (Rs.adv (Rs.kidNode r (0) 3)))) (r.s.nd.length) 4)))).length) := Lib.hid (Nat.lt_of_lt_of_le HN6.out (RLater.nd (gro_take [41] _ H6.out.qs.good)))
    go_wp2_with fail
    cases hs : Rs.is [115, 105, 110, 103, 108, 101] (takeR [41] (Rs.kidNode (takeR [40] (namedR (r.s.nd.length) (Rs.adv (Rs.kidNode r (0) 3)))) (r.s.nd.length) 4)) with
    | false =>
      have HSG := Lib.hid (singleR_no (i := r.s.nd.length) hs)
      have HS := Lib.hid hs
      clear hs
      refine (qis_any _ p B _ R7 [115, 105, 110, 103, 108, 101] false (HS) H7.out.qs).mono ?_
      rintro e _ ⟨rfl, m, rfl⟩
      have H8 := RanQ.drew H7 m
      generalize w7.drewN m = w8 at *
      have HN8 := HN7
      go_wp2_with fail
      refine (qblock_of _ p B _ R7 _ (qstmt_any (Ps.ts (Rs.s (takeR [41] (Rs.kidNode (takeR [40] (namedR (r.s.nd.length) (Rs.adv (Rs.kidNode r (0) 3)))) (r.s.nd.length) 4)))).length) (r.s.nd.length) H8.out.qs (HN8.out) (H8.out.bound HB.out (by omega)) (Nat.le_refl _)).mono ?_
      rintro e w9 ⟨rfl, hp⟩
      obtain ⟨R9, H9⟩ := RanQ.go H8 (gro_block (gro_stmt (Ps.ts (Rs.s (takeR [41] (Rs.kidNode (takeR [40] (namedR (r.s.nd.length) (Rs.adv (Rs.kidNode r (0) 3)))) (r.s.nd.length) 4)))).length) (r.s.nd.length)) hp
      clear hp
      have HN9 : Hid (r.s.nd.length < (Ps.nd (Rs.s (blockR (stmtR (Ps.ts (Rs.s (takeR [41] (Rs.kidNode (takeR [40] (namedR (r.s.nd.length) (Rs.adv (Rs.kidNode r (0) 3)))) (r.s.nd.length) 4)))).length) (r.s.nd.length) (takeR [41] (Rs.kidNode (takeR [40] (namedR (r.s.nd.length) (Rs.adv (Rs.kidNode r (0) 3)))) (r.s.nd.length) 4))))).length) := Lib.hid (Nat.lt_of_lt_of_le HN8.out (RLater.nd (gro_block (gro_stmt (Ps.ts (Rs.s (takeR [41] (Rs.kidNode (takeR [40] (namedR (r.s.nd.length) (Rs.adv (Rs.kidNode r (0) 3)))) (r.s.nd.length) 4)))).length) (r.s.nd.length) _ H8.out.qs.good)))
      go_wp2_with fail
      go_end0
      rw [show procR 0 r = blockRR (r.s.nd.length) (singleR (r.s.nd.length) (takeR [41] (namesR (r.s.nd.length) (takeR [40] (namedR (r.s.nd.length) (Rs.adv (Rs.kidNode r (0) 3))))))) from rfl, HNM.out, HSG.out]
      exact ⟨rfl, H9.out.post⟩
    | true =>
      have HSG := Lib.hid (singleR_yes (i := r.s.nd.length) hs)
      have HS := Lib.hid hs
      clear hs
      refine (qis_any _ p B _ R7 [115, 105, 110, 103, 108, 101] true (HS) H7.out.qs).mono ?_
      rintro e _ ⟨rfl, m, rfl⟩
      have H8 := RanQ.drew H7 m
      generalize w7.drewN m = w8 at *
      have HN8 := HN7
      obtain ⟨g8, hi8, hA, hgl8, hgp8⟩ := H8.out.qs.node_at (i := r.s.nd.length) (HN8.out)
      have x3 := H8.out.qs.x3 hA
      have HA8 := Lib.hid hA
      have q0 : (0 : Int) ≤ ((r.s.nd.length : Nat) : Int) := Int.natCast_nonneg _
      have q1 : ((r.s.nd.length : Nat) : Int) < (R7.nh.length : Int) := by omega
      clear hA
      have c3 : w8.cell? ⟨g8, r.s.nd.length * 5 + 3, none⟩ = some (.int .i64 (R7.nh[r.s.nd.length]'hi8).1.num) := (H8.out.qs.nodeCell _ hi8 HA8.out 3 (by decide))
      have z3 := H8.out.qs.nthaw (r.s.nd.length * 5 + 3) HA8.out
      go_upto_region 15 with fail
      obtain ⟨R9, H9⟩ := RanQ.num (i := r.s.nd.length) (g := g8) H8 (1) hi8 HA8.out
      clear c3 z3 x3 q0 q1
      generalize w8.setCell ⟨g8, r.s.nd.length * 5 + 3, none⟩ (.int .i64 (1)) = w9 at *
      have HN9 : Hid (r.s.nd.length < (Ps.nd (Rs.s (Rs.num (takeR [41] (Rs.kidNode (takeR [40] (namedR (r.s.nd.length) (Rs.adv (Rs.kidNode r (0) 3)))) (r.s.nd.length) 4)) (r.s.nd.length) (1)))).length) := Lib.hid (Nat.lt_of_lt_of_le HN8.out (RLater.nd (gro_num (r.s.nd.length) (1) _ H8.out.qs.good)))
      have x1 := H9.out.qs.x1
      have hf1 := H9.out.qs.blk.frozen 1
      have hfew := H9.out.qs.few
      have hpos := H9.out.qs.good.last.pos
      go_wp2_with fail
      have H10 := RanQ.adv H9 ((ris_kind HS.out).1)
      clear x1 hf1 hfew hpos
      generalize w9.setCell ⟨p, 1, none⟩ (.int .i64 ((R9.I : Int) + 1)) = w10 at *
      generalize { R9 with I := R9.I + 1 } = R10 at *
      have HN10 : Hid (r.s.nd.length < (Ps.nd (Rs.s (Rs.adv (Rs.num (takeR [41] (Rs.kidNode (takeR [40] (namedR (r.s.nd.length) (Rs.adv (Rs.kidNode r (0) 3)))) (r.s.nd.length) 4)) (r.s.nd.length) (1))))).length) := Lib.hid (Nat.lt_of_lt_of_le HN9.out (RLater.nd (rl_adv H9.out.qs.good ((ris_kind HS.out).1))))
      refine (qblock_of _ p B _ R10 _ (qstmt_any (Ps.ts (Rs.s (Rs.adv (Rs.num (takeR [41] (Rs.kidNode (takeR [40] (namedR (r.s.nd.length) (Rs.adv (Rs.kidNode r (0) 3)))) (r.s.nd.length) 4)) (r.s.nd.length) (1))))).length) (r.s.nd.length) H10.out.qs (HN10.out) (H10.out.bound HB.out (by omega)) (Nat.le_refl _)).mono ?_
      rintro e w11 ⟨rfl, hp⟩
      obtain ⟨R11, H11⟩ := RanQ.go H10 (gro_block (gro_stmt (Ps.ts (Rs.s (Rs.adv (Rs.num (takeR [41] (Rs.kidNode (takeR [40] (namedR (r.s.nd.length) (Rs.adv (Rs.kidNode r (0) 3)))) (r.s.nd.length) 4)) (r.s.nd.length) (1))))).length) (r.s.nd.length)) hp
      clear hp
      have HN11 : Hid (r.s.nd.length < (Ps.nd (Rs.s (blockR (stmtR (Ps.ts (Rs.s (Rs.adv (Rs.num (takeR [41] (Rs.kidNode (takeR [40] (namedR (r.s.nd.length) (Rs.adv (Rs.kidNode r (0) 3)))) (r.s.nd.length) 4)) (r.s.nd.length) (1))))).length) (r.s.nd.length) (Rs.adv (Rs.num (takeR [41] (Rs.kidNode (takeR [40] (namedR (r.s.nd.length) (Rs.adv (Rs.kidNode r (0) 3)))) (r.s.nd.length) 4)) (r.s.nd.length) (1)))))).length) := Lib.hid (Nat.lt_of_lt_of_le HN10.out (RLater.nd (gro_block (gro_stmt (Ps.ts (Rs.s (Rs.adv (Rs.num (takeR [41] (Rs.kidNode (takeR [40] (namedR (r.s.nd.length) (Rs.adv (Rs.kidNode r (0) 3)))) (r.s.nd.length) 4)) (r.s.nd.length) (1))))).length) (r.s.nd.length) _ H10.out.qs.good)))
      go_wp2_with fail
      go_end0
      rw [show procR 0 r = blockRR (r.s.nd.length) (singleR (r.s.nd.length) (takeR [41] (namesR (r.s.nd.length) (takeR [40] (namedR (r.s.nd.length) (Rs.adv (Rs.kidNode r (0) 3))))))) from rfl, HNM.out, HSG.out]
      exact ⟨rfl, H11.out.post⟩
  | false =>
    have HNM := Lib.hid (namesR_no hp)
    have HP := Lib.hid hp
    clear hp
    refine (qis_any _ p B _ R5 [41] false (HP) H5.out.qs).mono ?_
    rintro e _ ⟨rfl, m, rfl⟩
    have H6 := RanQ.drew H5 m
    generalize w5.drewN m = w6 at *
    have HN6 := HN5
    go_wp2_with fail
    refine (qword_any _ p B _ R5 (Ps.nd (Rs.s (takeR [40] (namedR (r.s.nd.length) (Rs.adv (Rs.kidNode r (0) 3)))))).length H6.out.qs (HL1.out) (H6.out.bound HB.out (by omega))).mono ?_
    rintro e w7 ⟨rfl, hp⟩
    obtain ⟨R7, H7⟩ := RanQ.go H6 (gro_word ((Ps.nd (Rs.s (takeR [40] (namedR (r.s.nd.length) (Rs.adv (Rs.kidNode r (0) 3)))))).length)) hp
    clear hp
    have HN7 : Hid (r.s.nd.length < (Ps.nd (Rs.s (wordR ((Ps.nd (Rs.s (takeR [40] (namedR (r.s.nd.length) (Rs.adv (Rs.kidNode r (0) 3)))))).length) (Rs.kidNode (takeR [40] (namedR (r.s.nd.length) (Rs.adv (Rs.kidNode r (0) 3)))) (r.s.nd.length) 4)))).length) := Lib.hid (Nat.lt_of_lt_of_le HN6.out (RLater.nd (gro_word ((Ps.nd (Rs.s (takeR [40] (namedR (r.s.nd.length) (Rs.adv (Rs.kidNode r (0) 3)))))).length) _ H6.out.qs.good)))
    go_wp2_with fail
    have HJ := RanQ.le (d := 8) H7 (by decide)
    go_loopw [] (fun wr => MoreJ w p B R r (wordR ((Ps.nd (Rs.s (takeR [40] (namedR (r.s.nd.length) (Rs.adv (Rs.kidNode r (0) 3)))))).length)) (wordR ((Ps.nd (Rs.s (takeR [40] (namedR (r.s.nd.length) (Rs.adv (Rs.kidNode r (0) 3)))))).length) (Rs.kidNode (takeR [40] (namedR (r.s.nd.length) (Rs.adv (Rs.kidNode r (0) 3)))) (r.s.nd.length) 4)) wr) (fun wr => lenQ p wr)
    case atStart => exact ⟨_, _, _, HJ, Lib.hid (Nat.lt_succ_self _), Lib.hid rfl, Lib.hid (Nat.le_refl _)⟩
    case round =>
      obtain ⟨q, Rq, f', Hq0, HF, HEQ, HND⟩ := hrel
      obtain ⟨wq, rfl⟩ : ∃ wa : World, wa = wr := ⟨_, rfl⟩
      obtain ⟨f'', rfl⟩ : ∃ n, f' = n + 1 := ⟨f' - 1, by have := HF.out; omega⟩
      have HLM : Hid (lenQ p wq = q.s.ts.length) := Lib.hid Hq0.out.qs.lenQ
      cases hq : q.is [44] with
      | true =>
        have HQ := Lib.hid hq
        have HQ4 := Lib.hid (ris_kind hq).1
        have HEQ2 : Hid (moreR (wordR ((Ps.nd (Rs.s (takeR [40] (namedR (r.s.nd.length) (Rs.adv (Rs.kidNode r (0) 3)))))).length)) ((Ps.ts (Rs.s (wordR ((Ps.nd (Rs.s (takeR [40] (namedR (r.s.nd.length) (Rs.adv (Rs.kidNode r (0) 3)))))).length) (Rs.kidNode (takeR [40] (namedR (r.s.nd.length) (Rs.adv (Rs.kidNode r (0) 3)))) (r.s.nd.length) 4)))).length + 1) (wordR ((Ps.nd (Rs.s (takeR [40] (namedR (r.s.nd.length) (Rs.adv (Rs.kidNode r (0) 3)))))).length) (Rs.kidNode (takeR [40] (namedR (r.s.nd.length) (Rs.adv (Rs.kidNode r (0) 3)))) (r.s.nd.length) 4)) = moreR (wordR ((Ps.nd (Rs.s (takeR [40] (namedR (r.s.nd.length) (Rs.adv (Rs.kidNode r (0) 3)))))).length)) f'' ((wordR ((Ps.nd (Rs.s (takeR [40] (namedR (r.s.nd.length) (Rs.adv (Rs.kidNode r (0) 3)))))).length)) q.adv)) := Lib.hid (HEQ.out.trans (moreR_yes hq))
        clear hq
        go_wp2_with fail
        refine (qis_any _ p B q Rq [44] true HQ Hq0.out.qs).mono ?_
        rintro e _ ⟨rfl, m, rfl⟩
        have Hq1 := RanQ.drew Hq0 m
        generalize wq.drewN m = wq1 at *
        have x1 := Hq1.out.qs.x1
        have hf1 := Hq1.out.qs.blk.frozen 1
        have hfew := Hq1.out.qs.few
        have hpos := Hq1.out.qs.good.last.pos
        go_wp2_with fail
        have Hq2 := RanQ.adv Hq1 HQ4.out
        clear x1 hf1 hfew hpos
        generalize wq1.setCell ⟨p, 1, none⟩ (.int .i64 ((Rq.I : Int) + 1)) = wq2 at *
        generalize { Rq with I := Rq.I + 1 } = Rq2 at *
        refine (qword_any _ p B _ Rq2 (Ps.nd (Rs.s (takeR [40] (namedR (r.s.nd.length) (Rs.adv (Rs.kidNode r (0) 3)))))).length Hq2.out.qs (Nat.lt_of_lt_of_le (Nat.lt_of_lt_of_le HL1.out (gro_word ((Ps.nd (Rs.s (takeR [40] (namedR (r.s.nd.length) (Rs.adv (Rs.kidNode r (0) 3)))))).length) _ H6.out.qs.good).nd) (Nat.le_trans HND.out (Nat.le_refl _))) (Hq2.out.bound HB.out (by omega))).mono ?_
        rintro e wq3 ⟨rfl, hp⟩
        obtain ⟨Rq3, Hq3⟩ := RanQ.go Hq2 (gro_word ((Ps.nd (Rs.s (takeR [40] (namedR (r.s.nd.length) (Rs.adv (Rs.kidNode r (0) 3)))))).length)) hp
        clear hp
        have HL3 : Hid (((wordR ((Ps.nd (Rs.s (takeR [40] (namedR (r.s.nd.length) (Rs.adv (Rs.kidNode r (0) 3)))))).length)) q.adv).s.ts.length < q.s.ts.length) := Lib.hid (by
          have h1 := Hq1.out.qs.good.last.len HQ4.out
          have h2 := (gro_word ((Ps.nd (Rs.s (takeR [40] (namedR (r.s.nd.length) (Rs.adv (Rs.kidNode r (0) 3)))))).length) q.adv Hq2.out.qs.good).ts
          have h3 : q.adv.s.ts.length < q.s.ts.length := h1
          omega)
        have HN3 : Hid ((Ps.nd (Rs.s (wordR ((Ps.nd (Rs.s (takeR [40] (namedR (r.s.nd.length) (Rs.adv (Rs.kidNode r (0) 3)))))).length) (Rs.kidNode (takeR [40] (namedR (r.s.nd.length) (Rs.adv (Rs.kidNode r (0) 3)))) (r.s.nd.length) 4)))).length ≤ ((wordR ((Ps.nd (Rs.s (takeR [40] (namedR (r.s.nd.length) (Rs.adv (Rs.kidNode r (0) 3)))))).length)) q.adv).s.nd.length) := Lib.hid (Nat.le_trans HND.out (gro_word ((Ps.nd (Rs.s (takeR [40] (namedR (r.s.nd.length) (Rs.adv (Rs.kidNode r (0) 3)))))).length) q.adv Hq2.out.qs.good).nd)
        have HR3 := RanQ.le (d := 8) Hq3 (by decide)
        go_wp2_with fail
        go_roundw
        case rel => exact ⟨_, _, f'', HR3, Lib.hid (by have := HL3.out; have := HF.out; omega), HEQ2, HN3⟩
        case measure => rw [HLM.out, HR3.out.qs.lenQ]; exact HL3.out
      | false =>
        have HQ := Lib.hid hq
        have HLS : Hid (listR (wordR ((Ps.nd (Rs.s (takeR [40] (namedR (r.s.nd.length) (Rs.adv (Rs.kidNode r (0) 3)))))).length)) (Rs.kidNode (takeR [40] (namedR (r.s.nd.length) (Rs.adv (Rs.kidNode r (0) 3)))) (r.s.nd.length) 4) = q) := Lib.hid (HEQ.out.trans (moreR_no hq))
        clear hq
        go_wp2_with fail
        refine (qis_any _ p B q Rq [44] false HQ Hq0.out.qs).mono ?_
        rintro e _ ⟨rfl, m, rfl⟩
        have H8 := RanQ.drew Hq0 m
        generalize wq.drewN m = w8 at *
        have HN8 : Hid (r.s.nd.length < q.s.nd.length) := Lib.hid (Nat.lt_of_lt_of_le HN7.out HND.out)
        go_wp2_with fail
        refine (qtake_any _ p B _ Rq [41] H8.out.qs).mono ?_
        rintro e w9 ⟨rfl, hp⟩
        obtain ⟨R9, H9⟩ := RanQ.go H8 (gro_take [41]) hp
        clear hp
        have HN9 : Hid (r.s.nd.length < (Ps.nd (Rs.s (takeR [41] q))).length) := Lib.hid (Nat.lt_of_lt_of_le HN8.out (RLater.nd (gro_take [41] _ H8.out.qs.good)))
        go_wp2_with fail
        cases hs : Rs.is [115, 105, 110, 103, 108, 101] (takeR [41] q) with
        | false =>
          have HSG := Lib.hid (singleR_no (i := r.s.nd.length) hs)
          have HS := Lib.hid hs
          clear hs
          refine (qis_any _ p B _ R9 [115, 105, 110, 103, 108, 101] false (HS) H9.out.qs).mono ?_
          rintro e _ ⟨rfl, m, rfl⟩
          have H10 := RanQ.drew H9 m
          generalize w9.drewN m = w10 at *
          have HN10 := HN9
          go_wp2_with fail
          refine (qblock_of _ p B _ R9 _ (qstmt_any (Ps.ts (Rs.s (takeR [41] q))).length) (r.s.nd.length) H10.out.qs (HN10.out) (H10.out.bound HB.out (by omega)) (Nat.le_refl _)).mono ?_
          rintro e w11 ⟨rfl, hp⟩
          obtain ⟨R11, H11⟩ := RanQ.go H10 (gro_block (gro_stmt (Ps.ts (Rs.s (takeR [41] q))).length) (r.s.nd.length)) hp
          clear hp
          have HN11 : Hid (r.s.nd.length < (Ps.nd (Rs.s (blockR (stmtR (Ps.ts (Rs.s (takeR [41] q))).length) (r.s.nd.length) (takeR [41] q)))).length) := Lib.hid (Nat.lt_of_lt_of_le HN10.out (RLater.nd (gro_block (gro_stmt (Ps.ts (Rs.s (takeR [41] q))).length) (r.s.nd.length) _ H10.out.qs.good)))
          go_wp2_with fail
          go_end0
          rw [show procR 0 r = blockRR (r.s.nd.length) (singleR (r.s.nd.length) (takeR [41] (namesR (r.s.nd.length) (takeR [40] (namedR (r.s.nd.length) (Rs.adv (Rs.kidNode r (0) 3))))))) from rfl, HNM.out, HLS.out, HSG.out]
          exact ⟨rfl, H11.out.post⟩
        | true =>
          have HSG := Lib.hid (singleR_yes (i := r.s.nd.length) hs)
          have HS := Lib.hid hs
          clear hs
          refine (qis_any _ p B _ R9 [115, 105, 110, 103, 108, 101] true (HS) H9.out.qs).mono ?_
          rintro e _ ⟨rfl, m, rfl⟩
          have H10 := RanQ.drew H9 m
          generalize w9.drewN m = w10 at *
          have HN10 := HN9
          obtain ⟨g10, hi10, hA, hgl10, hgp10⟩ := H10.out.qs.node_at (i := r.s.nd.length) (HN10.out)
          have x3 := H10.out.qs.x3 hA
          have HA10 := Lib.hid hA
          have q0 : (0 : Int) ≤ ((r.s.nd.length : Nat) : Int) := Int.natCast_nonneg _
          have q1 : ((r.s.nd.length : Nat) : Int) < (R9.nh.length : Int) := by omega
          clear hA
          have c3 : w10.cell? ⟨g10, r.s.nd.length * 5 + 3, none⟩ = some (.int .i64 (R9.nh[r.s.nd.length]'hi10).1.num) := (H10.out.qs.nodeCell _ hi10 HA10.out 3 (by decide))
          have z3 := H10.out.qs.nthaw (r.s.nd.length * 5 + 3) HA10.out
          go_upto_region 15 with fail
          obtain ⟨R11, H11⟩ := RanQ.num (i := r.s.nd.length) (g := g10) H10 (1) hi10 HA10.out
          clear c3 z3 x3 q0 q1
          generalize w10.setCell ⟨g10, r.s.nd.length * 5 + 3, none⟩ (.int .i64 (1)) = w11 at *
          have HN11 : Hid (r.s.nd.length < (Ps.nd (Rs.s (Rs.num (takeR [41] q) (r.s.nd.length) (1)))).length) := Lib.hid (Nat.lt_of_lt_of_le HN10.out (RLater.nd (gro_num (r.s.nd.length) (1) _ H10.out.qs.good)))
          have x1 := H11.out.qs.x1
          have hf1 := H11.out.qs.blk.frozen 1
          have hfew := H11.out.qs.few
          have hpos := H11.out.qs.good.last.pos
          go_wp2_with fail
          have H12 := RanQ.adv H11 ((ris_kind HS.out).1)
          clear x1 hf1 hfew hpos
          generalize w11.setCell ⟨p, 1, none⟩ (.int .i64 ((R11.I : Int) + 1)) = w12 at *
          generalize { R11 with I := R11.I + 1 } = R12 at *
          have HN12 : Hid (r.s.nd.length < (Ps.nd (Rs.s (Rs.adv (Rs.num (takeR [41] q) (r.s.nd.length) (1))))).length) := Lib.hid (Nat.lt_of_lt_of_le HN11.out (RLater.nd (rl_adv H11.out.qs.good ((ris_kind HS.out).1))))
          refine (qblock_of _ p B _ R12 _ (qstmt_any (Ps.ts (Rs.s (Rs.adv (Rs.num (takeR [41] q) (r.s.nd.length) (1))))).length) (r.s.nd.length) H12.out.qs (HN12.out) (H12.out.bound HB.out (by omega)) (Nat.le_refl _)).mono ?_
          rintro e w13 ⟨rfl, hp⟩
          obtain ⟨R13, H13⟩ := RanQ.go H12 (gro_block (gro_stmt (Ps.ts (Rs.s (Rs.adv (Rs.num (takeR [41] q) (r.s.nd.length) (1))))).length) (r.s.nd.length)) hp
          clear hp
          have HN13 : Hid (r.s.nd.length < (Ps.nd (Rs.s (blockR (stmtR (Ps.ts (Rs.s (Rs.adv (Rs.num (takeR [41] q) (r.s.nd.length) (1))))).length) (r.s.nd.length) (Rs.adv (Rs.num (takeR [41] q) (r.s.nd.length) (1)))))).length) := Lib.hid (Nat.lt_of_lt_of_le HN12.out (RLater.nd (gro_block (gro_stmt (Ps.ts (Rs.s (Rs.adv (Rs.num (takeR [41] q) (r.s.nd.length) (1))))).length) (r.s.nd.length) _ H12.out.qs.good)))
          go_wp2_with fail
          go_end0
          rw [show procR 0 r = blockRR (r.s.nd.length) (singleR (r.s.nd.length) (takeR [41] (namesR (r.s.nd.length) (takeR [40] (namedR (r.s.nd.length) (Rs.adv (Rs.kidNode r (0) 3))))))) from rfl, HNM.out, HLS.out, HSG.out]
          exact ⟨rfl, H13.out.post⟩
theorem table_less (i : Nat) (r : Rs) (g : RGood r) (hk : r.s.hd.kind ≠ 4) : (tableR i r).s.ts.length < r.s.ts.length := by
  have a := rl_kidNode g i 2
  have d := a.good.last.len (show (r.kidNode i 2).s.hd.kind ≠ 4 from hk)
  have b := rl_adv a.good (show (r.kidNode i 2).s.hd.kind ≠ 4 from hk)
  have c := (((gro_named r.s.nd.length).comp ((gro_take [40]).comp ((gro_list (gro_word r.s.nd.length) (by decide)).comp ((gro_take [41]).comp (gro_take [59]))))) _ b.good).ts
  exact Nat.lt_of_le_of_lt c d
theorem proc_less (i : Nat) (r : Rs) (g : RGood r) (hk : r.s.hd.kind ≠ 4) : (procR i r).s.ts.length < r.s.ts.length := by
  have a := rl_kidNode g i 3
  have d := a.good.last.len (show (r.kidNode i 3).s.hd.kind ≠ 4 from hk)
  have b := rl_adv a.good (show (r.kidNode i 3).s.hd.kind ≠ 4 from hk)
  have c := (((gro_named r.s.nd.length).comp ((gro_take [40]).comp ((gro_names r.s.nd.length).comp ((gro_take [41]).comp ((gro_single r.s.nd.length).comp (gro_blockRR r.s.nd.length)))))) _ b.good).ts
  exact Nat.lt_of_le_of_lt c d
theorem wholeR_end {f : Nat} {r : Rs} (h : r.s.hd.kind = 4) : wholeR f r = r := by
  cases f with
  | zero => rfl
  | succ f => rw [wholeR, h]; simp
theorem wholeR_table {f : Nat} {r : Rs} (h0 : r.e = 0) (hk : r.s.hd.kind ≠ 4) (h : r.is [116, 97, 98, 108, 101] = true) : wholeR (f + 1) r = wholeR f (tableR 0 r) := by rw [wholeR, h0, if_pos (by simpa using hk), if_pos h]
theorem wholeR_proc {f : Nat} {r : Rs} (h0 : r.e = 0) (hk : r.s.hd.kind ≠ 4) (h : r.is [116, 97, 98, 108, 101] = false) (h2 : r.is [112, 114, 111, 99] = true) : wholeR (f + 1) r = wholeR f (procR 0 r) := by rw [wholeR, h0, if_pos (by simpa using hk), if_neg (by rw [h]; decide), if_pos h2]
theorem wholeR_fail {f : Nat} {r : Rs} (h0 : r.e = 0) (hk : r.s.hd.kind ≠ 4) (h : r.is [116, 97, 98, 108, 101] = false) (h2 : r.is [112, 114, 111, 99] = false) : wholeR (f + 1) r = wholeR f (r.fail 50) := by rw [wholeR, h0, if_pos (by simpa using hk), if_neg (by rw [h]; decide), if_neg (by rw [h2]; decide)]
def WhoJ (w : World) (p B : Nat) (R : QRep) (r : Rs) (F : Nat) (wr : World) : Prop :=
  ∃ (q : Rs) (R' : QRep) (f' : Nat), Hid (RanQ w p B R r wr R' q 0) ∧ Hid (q.e = 0 → q.s.ts.length < f') ∧ Hid (wholeR F r = wholeR f' q) ∧ Hid (0 < q.s.nd.length)
def RParsePost (w : World) (r : ParseR) (e : Ending) (w' : World) : Prop := Ext w w' ∧ match r with
  | .ok nd => ∃ A c nh, e = .returned (.tuple #[.slice A nh.length c, .int .i64 0, .int .i64 0]) ∧ nd = nh.map Prod.fst ∧ Cells w' A (ncs nh) ∧ (∀ x ∈ nh, Cells w' x.2.1 (ints x.1.kids)) ∧ nh.length ≤ 1000000 ∧ ∀ x ∈ nh, x.1.kids.length ≤ 1000000
  | .err a er => e = .returned (.tuple #[.slice none 0 0, .int .i64 (a : Int), .int .i64 er])
theorem NSq.nil (w : World) (B : Nat) (tn ti : TypeId) : NS w B tn ti none 0 [] := ⟨World.ownsRow_nil _ _ _ _, fun x hx => (by cases hx), fun i j hi => (by cases hi), fun _ => rfl, fun x hx => (by cases hx)⟩
set_option maxRecDepth 100000 in
set_option maxHeartbeats 4000000 in
theorem rparse_lexerr (A : Option Addr) (l : Bs) (n c : Nat) (w : World) (hn : n = l.length) (hbig : l.length ≤ 1000) (hcap : l.length ≤ c) (h : Cells w A (bcells l)) (a : Nat) (er : Int) (hl : lexS l = .err a er) (he : er ≠ 0) :
    Calls Tryz.prog 10 #[.slice A n c] w (RParsePost w (.err a er)) := by
  subst hn
  have HL := Lib.hid (rlex_any A l l.length c w rfl (by omega) hcap h)
  have HS := Lib.hid hl
  have g1 : (er != 0) = true := by rw [bne_iff_ne]; exact he
  have g0 : (er == 0) = false := beq_eq_false_iff_ne.2 he
  clear h hl
  go_enter Tryz.func10, Tryz.ntmps10
  go_wp2_with fail
  refine HL.out.mono ?_
  rw [HS.out]
  rintro e w1 ⟨hx, rfl⟩
  have HX := Lib.hid hx
  clear hx
  go_wp2_with fail
  refine bodyPost_ret (v := .tuple #[.slice none 0 0, .int .i64 (a : Int), .int .i64 er]) (by simp [results, Tryz.results10, go_sem]) rfl ?_
  exact ⟨HX.out, rfl⟩
set_option maxRecDepth 100000 in
set_option maxHeartbeats 8000000 in
theorem rparse_ok (A : Option Addr) (l : Bs) (n c : Nat) (w : World) (hn : n = l.length) (hbig : l.length ≤ 1000) (hcap : l.length ≤ c) (h : Cells w A (bcells l)) (ts : List Tok) (hl : lexS l = .ok ts) (hL : Lst ⟨ts, [], 0⟩) (ht : ts.length ≤ 1001) :
    Calls Tryz.prog 10 #[.slice A n c] w (RParsePost w (parseRT ts)) := by
  subst hn
  have HL := Lib.hid (rlex_any A l l.length c w rfl (by omega) hcap h)
  have HS := Lib.hid hl
  have HLS := Lib.hid hL
  have HTL := Lib.hid ht
  clear h hl hL ht
  go_enter Tryz.func10, Tryz.ntmps10
  go_wp2_with fail
  refine HL.out.mono ?_
  rw [HS.out]
  rintro e w1 ⟨hx, A', c', rfl, hnil, ho⟩
  have HX := Lib.hid hx
  have hpos : 0 < ts.length := HLS.out.pos
  have hne : ts.length ≠ 0 := by omega
  obtain ⟨bt, rfl⟩ : ∃ b, A' = some ⟨b, 0, none⟩ := by
    rcases own_zero ho with e | e
    · rw [e] at ho
      rcases ho.2 with ⟨_, h0⟩ | ⟨g, _, _, hv, _⟩
      · exact absurd h0 hne
      · cases hv
    · exact e
  have hbl := own_lt ho rfl
  have HW : Hid (Ext w1 (w1.alloc (.cells #[.slice (some ⟨bt, 0, none⟩) ts.length c', .int .i64 0, .int .i64 0, .slice none 0 0, .int .i64 0] 65))) := Lib.hid (Ext.alloc _ _)
  have hq : QS (w1.alloc (.cells #[.slice (some ⟨bt, 0, none⟩) ts.length c', .int .i64 0, .int .i64 0, .slice none 0 0, .int .i64 0] 65)) w1.heap.size w1.heap.size ⟨⟨ts, [], 0⟩, 0⟩ ⟨bt, 0, 0, c', none, 0, []⟩ := by
    refine ⟨?_, fun k hk => ?_, ?_, hbl.2, rfl, NSq.nil _ _ _ _, Nat.le_refl _, ⟨HLS.out, show (0 : Nat) ≤ 65 from by decide, fun _ => show (0 : Nat) ≤ 64 from by decide, fun n hn => by cases hn⟩⟩
    · have := Blk.new w1 65 #[.slice (some ⟨bt, 0, none⟩) ts.length c', .int .i64 0, .int .i64 0, .slice none 0 0, .int .i64 0]
      simpa using this
    · have h1 := (HW.out.cell (p := ⟨bt, 0 + 0 * 5 + k, none⟩) hbl.2)
      rw [h1]
      have hk' : k < ts.length * 5 := hk
      have h2 := ho.cellAt k hk'
      simpa using h2
    · show 0 + ts.length ≤ 1000000
      have := HTL.out
      omega
  have HQ := Lib.hid hq
  have HXP := Lib.hid (HX.out.trans HW.out)
  clear hx hnil ho hbl hq hpos hne
  go_wp2_with fail
  have HPS : Hid (w1.heap.size = w1.heap.size) := Lib.hid rfl
  obtain ⟨p, hp⟩ : ∃ p, p = w1.heap.size := ⟨_, rfl⟩
  have HPW : Hid (w.heap.size ≤ p) := Lib.hid (by rw [hp]; exact HX.out.size)
  have HP1 : Hid (∀ b, b < w.heap.size → b ≠ p) := Lib.hid fun b hb e => by have := HPW.out; omega
  have HX2 := HXP
  generalize w1.alloc (.cells #[.slice (some ⟨bt, 0, none⟩) ts.length c', .int .i64 0, .int .i64 0, .slice none 0 0, .int .i64 0] 65) = w2 at *
  rw [← hp] at HQ ⊢
  clear hp HPS HW HX
  refine (qnode_any w2 p p ⟨⟨ts, [], 0⟩, 0⟩ _ 1 HQ.out (by show ([] : List Nd).length ≤ _; simp)).mono ?_
  rintro e w3 ⟨rfl, R1, hq1, hm1⟩
  have HM1 := Lib.hid hm1
  have HQ1 := Lib.hid hq1
  obtain ⟨r1, hr1⟩ : ∃ r1, (⟨(⟨ts, [], 0⟩ : Ps).node 1, 0⟩ : Rs) = r1 := ⟨_, rfl⟩
  have hq1' : QS w3 p p r1 R1 := by rw [← hr1]; exact hq1
  have H0 := Lib.hid (RanQ.refl hq1')
  have HT1 : Hid (r1.s.ts.length = ts.length) := Lib.hid (by rw [← hr1]; rfl)
  have HN1 : Hid (0 < r1.s.nd.length ∧ r1.s.nd.length ≤ 1) := Lib.hid (by rw [← hr1]; exact ⟨Nat.zero_lt_one, Nat.le_refl _⟩)
  have HPR : Hid (parseRT ts = (let r := wholeR (ts.length + 1) r1; if r.e = 0 then .ok r.s.nd else .err r.s.hd.at_ r.e)) := Lib.hid (by rw [← hr1]; rfl)
  have HB : Hid (r1.phi ≤ 1000000) := Lib.hid (by
    unfold Rs.phi
    have h1 := HT1.out
    have h2 := HN1.out.2
    have h3 := HTL.out
    omega)
  clear hq1 hm1 hq1' hr1
  -- what is answered at the end
  have HFIN : Hid (∀ (q : Rs) (R' : QRep) (wq : World) (v : Ending), RanQ w3 p p R1 r1 wq R' q 0 → wholeR (ts.length + 1) r1 = q → v = .returned (.tuple (if q.e = 0 then #[.slice R'.A R'.nh.length R'.c, .int .i64 0, .int .i64 0] else #[.slice none 0 0, .int .i64 (q.s.hd.at_ : Int), .int .i64 q.e])) → RParsePost w (parseRT ts) v wq) := Lib.hid fun q R' wq v hr hw hv => by
    have hmv := HM1.out.trans hr.mv
    have hext : Ext w wq := ⟨hmv.os.trans HX2.out.os, hmv.tape.trans HX2.out.tape, hmv.output.trans HX2.out.output, Nat.le_trans HX2.out.size hmv.size, fun b hb => (hmv.keep b (Nat.lt_of_lt_of_le hb HX2.out.size) fun hm => by
      rcases hm with hm | hm
      · exact HP1.out b hb hm
      · rcases hm with hm | hm
        · cases hm
        · cases hm).trans (HX2.out.block b hb)⟩
    have hlr : q.s.nd.length ≤ 1000000 := by have h1 := hr.bound HB.out (m := 1000000) (by omega); unfold Rs.phi at h1; omega
    have hlq : R'.nh.length ≤ 1000000 := by rw [← hr.qs.len]; exact hlr
    rw [HPR.out]
    dsimp only
    rw [hw]
    refine ⟨hext, ?_⟩
    subst hv
    by_cases he : q.e = 0
    · rw [if_pos he, if_pos he]
      exact ⟨R'.A, R'.c, R'.nh, rfl, hr.qs.nodes, Cells.own hr.qs.ns.row, fun x hx => Cells.own (hr.qs.ns.kids x hx), hlq, fun x hx => Nat.le_trans (hr.qs.good.few x.1 (by rw [hr.qs.nodes]; exact List.mem_map.2 ⟨x, hx, rfl⟩)) hlr⟩
    · rw [if_neg he, if_neg he]
  go_wp2_with fail
  go_loopw [] (fun wr => WhoJ w3 p p R1 r1 (ts.length + 1) wr) (fun wr => measQ p wr)
  case atStart => exact ⟨_, _, _, H0, Lib.hid (fun _ => by rw [HT1.out]; exact Nat.lt_succ_self _), Lib.hid rfl, Lib.hid HN1.out.1⟩
  case round =>
    obtain ⟨q, Rq, f', Hq0, HF, HEQ, HND⟩ := hrel
    obtain ⟨wq, rfl⟩ : ∃ wa : World, wa = wr := ⟨_, rfl⟩
    have HLM : Hid (measQ p wq = 2 * q.s.ts.length + if q.e = 0 then 1 else 0) := Lib.hid Hq0.out.qs.measQ
    have x0 := Hq0.out.qs.x0
    have x1 := Hq0.out.qs.x1
    have x4 := Hq0.out.qs.x4
    have t0 : wq.cell? ⟨Rq.bt, Rq.o0 + Rq.I * 5, none⟩ = some (.int .u8 (q.s.hd.kind : Int)) := Hq0.out.qs.tok 0 (by decide)
    have hfew := Hq0.out.qs.few
    have hpos := Hq0.out.qs.good.last.pos
    have qp := Hq0.out.qs.pos
    by_cases he : q.e = 0
    · have HE := Lib.hid he
      rw [he] at x4
      clear he
      by_cases hk : q.s.hd.kind = 4
      · have HU := Lib.hid (HEQ.out.trans (wholeR_end hk))
        rw [hk] at t0
        clear hk
        go_wp2_with fail
        go_quiet (fail)
        rename_i nq
        have Hq1 := RanQ.drew Hq0 nq
        clear x0 x1 x4 t0 hfew hpos qp
        generalize wq.drewN nq = wq1 at *
        have x4 := Hq1.out.qs.x4
        rw [HE.out] at x4
        have x3 : wq1.cell? ⟨p, 3, none⟩ = some (.slice Rq.A Rq.nh.length Rq.c) := Hq1.out.qs.blk.cell 3
        go_wp2_with fail
        refine bodyPost_ret (v := .tuple #[.slice Rq.A Rq.nh.length Rq.c, .int .i64 0, .int .i64 0]) (by simp [results, Tryz.results10, go_sem]) rfl ?_
        exact HFIN.out q Rq wq1 _ Hq1.out HU.out (by rw [if_pos HE.out])
      · have HK4 := Lib.hid hk
        have i4 : ¬ (q.s.hd.kind : Int) = 4 := by omega
        have j4 : ((q.s.hd.kind : Int) != 4) = true := by rw [bne_iff_ne]; omega
        obtain ⟨f'', rfl⟩ : ∃ n, f' = n + 1 := ⟨f' - 1, by have := HF.out HE.out; omega⟩
        clear hk
        have HSTEP : Hid (∀ (M : Rs → Rs) (wx : World) (Rx : QRep), (M q).e ≠ 0 ∨ (M q).s.ts.length < q.s.ts.length → wholeR (f'' + 1) q = wholeR f'' (M q) → RLater 0 q (M q) → RanQ w3 p p R1 r1 wx Rx (M q) 0 → WhoJ w3 p p R1 r1 (ts.length + 1) wx ∧ measQ p wx < measQ p wq) := Lib.hid fun M wx Rx hless heq hlt hr => by
          refine ⟨⟨M q, Rx, f'', Lib.hid hr, Lib.hid fun h => ?_, Lib.hid (HEQ.out.trans heq), Lib.hid (Nat.lt_of_lt_of_le HND.out hlt.nd)⟩, ?_⟩
          · have h1 := HF.out HE.out
            rcases hless with h2 | h2
            · exact absurd h h2
            · omega
          · rw [HLM.out, hr.qs.measQ, if_pos HE.out]
            have h1 := hlt.ts
            rcases hless with h | h
            · rw [if_neg h]; omega
            · split <;> omega
        go_wp2_with fail
        go_quiet (fail)
        rename_i nq
        have Hq1 := RanQ.drew Hq0 nq
        clear x0 x1 x4 t0 hfew hpos qp
        generalize wq.drewN nq = wq1 at *
        cases ht : q.is [116, 97, 98, 108, 101] with
        | true =>
          have HT := Lib.hid ht
          clear ht
          go_wp2_with fail
          refine (qis_any _ p p q Rq [116, 97, 98, 108, 101] true HT Hq1.out.qs).mono ?_
          rintro e _ ⟨rfl, m, rfl⟩
          have Hq2 := RanQ.drew Hq1 m
          generalize wq1.drewN m = wq2 at *
          go_wp2_with fail
          refine (qtable_any _ p p q Rq Hq2.out.qs (Hq2.out.bound HB.out (by omega)) HND.out HK4.out).mono ?_
          rintro e wq3 ⟨rfl, hp⟩
          obtain ⟨Rq3, Hq3⟩ := RanQ.goL Hq2 (rl_table Hq2.out.qs.good 0 HK4.out) hp
          clear hp
          have HJ := Lib.hid (HSTEP.out (tableR 0) wq3 Rq3 (.inr (table_less 0 q Hq2.out.qs.good HK4.out)) (wholeR_table HE.out HK4.out HT.out) (rl_table Hq2.out.qs.good 0 HK4.out) (RanQ.le Hq3 (by decide)).out)
          go_wp2_with fail
          go_roundw
          case rel => exact HJ.out.1
          case measure => exact HJ.out.2
        | false =>
          have HT := Lib.hid ht
          clear ht
          cases hc : q.is [112, 114, 111, 99] with
          | true =>
            have HC := Lib.hid hc
            clear hc
            go_wp2_with fail
            refine (qis_any _ p p q Rq [116, 97, 98, 108, 101] false HT Hq1.out.qs).mono ?_
            rintro e _ ⟨rfl, m, rfl⟩
            have Hq2 := RanQ.drew Hq1 m
            generalize wq1.drewN m = wq2 at *
            go_wp2_with fail
            refine (qis_any _ p p q Rq [112, 114, 111, 99] true HC Hq2.out.qs).mono ?_
            rintro e _ ⟨rfl, m, rfl⟩
            have Hq2b := RanQ.drew Hq2 m
            generalize wq2.drewN m = wq2b at *
            go_wp2_with fail
            refine (qproc_any _ p p q Rq Hq2b.out.qs (Hq2b.out.bound HB.out (by omega)) HND.out HK4.out).mono ?_
            rintro e wq3 ⟨rfl, hp⟩
            obtain ⟨Rq3, Hq3⟩ := RanQ.goL Hq2b (rl_proc Hq2b.out.qs.good 0 HK4.out) hp
            clear hp
            have HJ := Lib.hid (HSTEP.out (procR 0) wq3 Rq3 (.inr (proc_less 0 q Hq2b.out.qs.good HK4.out)) (wholeR_proc HE.out HK4.out HT.out HC.out) (rl_proc Hq2b.out.qs.good 0 HK4.out) (RanQ.le Hq3 (by decide)).out)
            go_wp2_with fail
            go_roundw
            case rel => exact HJ.out.1
            case measure => exact HJ.out.2
          | false =>
            have HC := Lib.hid hc
            clear hc
            go_wp2_with fail
            refine (qis_any _ p p q Rq [116, 97, 98, 108, 101] false HT Hq1.out.qs).mono ?_
            rintro e _ ⟨rfl, m, rfl⟩
            have Hq2 := RanQ.drew Hq1 m
            generalize wq1.drewN m = wq2 at *
            go_wp2_with fail
            refine (qis_any _ p p q Rq [112, 114, 111, 99] false HC Hq2.out.qs).mono ?_
            rintro e _ ⟨rfl, m, rfl⟩
            have Hq2b := RanQ.drew Hq2 m
            generalize wq2.drewN m = wq2b at *
            go_wp2_with fail
            refine (qfail_any _ p p q Rq 50 (by decide) Hq2b.out.qs).mono ?_
            rintro e wq3 ⟨rfl, hp⟩
            obtain ⟨Rq3, Hq3⟩ := RanQ.goL Hq2b (rl_fail Hq2b.out.qs.good 50) hp
            clear hp
            have HJ := Lib.hid (HSTEP.out (Rs.fail 50) wq3 Rq3 (.inl (fail_err q)) (wholeR_fail HE.out HK4.out HT.out HC.out) (rl_fail Hq2b.out.qs.good 50) (RanQ.le Hq3 (by decide)).out)
            go_wp2_with fail
            go_roundw
            case rel => exact HJ.out.1
            case measure => exact HJ.out.2
    · have HU := Lib.hid (HEQ.out.trans (wholeR_dead _ _ he))
      have HE := Lib.hid he
      have g0 : (q.e == 0) = false := beq_eq_false_iff_ne.2 he
      have g1 : (q.e != 0) = true := by rw [bne_iff_ne]; exact he
      clear he
      go_wp2_with fail
      go_quiet (fail)
      rename_i nq
      have Hq1 := RanQ.drew Hq0 nq
      clear x0 x1 x4 t0 hfew hpos qp
      generalize wq.drewN nq = wq1 at *
      have x0 := Hq1.out.qs.x0
      have x1 := Hq1.out.qs.x1
      have x4 := Hq1.out.qs.x4
      have t1 : wq1.cell? ⟨Rq.bt, Rq.o0 + Rq.I * 5 + 1, none⟩ = some (.int .i64 (q.s.hd.at_ : Int)) := Hq1.out.qs.tok 1 (by decide)
      have hfew := Hq1.out.qs.few
      have hpos := Hq1.out.qs.good.last.pos
      have qp := Hq1.out.qs.pos
      go_wp2_with fail
      go_quiet (fail)
      have Hq2 := RanQ.drew Hq1 nq
      clear x0 x1 x4 t1 hfew hpos qp
      generalize wq1.drewN nq = wq2 at *
      go_wp2_with fail
      refine bodyPost_ret (v := .tuple #[.slice none 0 0, .int .i64 (q.s.hd.at_ : Int), .int .i64 q.e]) (by simp [results, Tryz.results10, go_sem]) rfl ?_
      exact HFIN.out q Rq wq2 _ Hq2.out HU.out (by rw [if_neg HE.out])
end Go.Proofs.YtcccnicldbpieaaGreatDoor
namespace Go.Proofs.YtcccnicldbpieaaGreatDoor
open Go Go.RowKit
set_option linter.unusedVariables false
set_option linter.unusedSimpArgs false
theorem lexF_err : ∀ (f p : Nat) (s : Bs) (a : Nat) (e : Int), s.length < f → lexF f p s = .err a e → e = 30 ∨ e = 31
  | 0, _, _, _, _, h, _ => absurd h (by omega)
  | f + 1, p, s, a, e, hf, h => by
    have hw := step_wide s
    unfold lexF at h
    cases hs : step s with
    | fin => rw [hs] at h; cases h
    | bad e' =>
      rw [hs] at h
      injection h with _ h
      subst h
      cases s with
      | nil => cases hs
      | cons c r =>
        have hs' : stepC c r = _ := hs
        unfold stepC stepD at hs'
        repeat' split at hs'
        all_goals first | (injection hs' with hs'; subst hs'; decide) | cases hs'
    | skip k =>
      rw [hs] at h hw
      have h1 : 1 ≤ k := hw.1
      have h2 : k ≤ s.length := hw.2
      exact lexF_err f _ _ a e (by simp; omega) h
    | tok kd k n =>
      rw [hs] at h hw
      have h1 : 1 ≤ k := hw.1
      have h2 : k ≤ s.length := hw.2
      exact lexF_err f _ _ a e (by simp; omega) (cons_err h)
theorem lexS_err {l : Bs} {a : Nat} {e : Int} (h : lexS l = .err a e) : e ≠ 0 := by
  unfold lexS at h
  split at h
  · injection h with _ h; subst h; decide
  · rcases lexF_err _ _ _ a e (by omega) h with rfl | rfl <;> decide
theorem sameBytes_any (A B : Option Addr) (a b : Bs) (n m c d : Nat) (w : World) (hn : n = a.length) (hm : m = b.length) (hA : Cells w A (bcells a)) (hB : Cells w B (bcells b)) :
    Calls Tryz.prog 14 #[.slice A n c, .slice B m d] w fun e w' => e = .returned (.bool (a == b)) ∧ w = w' := by
  have h1 := run_bytes_str (P := Tryz.prog) (n := n) (c := c) Tryz.underlying22 Tryz.underlying5 Tryz.underlying9 hn hA
  have h2 := run_bytes_str (P := Tryz.prog) (n := m) (c := d) Tryz.underlying22 Tryz.underlying5 Tryz.underlying9 hm hB
  have HE := Lib.hid (show ((bstr a).toList == (bstr b).toList) = (a == b) by rw [bstr_toList, bstr_toList])
  clear hA hB hn hm
  go_enter Tryz.func14, Tryz.ntmps14
  go_wp2_with fail
  go_ret
  exact ⟨ret_bool HE.out, rfl⟩
/-- The document's Parse answers as the program's. -/
theorem rparse_any (A : Option Addr) (l : Bs) (n c : Nat) (w : World) (hn : n = l.length) (hbig : l.length ≤ 1000) (hcap : l.length ≤ c) (h : Cells w A (bcells l)) :
    Calls Tryz.prog 10 #[.slice A n c] w (RParsePost w (parseS l)) := by
  cases hl : lexS l with
  | err a er =>
    have e : parseS l = .err a er := by unfold parseS; rw [hl]
    rw [e]
    exact rparse_lexerr A l n c w hn hbig hcap h a er hl (lexS_err hl)
  | ok ts =>
    have hl2 : lexL 0 l = .ok ts := by
      unfold lexS at hl
      rw [if_neg (by omega)] at hl
      exact hl
    obtain ⟨⟨m, e, h1, h2⟩, h3, _⟩ := lexL_toks hl2
    have hL : Lst ⟨ts, [], 0⟩ := ⟨m, e, h1, h2⟩
    have e : parseS l = parseRT ts := by
      rw [parseRT_eq hL]
      unfold parseS
      rw [hl]
    rw [e]
    exact rparse_ok A l n c w hn hbig hcap h ts hl hL (by omega)
theorem parseS_ne {l : Bs} {a : Nat} {er : Int} (h : parseS l = .err a er) : er ≠ 0 := by
  unfold parseS at h
  cases hl : lexS l with
  | err p e =>
    rw [hl] at h
    injection h with h1 h2
    rw [← h2]
    exact lexS_err hl
  | ok ts =>
    rw [hl] at h
    have hl2 : lexL 0 l = .ok ts := by
      unfold lexS at hl
      split at hl
      · cases hl
      · exact hl
    obtain ⟨⟨m, e, h1, h2⟩, _, _⟩ := lexL_toks hl2
    have h3 : parseT ts = .err a er := h
    rw [← parseRT_eq ⟨m, e, h1, h2⟩] at h3
    unfold parseRT at h3
    dsimp only at h3
    split at h3
    · cases h3
    · rename_i he
      injection h3 with _ h4
      rw [← h4]
      exact he
theorem ints_at (xs : List Nat) (k : Nat) (hk : k < xs.length) : (ints xs)[k]? = some (.int .i64 (xs[k] : Int)) := by unfold ints; simp [hk]
set_option maxRecDepth 100000 in
set_option maxHeartbeats 4000000 in
theorem sameInts_yes (A B : Option Addr) (c d : Nat) (xs : List Nat) (w : World) (hb : xs.length ≤ 1000000) (hA : Cells w A (ints xs)) (hB : Cells w B (ints xs)) :
    Calls Tryz.prog 31 #[.slice A xs.length c, .slice B xs.length d] w fun e w' => e = .returned (.bool true) ∧ ∃ m, w' = w.drewN m := by
  have HA := Lib.hid hA
  have HB := Lib.hid hB
  have hli : (ints xs).length = xs.length := by unfold ints; simp
  have HLI := Lib.hid hli
  have HAT := Lib.hid (fun k hk => ints_at xs k hk)
  clear hA hB hli
  go_enter Tryz.func31, Tryz.ntmps31
  go_wp2_with fail
  go_loopw [5] (fun i' wr => ∃ (k m : Nat), k ≤ xs.length ∧ i' = .int .i64 k ∧ wr = w.drewN m) (fun i' _ => xs.length - (intOf i').toNat)
  case atStart => exact ⟨0, 0, Nat.zero_le _, rfl, rfl⟩
  case round =>
    obtain ⟨k, m, hk, rfl, rfl⟩ := hrel
    by_cases hlt : k < xs.length
    · have d0 : decide ((k : Int) < (xs.length : Int)) = true := decide_eq_true (by omega)
      have q1 : (k : Int) < (xs.length : Int) := by omega
      obtain ⟨b1, o1, rfl, _, h1⟩ := HA.out.at_ (by rw [HLI.out]; omega)
      obtain ⟨b2, o2, rfl, _, h2⟩ := HB.out.at_ (by rw [HLI.out]; omega)
      have e1 := h1 k (by rw [HLI.out]; exact hlt)
      have e2 := h2 k (by rw [HLI.out]; exact hlt)
      rw [HAT.out k hlt] at e1 e2
      generalize xs[k] = x at *
      clear h1 h2
      go_wp2_with fail
      go_quiet (fail)
      rename_i nq
      go_wp2_with fail
      go_roundw
      case rel => exact ⟨k + 1, m + nq, by omega, by go_num, by first | rfl | exact World.drewN_drewN ..⟩
      case measure => simp [intOf]; omega
    · obtain rfl : k = xs.length := by omega
      have d0 : decide ((xs.length : Int) < (xs.length : Int)) = false := by simp
      have d1 : decide (xs.length < xs.length) = false := by simp
      go_wp2_with fail
      go_ret
      exact ⟨rfl, m, rfl⟩
set_option maxRecDepth 100000 in
set_option maxHeartbeats 8000000 in
theorem same_yes (A B : Option Addr) (c d : Nat) (nh mh : List (Nd × Hd2)) (w : World) (hb : nh.length ≤ 1000000) (hkb : ∀ x ∈ nh, x.1.kids.length ≤ 1000000) (hnm : nh.map Prod.fst = mh.map Prod.fst) (hA : TR w A nh) (hB : TR w B mh) :
    Calls Tryz.prog 13 #[.agg #[.slice A nh.length c], .slice B mh.length d] w fun e w' => e = .returned (.bool true) ∧ Ext w w' := by
  have hlen : mh.length = nh.length := by
    have := congrArg List.length hnm
    simpa using this.symm
  have HA := Lib.hid hA
  have HB := Lib.hid hB
  have HNM := Lib.hid hnm
  have HLN := Lib.hid hlen
  have HKB := Lib.hid hkb
  clear hkb
  rw [hlen]
  have HX0 : Hid (Ext w (w.alloc (.cells #[.slice A nh.length c] 26))) := Lib.hid (Ext.alloc _ _)
  have HT0 := Lib.hid (Blk.new w 26 #[.slice A nh.length c])
  clear hA hB hnm hlen
  go_enter Tryz.func13, Tryz.ntmps13
  go_upto_region 1 with fail
  generalize w.alloc (.cells #[.slice A nh.length c] 26) = w1 at *
  generalize w.heap.size = gt at *
  have c0 : w1.cell? ⟨gt, 0, none⟩ = some (.slice A nh.length c) := HT0.out.cell 0
  go_wp2_with fail
  go_loopw [5] (fun i' wr => ∃ (k : Nat), k ≤ nh.length ∧ i' = .int .i64 k ∧ Hid (Ext w1 wr)) (fun i' _ => nh.length - (intOf i').toNat)
  case atStart => exact ⟨0, Nat.zero_le _, rfl, Lib.hid (Ext.refl _)⟩
  case round =>
    obtain ⟨k, hk, rfl, HXR⟩ := hrel
    obtain ⟨wa, rfl⟩ : ∃ wa : World, wa = wr := ⟨_, rfl⟩
    have c0 : wa.cell? ⟨gt, 0, none⟩ = some (.slice A nh.length c) := (HT0.out.ext HXR.out).cell 0
    by_cases hlt : k < nh.length
    · have d0 : decide ((k : Int) < (nh.length : Int)) = true := decide_eq_true (by omega)
      have q1 : (k : Int) < (nh.length : Int) := by omega
      have hlm : k < mh.length := by rw [HLN.out]; exact hlt
      have HA1 := HA.out.ext (HX0.out.trans HXR.out)
      have HB1 := HB.out.ext (HX0.out.trans HXR.out)
      obtain ⟨b1, o1, rfl, _, h1⟩ := HA1.at (by omega)
      obtain ⟨b2, o2, rfl, hb2, h2⟩ := HB1.at (by omega)
      have hxy : nh[k].1 = mh[k].1 := by
        have h := congrArg (fun l => l[k]?) HNM.out
        simpa [hlt, hlm] using h
      have a0 := h1 k hlt 0 (by decide)
      have a1 := h1 k hlt 1 (by decide)
      have a2 := h1 k hlt 2 (by decide)
      have a3 := h1 k hlt 3 (by decide)
      have a4 := h1 k hlt 4 (by decide)
      have b0 := h2 k hlm 0 (by decide)
      have b1' := h2 k hlm 1 (by decide)
      have b2' := h2 k hlm 2 (by decide)
      have b3 := h2 k hlm 3 (by decide)
      have b4 := h2 k hlm 4 (by decide)
      rw [← Nat.add_assoc] at a1 a2 a3 a4
      have hkl := HKB.out _ (List.getElem_mem hlt)
      have k1 := HA1.kids _ (List.getElem_mem hlt)
      have k2 := HB1.kids _ (List.getElem_mem hlm)
      rw [← hxy] at k2
      obtain ⟨x, hx⟩ : ∃ x, nh[k] = x := ⟨_, rfl⟩
      obtain ⟨y, hy⟩ : ∃ y, mh[k] = y := ⟨_, rfl⟩
      rw [hx] at a0 a1 a2 a3 a4 k1 k2 hxy hkl
      rw [hy] at b0 b1' b2' b3 b4 k2 hxy
      obtain ⟨⟨xk, xp, xt, xn, xs⟩, xA, xc⟩ := x
      obtain ⟨⟨yk, yp, yt, yn, ys⟩, yA, yc⟩ := y
      simp only at hxy
      injection hxy with e1 e2 e3 e4 e5
      subst e1 e2 e3 e4 e5
      simp only [ncell, List.getElem?_cons_zero, List.getElem?_cons_succ, Nat.add_zero] at a0 a1 a2 a3 a4 b0 b1' b2' b3 b4
      simp only at k1 k2 hkl
      have HKL := Lib.hid hkl
      clear hkl
      have HX2 : Hid (Ext wa (wa.alloc (.cells #[.int .u8 (xk : Int), .int .i64 (xp : Int), .string (bstr xt), .int .i64 xn, .slice xA xs.length xc] 50))) := Lib.hid (Ext.alloc _ _)
      have HN2 := Lib.hid (Blk.new wa 50 #[.int .u8 (xk : Int), .int .i64 (xp : Int), .string (bstr xt), .int .i64 xn, .slice xA xs.length xc])
      have HK1 := Lib.hid (k1.ext HX2.out)
      have HK2 := Lib.hid (k2.ext HX2.out)
      have HBB : Hid (∀ j, j < 5 → (wa.alloc (.cells #[.int .u8 (xk : Int), .int .i64 (xp : Int), .string (bstr xt), .int .i64 xn, .slice xA xs.length xc] 50)).cell? ⟨b2, o2 + (k * 5 + j), none⟩ = (ncell (⟨xk, xp, xt, xn, xs⟩, (yA, yc)))[j]?) := Lib.hid fun j hj => by
        rw [HX2.out.cell (p := ⟨b2, o2 + (k * 5 + j), none⟩) hb2, h2 k hlm j hj, hy]
      clear h1 h2 hx hy k1 k2 b0 b1' b2' b3 b4 hb2
      go_upto_region 7 with fail
      clear a0 a1 a2 a3 a4 c0
      generalize wa.alloc (.cells #[.int .u8 (xk : Int), .int .i64 (xp : Int), .string (bstr xt), .int .i64 xn, .slice xA xs.length xc] 50) = w2 at *
      generalize wa.heap.size = gn at *
      have n0 := HN2.out.cell 0
      have n1 := HN2.out.cell 1
      have n2 := HN2.out.cell 2
      have n3 := HN2.out.cell 3
      have n4 := HN2.out.cell 4
      have b0 := HBB.out 0 (by decide)
      have b1' := HBB.out 1 (by decide)
      have b2' := HBB.out 2 (by decide)
      have b3 := HBB.out 3 (by decide)
      have b4 := HBB.out 4 (by decide)
      rw [← Nat.add_assoc] at b1' b2' b3 b4
      simp only [ncell, List.getElem?_toArray, List.getElem?_cons_zero, List.getElem?_cons_succ, Nat.add_zero] at n0 n1 n2 n3 n4 b0 b1' b2' b3 b4
      have HSI := Lib.hid (fun W (h1 : Cells W xA (ints xs)) (h2 : Cells W yA (ints xs)) => sameInts_yes xA yA xc yc xs W HKL.out h1 h2)
      have HCD : Hid (∀ n, Cells (w2.drewN n) xA (ints xs) ∧ Cells (w2.drewN n) yA (ints xs)) := Lib.hid fun n => ⟨HK1.out, HK2.out⟩
      go_quiet (refine Calls.quiet_of (HSI.out _ (HCD.out _).1 (HCD.out _).2))
      rename_i nq
      have HX3 : Hid (Ext w1 (w2.drewN nq)) := Lib.hid ((HXR.out.trans HX2.out).trans (by have := moves_drew (w := w2) (M := fun _ => False) nq; exact ⟨this.os, this.tape, this.output, this.size, fun b hb => this.keep b hb (fun h => h)⟩))
      clear n0 n1 n2 n3 n4 b0 b1' b2' b3 b4
      generalize w2.drewN nq = w3 at *
      go_wp2_with fail
      go_roundw
      case rel => exact ⟨k + 1, by omega, by go_num, HX3⟩
      case measure => simp [intOf]; omega
    · obtain rfl : k = nh.length := by omega
      have d0 : decide ((nh.length : Int) < (nh.length : Int)) = false := by simp
      have d1 : decide (nh.length < nh.length) = false := by simp
      go_wp2_with fail
      go_ret
      exact ⟨rfl, HX0.out.trans HXR.out⟩
end Go.Proofs.YtcccnicldbpieaaGreatDoor
namespace Go.Proofs.YtcccnicldbpieaaGreatDoor
open Go Go.RowKit
set_option linter.unusedVariables false
set_option linter.unusedSimpArgs false
set_option maxHeartbeats 8000000 in
set_option maxRecDepth 100000 in
theorem parseAny_any (A : Option Addr) (l : Bs) (n c : Nat) (w : World) (hG : GT w) (hn : n = l.length) (hcap : l.length ≤ c) (hnil : A = none → c = 0) (h : Cells w A (bcells l)) :
    Calls Tryz.prog 3 #[.slice A n c] w fun e w' => e = .returned (.bool true) ∧ Ext w w' := by
  subst hn
  have HG := Lib.hid hG
  have HC := Lib.hid h
  clear hG h
  by_cases h1000 : 1000 < l.length
  · have d0 : decide ((1000 : Int) < (l.length : Int)) = true := decide_eq_true (by omega)
    go_enter Tryz.func3, Tryz.ntmps3
    go_wp2_with fail
    refine (works5_any w HG.out).mono ?_
    rintro e w' ⟨rfl, hx⟩
    go_wp2_with fail
    go_ret
    exact ⟨rfl, hx⟩
  · have d0 : decide ((1000 : Int) < (l.length : Int)) = false := decide_eq_false (by omega)
    have hbig : l.length ≤ 140737488355328 := by omega
    have hcv1 := run_bytes_str (P := Tryz.prog) (n := l.length) (c := c) Tryz.underlying22 Tryz.underlying5 Tryz.underlying9 rfl HC.out
    obtain ⟨hcv2, hcp⟩ := str_conv w l
    have HX1 := Lib.hid (str_ext w l)
    have HO1 := Lib.hid (str_cells w l)
    generalize Lib.bytesWorld w 5 (bstr l) = w1 at *
    generalize grownCap w l.length 0 5 = cp at *
    generalize w.heap.size = gs at *
    cases hr : parseS l with
    | ok nd =>
      have HR := Lib.hid hr
      clear hr
      go_enter Tryz.func3, Tryz.ntmps3
      go_wp2_with fail
      refine (parse_ok (some ⟨gs, 0, none⟩) l l.length cp w1 rfl hbig hcp (fun h => by cases h) HO1.out nd HR.out).mono ?_
      rintro e w2a ⟨A2, c2, nh, rfl, hnd, hns, hx2⟩
      clear hcv1 hcv2
      have HT2 := Lib.hid hns.tr
      have HND := Lib.hid hnd
      have HX2 := Lib.hid (HX1.out.trans hx2)
      have HX2b := Lib.hid hx2
      clear hns hnd hx2
      go_upto_region 5 with fail
      have hxt : Ext w2a (w2a.alloc (.cells #[.slice A2 nh.length c2] 26)) := Ext.alloc _ _
      have HTB := Lib.hid (Blk.new w2a 26 #[.slice A2 nh.length c2])
      have HX3 := Lib.hid (HX2.out.trans hxt)
      have HT3 := Lib.hid (HT2.out.ext hxt)
      have HO3 := Lib.hid ((HO1.out.ext HX2b.out).ext hxt)
      clear hxt
      generalize w2a.alloc (.cells #[.slice A2 nh.length c2] 26) = w2 at *
      generalize w2a.heap.size = gt at *
      go_wp2_with fail
      refine (rparse_any A l l.length c w2 rfl (by omega) hcap (HC.out.ext HX3.out)).mono ?_
      rw [HR.out]
      rintro e w3 ⟨hx3, A3, c3, mh, rfl, hmd, hrow, hkids, hmb, hmk⟩
      have HT3b := Lib.hid (HT3.out.ext hx3)
      have HM3 : Hid (TR w3 A3 mh) := Lib.hid ⟨hrow, hkids⟩
      have HNM : Hid (nh.map Prod.fst = mh.map Prod.fst) := Lib.hid (HND.out.symm.trans hmd)
      have HNB : Hid (nh.length ≤ 1000000 ∧ ∀ x ∈ nh, x.1.kids.length ≤ 1000000) := Lib.hid (by
        have h1 := HNM.out
        refine ⟨?_, fun x hx => ?_⟩
        · have := congrArg List.length h1
          simp only [List.length_map] at this
          omega
        · have h2 : x.1 ∈ mh.map Prod.fst := by rw [← h1]; exact List.mem_map.2 ⟨x, hx, rfl⟩
          obtain ⟨y, hy, e⟩ := List.mem_map.1 h2
          rw [← e]
          exact hmk y hy)
      have HX4 := Lib.hid (HX3.out.trans hx3)
      have HO4 := Lib.hid (HO3.out.ext hx3)
      have HTC := Lib.hid (HTB.out.ext hx3)
      clear hx3 hmd hrow hkids hmb hmk
      go_wp2_with fail
      refine (place_nil w3).mono ?_
      rintro e w4 ⟨rfl, hx4⟩
      have HT5 := Lib.hid (HT3b.out.ext hx4)
      have HM5 := Lib.hid (HM3.out.ext hx4)
      have HX5 := Lib.hid (HX4.out.trans hx4)
      have HO5 := Lib.hid (HO4.out.ext hx4)
      have HT0 := Lib.hid (HTC.out.ext hx4)
      clear hx4
      dsimp only [noPlace]
      have ct : w4.cell? ⟨gt, 0, none⟩ = some (.slice A2 nh.length c2) := HT0.out.cell 0
      go_wp2_with fail
      refine (code_nil w4).mono ?_
      rintro e w' ⟨rfl, rfl⟩
      go_wp2_with fail
      refine (same_yes A2 A3 c2 c3 nh mh w4 HNB.out.1 HNB.out.2 HNM.out HT5.out HM5.out).mono ?_
      rintro e w6 ⟨rfl, hx6⟩
      have HX6 := Lib.hid (HX5.out.trans hx6)
      have HO6 := Lib.hid (HO5.out.ext hx6)
      clear hx6 ct
      go_wp2_with fail
      refine (sameBytes_any (some ⟨gs, 0, none⟩) A l l l.length l.length cp c w6 rfl rfl HO6.out (HC.out.ext HX6.out)).mono ?_
      rintro e w' ⟨rfl, rfl⟩
      rw [show (l == l) = true from by simp]
      go_wp2_with fail
      refine (works5_any w6 (HG.out.ext HX6.out)).mono ?_
      rintro e w7 ⟨rfl, hx7⟩
      go_wp2_with fail
      go_ret
      exact ⟨rfl, HX6.out.trans hx7⟩
    | err a er =>
      have HR := Lib.hid hr
      have her : er ≠ 0 := parseS_ne hr
      have d1 : (er != 0) = true := by rw [bne_iff_ne]; exact her
      have HE := Lib.hid her
      clear hr her
      go_enter Tryz.func3, Tryz.ntmps3
      go_wp2_with fail
      refine (parse_err (some ⟨gs, 0, none⟩) l l.length cp w1 rfl hbig hcp (fun h => by cases h) HO1.out a er HR.out).mono ?_
      rintro e w2a ⟨g2, rfl, _, hb2, hx2⟩
      clear hcv1 hcv2
      have HB2 := Lib.hid hb2
      have HX2 := Lib.hid (HX1.out.trans hx2)
      have HX2b := Lib.hid hx2
      clear hb2 hx2
      go_upto_region 5 with fail
      have hxt : Ext w2a (w2a.alloc (.cells #[.slice none 0 0] 26)) := Ext.alloc _ _
      have HTB := Lib.hid (Blk.new w2a 26 #[.slice none 0 0])
      have HX3 := Lib.hid (HX2.out.trans hxt)
      have HB3 := Lib.hid (HB2.out.ext hxt)
      have HO3 := Lib.hid ((HO1.out.ext HX2b.out).ext hxt)
      clear hxt
      generalize w2a.alloc (.cells #[.slice none 0 0] 26) = w2 at *
      generalize w2a.heap.size = gt at *
      go_wp2_with fail
      refine (rparse_any A l l.length c w2 rfl (by omega) hcap (HC.out.ext HX3.out)).mono ?_
      rw [HR.out]
      rintro e w3 ⟨hx3, rfl⟩
      have HB4 := Lib.hid (HB3.out.ext hx3)
      have HX4 := Lib.hid (HX3.out.trans hx3)
      have HO4 := Lib.hid (HO3.out.ext hx3)
      have HTC := Lib.hid (HTB.out.ext hx3)
      clear hx3
      go_wp2_with fail
      refine (place_at g2 _ _ _ _ w3 (HG.out.ext HX4.out) HB4.out).mono ?_
      rintro e w4 ⟨rfl, hx4⟩
      have HB5 := Lib.hid (HB4.out.ext hx4)
      have HX5 := Lib.hid (HX4.out.trans hx4)
      have HO5 := Lib.hid (HO4.out.ext hx4)
      have HT5 := Lib.hid (HTC.out.ext hx4)
      clear hx4
      go_wp2_with fail
      refine (code_at g2 _ _ _ _ w4 (HG.out.ext HX5.out) HB5.out).mono ?_
      rintro e w5 ⟨rfl, hx5⟩
      have HX6 := Lib.hid (HX5.out.trans hx5)
      have HO6 := Lib.hid (HO5.out.ext hx5)
      have HT6 := Lib.hid (HT5.out.ext hx5)
      clear hx5
      have ct : w5.cell? ⟨gt, 0, none⟩ = some (.slice none 0 0) := HT6.out.cell 0
      go_wp2_with fail
      refine (same_yes none none 0 0 [] [] w5 (by decide) (fun x hx => by cases hx) rfl ⟨.inl rfl, fun x hx => by cases hx⟩ ⟨.inl rfl, fun x hx => by cases hx⟩).mono ?_
      rintro e w6 ⟨rfl, hx6⟩
      have HX7 := Lib.hid (HX6.out.trans hx6)
      have HO7 := Lib.hid (HO6.out.ext hx6)
      clear hx6 ct
      go_wp2_with fail
      refine (sameBytes_any (some ⟨gs, 0, none⟩) A l l l.length l.length cp c w6 rfl rfl HO7.out (HC.out.ext HX7.out)).mono ?_
      rintro e w' ⟨rfl, rfl⟩
      rw [show (l == l) = true from by simp]
      go_wp2_with fail
      refine (works5_any w6 (HG.out.ext HX7.out)).mono ?_
      rintro e w7 ⟨rfl, hx7⟩
      go_wp2_with fail
      go_ret
      exact ⟨rfl, HX7.out.trans hx7⟩
end Go.Proofs.YtcccnicldbpieaaGreatDoor
