/- The document's word, number. Condition: the nodes fit into memory. The document's expr, bracket, row. Condition: the nodes fit into memory. The document's kind of a word; block, branch, loop over whatever reads a statement. Condition: the nodes fit into memory. -/
import Derived.Test.YtcccnicldbpieaaGreatDoorMa
import Derived.Deep.RegionHeld3
import Derived.Test.YtcccnicldbpieaaGreatDoorMb
namespace Go.Proofs.YtcccnicldbpieaaGreatDoor
open Go Go.RowKit
set_option linter.unusedVariables false
set_option linter.unusedSimpArgs false
set_option maxRecDepth 100000 in
set_option maxHeartbeats 4000000 in
theorem qword_any (w : World) (p B : Nat) (r : Rs) (R : QRep) (i : Nat) (h : QS w p B r R) (hi : i < r.s.nd.length) (hb : r.phi ≤ 1800000) :
    Calls Tryz.prog 56 #[.pointer (some ⟨p, 0, none⟩), .int .i64 (i : Int)] w fun e w' => e = .returned (.tuple #[]) ∧ PostQ w p B R (wordR i r) w' := by
  have HB := Lib.hid hb
  have HI := Lib.hid hi
  have H0 := Lib.hid (RanQ.refl h)
  clear h hb hi
  go_enter Tryz.func56, Tryz.ntmps56
  go_wp2_with fail
  refine (qkid_any _ p B _ R (i) H0.out.qs (HI.out) (nd_le (H0.out.bound HB.out (by omega)))).mono ?_
  rintro e w1a ⟨rfl, R1a, hk, hm⟩
  have HK := Lib.hid (And.intro hk hm)
  clear hk hm
  go_wp2_with fail
  refine (qnode_kid _ p B _ R1a (i) 5 HK.out.1 (H0.out.bound HB.out (by omega))).mono ?_
  rintro e w1 ⟨rfl, hp⟩
  obtain ⟨R1, H1⟩ := RanQ.kidNode H0 HK hp
  clear hp HK
  go_wp2_with fail
  obtain ⟨g1, hi1, hA, hgl1, hgp1⟩ := H1.out.qs.node_at (i := r.s.nd.length) (by rw [show (r.kidNode i 5).s.nd.length = r.s.nd.length + 1 from kidNode_len r.s i 5]; omega)
  have x3 := H1.out.qs.x3 hA
  have HA1 := Lib.hid hA
  have q0 : (0 : Int) ≤ ((r.s.nd.length : Nat) : Int) := Int.natCast_nonneg _
  have q1 : ((r.s.nd.length : Nat) : Int) < (R1.nh.length : Int) := by omega
  clear hA
  go_region_held3 (fun w' => w'.cell? ⟨p, 3, none⟩ = some (.slice (some ⟨g1, 0, none⟩) R1.nh.length R1.c))
    (first
      | assumption
      | go_keep
      | exact y1s _)
    (first
      | (go_at_call 54; refine (qname_t _ p B _ R1 (H1.out.qs.ext (by first | exact Ext.refl _ | exact Below.drew (Below.refl _ _)))).mono ?_; rintro e w1b ⟨rfl, I1, hq, hm⟩; have y1 : w1b.cell? ⟨p, 3, none⟩ = some (.slice (some ⟨g1, 0, none⟩) R1.nh.length R1.c) := hq.x3 HA1.out; have HN := Lib.hid (And.intro hq hm); have c2 : w1b.cell? ⟨g1, r.s.nd.length * 5 + 2, none⟩ = some (.string (bstr (R1.nh[r.s.nd.length]'hi1).1.text)) := (hq.nodeCell _ hi1 HA1.out 2 (by decide)); have z2 : w1b.frozen? ⟨g1, r.s.nd.length * 5 + 2, none⟩ = false := hq.nthaw _ HA1.out; have y1s : ∀ u, (w1b.setCell ⟨g1, r.s.nd.length * 5 + 2, none⟩ u).cell? ⟨p, 3, none⟩ = some (.slice (some ⟨g1, 0, none⟩) R1.nh.length R1.c) := fun u => (World.cell?_of_block (w := w1b) (a := ⟨p, 3, none⟩) (Below.heap_setCell w1b ⟨g1, r.s.nd.length * 5 + 2, none⟩ u p (fun e => hgp1 e.symm))).trans y1; clear hq hm)
      | (fail))
  obtain ⟨R2, H2⟩ := RanQ.named (i := r.s.nd.length) (g := g1) H1 HN.out.1 ((Moves.ext (by first | exact Ext.refl _ | exact Below.drew (Below.refl _ _))).trans HN.out.2) hi1 HA1.out
  clear c2 z2 y1 y1s x3 q0 q1 HN
  generalize w1b.setCell ⟨g1, r.s.nd.length * 5 + 2, none⟩ (.string (bstr (Rs.nameT (Rs.kidNode r (i) 5)))) = w2 at *
  go_wp2_with fail
  go_end0
  exact ⟨rfl, H2.out.post⟩
set_option maxRecDepth 100000 in
set_option maxHeartbeats 4000000 in
theorem qnumber_any (w : World) (p B : Nat) (r : Rs) (R : QRep) (i : Nat) (h : QS w p B r R) (hi : i < r.s.nd.length) (hb : r.phi ≤ 1800000) :
    Calls Tryz.prog 124 #[.pointer (some ⟨p, 0, none⟩), .int .i64 (i : Int)] w fun e w' => e = .returned (.tuple #[]) ∧ PostQ w p B R (numberR i r) w' := by
  have HB := Lib.hid hb
  have HI := Lib.hid hi
  have H0 := Lib.hid (RanQ.refl h)
  clear h hb hi
  go_enter Tryz.func124, Tryz.ntmps124
  go_wp2_with fail
  refine (qkid_any _ p B _ R (i) H0.out.qs (HI.out) (nd_le (H0.out.bound HB.out (by omega)))).mono ?_
  rintro e w1a ⟨rfl, R1a, hk, hm⟩
  have HK := Lib.hid (And.intro hk hm)
  clear hk hm
  go_wp2_with fail
  refine (qnode_kid _ p B _ R1a (i) 21 HK.out.1 (H0.out.bound HB.out (by omega))).mono ?_
  rintro e w1 ⟨rfl, hp⟩
  obtain ⟨R1, H1⟩ := RanQ.kidNode H0 HK hp
  clear hp HK
  have x0 := H1.out.qs.x0
  have x1 := H1.out.qs.x1
  have x4 := H1.out.qs.x4
  have t0 : w1.cell? ⟨R1.bt, R1.o0 + R1.I * 5, none⟩ = some (.int .u8 ((r.kidNode i 21).s.hd.kind : Int)) := H1.out.qs.tok 0 (by decide)
  have t4 : w1.cell? ⟨R1.bt, R1.o0 + R1.I * 5 + 4, none⟩ = some (.int .i64 (r.kidNode i 21).s.hd.n) := H1.out.qs.tok 4 (by decide)
  have hfew := H1.out.qs.few
  have hpos := H1.out.qs.good.last.pos
  have qp := H1.out.qs.pos
  obtain ⟨ee, hee⟩ : ∃ x, x = (r.kidNode i 21).e := ⟨_, rfl⟩
  obtain ⟨kk, hkk⟩ : ∃ x, x = (r.kidNode i 21).s.hd.kind := ⟨_, rfl⟩
  rw [← hee] at x4
  rw [← hkk] at t0
  have HC : Hid (((r.kidNode i 21).e == 0 && (r.kidNode i 21).s.hd.kind == 2) = (ee == 0 && kk == 2)) := Lib.hid (by rw [hee, hkk])
  by_cases hc : ee = 0 ∧ kk = 2
  · obtain ⟨rfl, rfl⟩ := hc
    have HR : Hid (numberR i r = ((r.kidNode i 21).num r.s.nd.length (r.kidNode i 21).s.hd.n).adv) := Lib.hid (by unfold numberR; dsimp only; rw [HC.out]; rfl)
    have HK4 : Hid ((r.kidNode i 21).s.hd.kind ≠ 4) := Lib.hid (by rw [← hkk]; decide)
    clear hee hkk HC
    go_wp2_with fail
    go_quiet (fail)
    rename_i nq
    have H2 := RanQ.drew H1 nq
    clear x0 x1 x4 t0 t4
    generalize w1.drewN nq = w2 at *
    obtain ⟨g2, hi2, hA, hgl2, hgp2⟩ := H2.out.qs.node_at (i := r.s.nd.length) (by rw [show (r.kidNode i 21).s.nd.length = r.s.nd.length + 1 from kidNode_len r.s i 21]; omega)
    have x3 := H2.out.qs.x3 hA
    have HA2 := Lib.hid hA
    have q0 : (0 : Int) ≤ ((r.s.nd.length : Nat) : Int) := Int.natCast_nonneg _
    have q1 : ((r.s.nd.length : Nat) : Int) < (R1.nh.length : Int) := by omega
    clear hA
    have c3 : w2.cell? ⟨g2, r.s.nd.length * 5 + 3, none⟩ = some (.int .i64 (R1.nh[r.s.nd.length]'hi2).1.num) := (H2.out.qs.nodeCell _ hi2 HA2.out 3 (by decide))
    have z3 := H2.out.qs.nthaw (r.s.nd.length * 5 + 3) HA2.out
    have x0 := H2.out.qs.x0
    have x1 := H2.out.qs.x1
    have t4 : w2.cell? ⟨R1.bt, R1.o0 + R1.I * 5 + 4, none⟩ = some (.int .i64 (r.kidNode i 21).s.hd.n) := H2.out.qs.tok 4 (by decide)
    go_wp2_with fail
    go_region
    obtain ⟨R3, H3⟩ := RanQ.num (i := r.s.nd.length) (g := g2) H2 ((r.kidNode i 21).s.hd.n) hi2 HA2.out
    clear c3 z3 x3 q0 q1
    generalize w2.setCell ⟨g2, r.s.nd.length * 5 + 3, none⟩ (.int .i64 ((r.kidNode i 21).s.hd.n)) = w3 at *
    clear x0 x1 t4 hfew hpos qp
    have x1 := H3.out.qs.x1
    have hf1 := H3.out.qs.blk.frozen 1
    have hfew := H3.out.qs.few
    have hpos := H3.out.qs.good.last.pos
    go_wp2_with fail
    have H4 := RanQ.adv H3 (HK4.out)
    clear x1 hf1 hfew hpos
    generalize w3.setCell ⟨p, 1, none⟩ (.int .i64 ((R3.I : Int) + 1)) = w4 at *
    generalize { R3 with I := R3.I + 1 } = R4 at *
    have H5 := H4.out.qs.ext (Below.drew (Below.refl _ _))
    have M5 := H4.out.mv.trans (Moves.ext (M := MineQ p R4) (Below.drew (Below.refl _ _)))
    go_end0
    rw [HR.out]
    exact ⟨rfl, R4, H5, M5⟩
  · have HR : Hid (numberR i r = (r.kidNode i 21).fail 50) := Lib.hid (by
      have e : (ee == 0 && kk == 2) = false := by
        cases h1 : (ee == 0 && kk == 2) with
        | false => rfl
        | true =>
          rw [Bool.and_eq_true, beq_iff_eq, beq_iff_eq] at h1
          exact absurd h1 hc
      unfold numberR
      dsimp only
      rw [HC.out, e]
      rfl)
    clear HC hee hkk
    by_cases h0 : ee = 0
    · subst h0
      have hk1 : ¬ kk = 2 := fun h => hc ⟨rfl, h⟩
      have i1 : ¬ (kk : Int) = 2 := by omega
      have j1 : ((kk : Int) != 2) = true := by rw [bne_iff_ne]; omega
      clear hc hk1
      go_wp2_with fail
      go_quiet (fail)
      rename_i nq
      have H2 := RanQ.drew H1 nq
      clear x0 x1 x4 t0 t4
      generalize w1.drewN nq = w2 at *
      go_wp2_with fail
      refine (qfail_any _ p B _ R1 50 (by decide) H2.out.qs).mono ?_
      rintro e w3 ⟨rfl, hp⟩
      obtain ⟨R3, H3⟩ := RanQ.goL H2 (rl_fail H2.out.qs.good 50) hp
      clear hp
      go_wp2_with fail
      refine bodyPost_ret (results_none rfl _ _ _) rfl ?_
      rw [HR.out]
      exact ⟨rfl, H3.out.post⟩
    · have g0 : (ee == 0) = false := beq_eq_false_iff_ne.2 h0
      have g1 : (ee != 0) = true := by rw [bne_iff_ne]; exact h0
      clear hc
      go_wp2_with fail
      go_quiet (fail)
      rename_i nq
      have H2 := RanQ.drew H1 nq
      clear x0 x1 x4 t0 t4
      generalize w1.drewN nq = w2 at *
      go_wp2_with fail
      refine (qfail_any _ p B _ R1 50 (by decide) H2.out.qs).mono ?_
      rintro e w3 ⟨rfl, hp⟩
      obtain ⟨R3, H3⟩ := RanQ.goL H2 (rl_fail H2.out.qs.good 50) hp
      clear hp
      go_wp2_with fail
      refine bodyPost_ret (results_none rfl _ _ _) rfl ?_
      rw [HR.out]
      exact ⟨rfl, H3.out.post⟩
end Go.Proofs.YtcccnicldbpieaaGreatDoor
namespace Go.Proofs.YtcccnicldbpieaaGreatDoor
open Go Go.RowKit
set_option linter.unusedVariables false
set_option linter.unusedSimpArgs false
theorem exprR_ok {i : Nat} {r : Rs} (h : (sumR r).2.e = 0) : exprR i r = { (sumR r).2 with s := putP i (sumR r).1 (sumR r).2.s } := by unfold exprR; rw [if_pos h]
theorem exprR_no {i : Nat} {r : Rs} (h : ¬ (sumR r).2.e = 0) : exprR i r = (sumR r).2 := by unfold exprR; rw [if_neg h]
theorem bracketR_no {i : Nat} {r : Rs} (h : r.is [91] = false) : bracketR i r = r.fail 50 := by unfold bracketR; rw [if_neg (by rw [h]; decide)]
theorem bracketR_deep {i : Nat} {r : Rs} (h : r.is [91] = true) (h2 : ¬ r.inn.e = 0) : bracketR i r = r.inn.fail 50 := by unfold bracketR; rw [if_pos h, if_neg h2]
theorem bracketR_in {i : Nat} {r : Rs} (h : r.is [91] = true) (h2 : r.inn.e = 0) : bracketR i r = (takeR [93] (exprR i r.inn.adv)).out := by unfold bracketR; rw [if_pos h, if_pos h2]
set_option maxRecDepth 100000 in
set_option maxHeartbeats 4000000 in
theorem qexpr_any (w : World) (p B : Nat) (r : Rs) (R : QRep) (i : Nat) (h : QS w p B r R) (hi : i < r.s.nd.length) (hb : r.phi ≤ 1800000) :
    Calls Tryz.prog 111 #[.pointer (some ⟨p, 0, none⟩), .int .i64 (i : Int)] w fun e w' => e = .returned (.tuple #[]) ∧ PostQ w p B R (exprR i r) w' := by
  have HI := Lib.hid hi
  have HK := Lib.hid (sumR_keeps r h.good)
  have HB : Hid (r.s.nd.length + 16 * r.s.ts.length ≤ 1800000) := Lib.hid (by unfold Rs.phi at hb; omega)
  have HP := Lib.hid h
  clear h hi hb
  go_enter Tryz.func111, Tryz.ntmps111
  go_wp2_with fail
  refine (qsum_any w p B r R HP.out).mono ?_
  rintro e w1 ⟨cs, R1, rfl, hq, hm, hx⟩
  have HOK := Lib.hid (fun h => exprR_ok (i := i) (r := r) h)
  have HNO := Lib.hid (fun h => exprR_no (i := i) (r := r) h)
  obtain ⟨y, hy⟩ : ∃ y, sumR r = y := ⟨_, rfl⟩
  rw [hy] at hq hx HK HOK HNO
  obtain ⟨x, r1⟩ := y
  simp only at hq hx HK HOK HNO
  clear hy
  have HEXT : Hid (Ext w1 (w1.alloc (.cells cs.toArray 164))) := Lib.hid (Ext.alloc _ _)
  have HQ := Lib.hid (hq.ext HEXT.out)
  have HM := Lib.hid (hm.trans (Moves.ext HEXT.out))
  have HX := Lib.hid ((hx.weaken (M' := MineQ p R1) fun b hb k => .inl k).moves (Moves.ext HEXT.out))
  have HN := Lib.hid (Blk.new w1 164 cs.toArray)
  obtain ⟨A1, c1, f1, hcs, _⟩ := hx.open
  clear hq hm hx
  have HCS := Lib.hid hcs
  subst hcs
  unfold eheadR
  unfold eheadR at HEXT HQ HM HX HN HCS
  generalize x.parts.length = xm at *
  generalize HY : x.node = y at *
  obtain ⟨yk, yp, yt, yn, yks⟩ := y
  simp only at HEXT HQ HM HX HN HCS ⊢
  go_upto_region 1 with fail
  generalize w1.alloc (.cells #[.int .u8 (yk : Int), .int .i64 (yp : Int), .string (bstr yt), .int .i64 yn, .slice A1 xm c1] 164) = w2 at *
  generalize w1.heap.size = gx at *
  have x4 := HQ.out.x4
  have c0 := HN.out.cell 0
  have c1' := HN.out.cell 1
  have c2 := HN.out.cell 2
  have c3 := HN.out.cell 3
  have c4 := HN.out.cell 4
  simp only [List.getElem?_toArray, List.getElem?_cons_zero, List.getElem?_cons_succ] at c0 c1' c2 c3 c4
  by_cases he : r1.e = 0
  · have HE := Lib.hid he
    have HR := Lib.hid (HOK.out he)
    rw [he] at x4
    clear he
    go_wp2_with fail
    refine (qput_any x.size x (Nat.le_refl _) w2 p B r1 R1 i _ HQ.out (by have := HK.out.nd; have := HI.out; have h2 : r1.s.nd = r.s.nd := HK.out.nd; rw [h2]; exact HI.out) (by
      have h1 : x.size + r1.s.ts.length ≤ r.s.ts.length := HK.out.size HE.out
      have h2 : r1.s.nd = r.s.nd := HK.out.nd
      have h3 := HB.out
      rw [h2]
      omega) HX.out).mono ?_
    rintro e w3 ⟨rfl, R3, hq3, hm3⟩
    have HQ3 := Lib.hid hq3
    have HM3 := Lib.hid (HM.out.trans hm3)
    clear hq3 hm3
    go_wp2_with fail
    go_end0
    rw [HR.out]
    exact ⟨rfl, R3, HQ3.out, HM3.out⟩
  · have HR := Lib.hid (HNO.out he)
    have g1 : (r1.e == 0) = false := beq_eq_false_iff_ne.2 he
    go_wp2_with fail
    go_end0
    rw [HR.out]
    exact ⟨rfl, R1, HQ.out, HM.out⟩
set_option maxRecDepth 100000 in
set_option maxHeartbeats 4000000 in
theorem qbracket_any (w : World) (p B : Nat) (r : Rs) (R : QRep) (i : Nat) (h : QS w p B r R) (hi : i < r.s.nd.length) (hb : r.phi ≤ 1800000) :
    Calls Tryz.prog 112 #[.pointer (some ⟨p, 0, none⟩), .int .i64 (i : Int)] w fun e w' => e = .returned (.tuple #[]) ∧ PostQ w p B R (bracketR i r) w' := by
  have HB := Lib.hid hb
  have HI := Lib.hid hi
  have H0 := Lib.hid (RanQ.refl h)
  clear h hb hi
  cases hc : r.is [91] with
  | false =>
    have HC := Lib.hid hc
    clear hc
    have HR := Lib.hid (bracketR_no (i := i) HC.out)
    go_enter Tryz.func112, Tryz.ntmps112
    go_wp2_with fail
    refine (qis_any _ p B _ R [91] false (HC) H0.out.qs).mono ?_
    rintro e _ ⟨rfl, m, rfl⟩
    have H1 := RanQ.drew H0 m
    generalize w.drewN m = w1 at *
    go_wp2_with fail
    refine (qfail_any _ p B _ R 50 (by decide) H1.out.qs).mono ?_
    rintro e w2 ⟨rfl, hp⟩
    obtain ⟨R2, H2⟩ := RanQ.goL H1 (rl_fail H1.out.qs.good 50) hp
    clear hp
    go_wp2_with fail
    go_end0
    rw [HR.out]
    exact ⟨rfl, H2.out.post⟩
  | true =>
    have HC := Lib.hid hc
    clear hc
    have HE := Lib.hid (ris_kind HC.out).2
    have HK4 := Lib.hid (ris_kind HC.out).1
    by_cases hin : r.inn.e = 0
    · have HIN := Lib.hid hin
      have HR := Lib.hid (bracketR_in (i := i) HC.out hin)
      clear hin
      go_enter Tryz.func112, Tryz.ntmps112
      go_wp2_with fail
      refine (qis_any _ p B _ R [91] true (HC) H0.out.qs).mono ?_
      rintro e _ ⟨rfl, m, rfl⟩
      have H1 := RanQ.drew H0 m
      generalize w.drewN m = w1 at *
      go_wp2_with fail
      refine (qinn_any _ p B _ R HE.out true (Lib.hid (by rw [HIN.out]; rfl)) H1.out.qs).mono ?_
      rintro e w2 ⟨rfl, hp⟩
      obtain ⟨R2, H2⟩ := RanQ.goL H1 (rl_inn H1.out.qs.good HE.out) hp
      clear hp
      have x1 := H2.out.qs.x1
      have hf1 := H2.out.qs.blk.frozen 1
      have hfew := H2.out.qs.few
      have hpos := H2.out.qs.good.last.pos
      go_wp2_with fail
      have H3 := RanQ.adv H2 (by rw [hd_ts (inn_s r).1]; exact HK4.out)
      clear x1 hf1 hfew hpos
      generalize w2.setCell ⟨p, 1, none⟩ (.int .i64 ((R2.I : Int) + 1)) = w3 at *
      generalize { R2 with I := R2.I + 1 } = R3 at *
      refine (qexpr_any _ p B _ R3 i H3.out.qs (H3.out.idx HI.out) (H3.out.bound HB.out (by omega))).mono ?_
      rintro e w4 ⟨rfl, hp⟩
      obtain ⟨R4, H4⟩ := RanQ.go H3 (gro_expr i) hp
      clear hp
      go_wp2_with fail
      refine (qtake_any _ p B _ R4 [93] H4.out.qs).mono ?_
      rintro e w5 ⟨rfl, hp⟩
      obtain ⟨R5, H5⟩ := RanQ.go H4 (gro_take [93]) hp
      clear hp
      have x2 := H5.out.qs.x2
      have hf2 := H5.out.qs.blk.frozen 2
      have hdp := H5.out.qs.good.deep
      have HDP : Hid (1 ≤ Ps.deep (Rs.s (takeR [93] (exprR i (Rs.adv (Rs.inn r)))))) := Lib.hid (by have h1 := up_take [93] (exprR i r.inn.adv); have h2 := up_expr i r.inn.adv; have h3 := inn_deep r; have h4 : r.inn.adv.s.deep = r.inn.s.deep := rfl; omega)
      have hdq := HDP.out
      go_wp2_with fail
      have H6 := RanQ.out (v := .int .i64 ((Ps.deep (Rs.s (takeR [93] (exprR i (Rs.adv (Rs.inn r))))) : Int) - 1)) H5 (by show _ = Value.int .i64 ((Ps.deep (Rs.s (takeR [93] (exprR i (Rs.adv (Rs.inn r))))) - 1 : Nat) : Int); rw [Int.ofNat_sub HDP.out]; rfl)
      clear x2 hf2 hdp hdq
      refine bodyPost_ret (results_none rfl _ _ _) rfl ?_
      rw [HR.out]
      exact ⟨rfl, H6.out.post⟩
    · have HIN := Lib.hid hin
      have HR := Lib.hid (bracketR_deep (i := i) HC.out hin)
      clear hin
      go_enter Tryz.func112, Tryz.ntmps112
      go_wp2_with fail
      refine (qis_any _ p B _ R [91] true (HC) H0.out.qs).mono ?_
      rintro e _ ⟨rfl, m, rfl⟩
      have H1 := RanQ.drew H0 m
      generalize w.drewN m = w1 at *
      go_wp2_with fail
      refine (qinn_any _ p B _ R HE.out false (Lib.hid (by exact beq_eq_false_iff_ne.2 HIN.out)) H1.out.qs).mono ?_
      rintro e w2 ⟨rfl, hp⟩
      obtain ⟨R2, H2⟩ := RanQ.goL H1 (rl_inn H1.out.qs.good HE.out) hp
      clear hp
      go_wp2_with fail
      refine (qfail_any _ p B _ R2 50 (by decide) H2.out.qs).mono ?_
      rintro e w3 ⟨rfl, hp⟩
      obtain ⟨R3, H3⟩ := RanQ.goL H2 (rl_fail H2.out.qs.good 50) hp
      clear hp
      go_wp2_with fail
      go_end0
      rw [HR.out]
      exact ⟨rfl, H3.out.post⟩
set_option maxRecDepth 100000 in
set_option maxHeartbeats 4000000 in
theorem qrow_any (w : World) (p B : Nat) (r : Rs) (R : QRep) (i : Nat) (h : QS w p B r R) (hi : i < r.s.nd.length) (hb : r.phi ≤ 1790000) :
    Calls Tryz.prog 110 #[.pointer (some ⟨p, 0, none⟩), .int .i64 (i : Int)] w fun e w' => e = .returned (.tuple #[]) ∧ PostQ w p B R (rowR i r) w' := by
  have HB := Lib.hid hb
  have HI := Lib.hid hi
  have H0 := Lib.hid (RanQ.refl h)
  clear h hb hi
  go_enter Tryz.func110, Tryz.ntmps110
  go_wp2_with fail
  refine (qkid_any _ p B _ R (i) H0.out.qs (HI.out) (nd_le (H0.out.bound HB.out (by omega)))).mono ?_
  rintro e w1a ⟨rfl, R1a, hk, hm⟩
  have HK := Lib.hid (And.intro hk hm)
  clear hk hm
  go_wp2_with fail
  refine (qnode_kid _ p B _ R1a (i) 20 HK.out.1 (H0.out.bound HB.out (by omega))).mono ?_
  rintro e w1 ⟨rfl, hp⟩
  obtain ⟨R1, H1⟩ := RanQ.kidNode H0 HK hp
  clear hp HK
  go_wp2_with fail
  have HN1 : Hid (r.s.nd.length < (r.kidNode i 20).s.nd.length) := Lib.hid (by rw [show (r.kidNode i 20).s.nd.length = r.s.nd.length + 1 from kidNode_len r.s i 20]; omega)
  obtain ⟨g1, hi1, hA, hgl1, hgp1⟩ := H1.out.qs.node_at (i := r.s.nd.length) (HN1.out)
  have x3 := H1.out.qs.x3 hA
  have HA1 := Lib.hid hA
  have q0 : (0 : Int) ≤ ((r.s.nd.length : Nat) : Int) := Int.natCast_nonneg _
  have q1 : ((r.s.nd.length : Nat) : Int) < (R1.nh.length : Int) := by omega
  clear hA
  go_region_held3 (fun w' => w'.cell? ⟨p, 3, none⟩ = some (.slice (some ⟨g1, 0, none⟩) R1.nh.length R1.c))
    (first
      | assumption
      | go_keep
      | exact y1s _)
    (first
      | (go_at_call 54; refine (qname_t _ p B _ R1 (H1.out.qs.ext (by first | exact Ext.refl _ | exact Below.drew (Below.refl _ _)))).mono ?_; rintro e w1b ⟨rfl, I1, hq, hm⟩; have y1 : w1b.cell? ⟨p, 3, none⟩ = some (.slice (some ⟨g1, 0, none⟩) R1.nh.length R1.c) := hq.x3 HA1.out; have HN := Lib.hid (And.intro hq hm); have c2 : w1b.cell? ⟨g1, r.s.nd.length * 5 + 2, none⟩ = some (.string (bstr (R1.nh[r.s.nd.length]'hi1).1.text)) := (hq.nodeCell _ hi1 HA1.out 2 (by decide)); have z2 : w1b.frozen? ⟨g1, r.s.nd.length * 5 + 2, none⟩ = false := hq.nthaw _ HA1.out; have y1s : ∀ u, (w1b.setCell ⟨g1, r.s.nd.length * 5 + 2, none⟩ u).cell? ⟨p, 3, none⟩ = some (.slice (some ⟨g1, 0, none⟩) R1.nh.length R1.c) := fun u => (World.cell?_of_block (w := w1b) (a := ⟨p, 3, none⟩) (Below.heap_setCell w1b ⟨g1, r.s.nd.length * 5 + 2, none⟩ u p (fun e => hgp1 e.symm))).trans y1; clear hq hm)
      | (fail))
  obtain ⟨R2, H2⟩ := RanQ.named (i := r.s.nd.length) (g := g1) H1 HN.out.1 ((Moves.ext (by first | exact Ext.refl _ | exact Below.drew (Below.refl _ _))).trans HN.out.2) hi1 HA1.out
  clear c2 z2 y1 y1s x3 q0 q1 HN
  generalize w1b.setCell ⟨g1, r.s.nd.length * 5 + 2, none⟩ (.string (bstr (Rs.nameT (Rs.kidNode r (i) 20)))) = w2 at *
  go_wp2_with fail
  refine (qbracket_any _ p B _ R2 r.s.nd.length H2.out.qs (Nat.lt_of_lt_of_le HN1.out (gro_named r.s.nd.length _ H1.out.qs.good).nd) (H2.out.bound HB.out (by omega))).mono ?_
  rintro e w3 ⟨rfl, hp⟩
  obtain ⟨R3, H3⟩ := RanQ.go H2 (gro_bracket r.s.nd.length) hp
  clear hp
  go_wp2_with fail
  go_end0
  exact ⟨rfl, H3.out.post⟩
end Go.Proofs.YtcccnicldbpieaaGreatDoor
namespace Go.Proofs.YtcccnicldbpieaaGreatDoor
open Go Go.RowKit
set_option linter.unusedVariables false
set_option linter.unusedSimpArgs false
theorem moreR_yes {one : Rs → Rs} {f : Nat} {r : Rs} (h : r.is [44] = true) : moreR one (f + 1) r = moreR one f (one r.adv) := by rw [moreR, if_pos h]
theorem moreR_no {one : Rs → Rs} {f : Nat} {r : Rs} (h : r.is [44] = false) : moreR one (f + 1) r = r := by rw [moreR, if_neg (by rw [h]; decide)]
/-- What holds ahead of a round of a list. -/
def MoreJ (w : World) (p B : Nat) (R : QRep) (r : Rs) (one : Rs → Rs) (q0 : Rs) (wr : World) : Prop :=
  ∃ (q : Rs) (R' : QRep) (f' : Nat), Hid (RanQ w p B R r wr R' q 8) ∧ Hid (q.s.ts.length < f') ∧ Hid (moreR one (q0.s.ts.length + 1) q0 = moreR one f' q) ∧ Hid (q0.s.nd.length ≤ q.s.nd.length)
def kindN (t : Bs) : Nat := (formOf t).getD 0
theorem find_skip {α : Type} (p : α → Bool) : ∀ (l : List α) (k : Nat) (hk : k < l.length), (∀ j (hj : j < l.length), j < k → p l[j] = false) → p l[k] = true → l.find? p = some l[k]
  | x :: l, 0, _, _, hi => by rw [List.find?_cons]; have : p x = true := hi; rw [this]; rfl
  | x :: l, k + 1, hk, h, hi => by
    have h0 : p x = false := h 0 (by simp) (by omega)
    rw [List.find?_cons, h0]
    exact find_skip p l k (by simpa using hk) (fun j hj hjk => h (j + 1) (by simpa using hj) (by omega)) hi
theorem kind_yes (t : Bs) (k : Nat) (hk : k < formsL.length) (h : ∀ j (hj : j < formsL.length), j < k → (formsL[j].1 == t) = false) (hi : (formsL[k].1 == t) = true) : kindN t = k + 7 := by
  unfold kindN formOf
  rw [find_skip (fun m : Bs × Nat => m.1 == t) formsL k hk h hi]
  have : ∀ k (hk : k < formsL.length), formsL[k].2 = k + 7 := by decide
  exact this k hk
theorem kind_no (t : Bs) (h : ∀ j (hj : j < formsL.length), (formsL[j].1 == t) = false) : kindN t = 0 := by
  unfold kindN formOf
  rw [List.find?_eq_none.2 (fun m hm => by
    obtain ⟨j, hj, rfl⟩ := List.mem_iff_getElem.1 hm
    rw [h j hj]; decide)]
  rfl
set_option maxRecDepth 100000 in
set_option maxHeartbeats 4000000 in
theorem qkind_any (w : World) (t : Bs) : Calls Tryz.prog 109 #[.string (bstr t)] w fun e w' => e = .returned (.int .u8 (kindN t : Int)) ∧ Ext w w' := by
  have HX : Hid (Ext w (w.alloc (.cells (formsL.map fun m => Value.string (bstr m.1)).toArray 9))) := Lib.hid (Ext.alloc _ _)
  have HC := Lib.hid (Blk.new w 9 (formsL.map fun m => Value.string (bstr m.1)).toArray)
  go_enter Tryz.func109, Tryz.ntmps109
  go_wp2_with fail
  have HWE : Hid (w.alloc (.cells (formsL.map fun m => Value.string (bstr m.1)).toArray 9) = w.alloc (.cells #[.string ⟨#[114, 101, 97, 100]⟩, .string ⟨#[115, 101, 116]⟩, .string ⟨#[112, 117, 116]⟩, .string ⟨#[100, 101, 108, 101, 116, 101]⟩, .string ⟨#[115, 99, 97, 110]⟩, .string ⟨#[108, 111, 99, 107]⟩, .string ⟨#[114, 101, 108, 101, 97, 115, 101]⟩, .string ⟨#[105, 102]⟩, .string ⟨#[102, 111, 114]⟩, .string ⟨#[108, 101, 116]⟩, .string ⟨#[101, 109, 105, 116]⟩, .string ⟨#[114, 111, 108, 108, 98, 97, 99, 107]⟩, .string ⟨#[99, 104, 111, 112]⟩] 9)) := Lib.hid rfl
  rw [HWE.out] at HC HX
  clear HWE
  generalize w.alloc (.cells #[.string ⟨#[114, 101, 97, 100]⟩, .string ⟨#[115, 101, 116]⟩, .string ⟨#[112, 117, 116]⟩, .string ⟨#[100, 101, 108, 101, 116, 101]⟩, .string ⟨#[115, 99, 97, 110]⟩, .string ⟨#[108, 111, 99, 107]⟩, .string ⟨#[114, 101, 108, 101, 97, 115, 101]⟩, .string ⟨#[105, 102]⟩, .string ⟨#[102, 111, 114]⟩, .string ⟨#[108, 101, 116]⟩, .string ⟨#[101, 109, 105, 116]⟩, .string ⟨#[114, 111, 108, 108, 98, 97, 99, 107]⟩, .string ⟨#[99, 104, 111, 112]⟩] 9) = w1 at *
  generalize w.heap.size = g at *
  go_loopw [4] (fun i' wr => ∃ (k : Nat), k ≤ 13 ∧ i' = .int .i64 k ∧ Hid (∀ j (hj : j < formsL.length), j < k → (formsL[j].1 == t) = false) ∧ wr = w1) (fun i' _ => 13 - (intOf i').toNat)
  case atStart => exact ⟨0, Nat.zero_le _, rfl, Lib.hid (fun j hj h => absurd h (by omega)), rfl⟩
  case round =>
    obtain ⟨k, hk, rfl, HNO, rfl⟩ := hrel
    obtain ⟨wa, rfl⟩ : ∃ wa : World, wa = wr := ⟨_, rfl⟩
    by_cases hlt : k < 13
    · have d0 : decide ((k : Int) < 13) = true := decide_eq_true (by omega)
      have q1 : (k : Int) < 13 := by omega
      have hlf : k < formsL.length := hlt
      have c0 : wa.cell? ⟨g, k, none⟩ = some (.string (bstr formsL[k].1)) := by rw [HC.out.cell k]; simp [hlf]
      cases hi : formsL[k].1 == t with
      | true =>
        have HR := Lib.hid (kind_yes t k hlf HNO.out hi)
        have hbb : ((bstr formsL[k].1).toList == (bstr t).toList) = true := by simp only [bstr_toList]; exact hi
        clear hi
        generalize formsL[k].1 = tk at *
        go_wp2_with fail
        go_ret
        exact ⟨by rw [HR.out]; simp; omega, HX.out⟩
      | false =>
        have HI := Lib.hid hi
        have hbb : ((bstr formsL[k].1).toList == (bstr t).toList) = false := by simp only [bstr_toList]; exact hi
        have HN2 : Hid (∀ j (hj : j < formsL.length), j < k + 1 → (formsL[j].1 == t) = false) := Lib.hid fun j hj hjk => by
          rcases Nat.lt_or_ge j k with h | h
          · exact HNO.out j hj h
          · obtain rfl : j = k := by omega
            exact HI.out
        clear hi
        generalize formsL[k].1 = tk at *
        go_wp2_with fail
        go_roundw
        case rel => exact ⟨k + 1, by omega, by go_num, HN2, by first | rfl | trivial⟩
        case measure => simp [intOf]; omega
    · obtain rfl : k = 13 := by omega
      have d0 : decide ((13 : Int) < 13) = false := by decide
      have HR := Lib.hid (kind_no t fun j hj => HNO.out j hj hj)
      go_wp2_with fail
      go_ret
      exact ⟨by rw [HR.out]; rfl, HX.out⟩
def CallsST (f : Nat) : Prop := ∀ (w : World) (p B : Nat) (r : Rs) (R : QRep) (i : Nat), QS w p B r R → r.s.ts.length ≤ f → i < r.s.nd.length → r.phi ≤ 1000000 →
  Calls Tryz.prog 87 #[.pointer (some ⟨p, 0, none⟩), .int .i64 (i : Int)] w fun e w' => e = .returned (.tuple #[]) ∧ PostQ w p B R (stmtR f i r) w'
def measQ (p : Nat) (w : World) : Nat := 2 * lenQ p w + match w.cell? ⟨p, 4, none⟩ with
  | some (.int _ e) => if e = 0 then 1 else 0
  | _ => 0
theorem QS.measQ {w : World} {p B : Nat} {r : Rs} {R : QRep} (h : QS w p B r R) : measQ p w = 2 * r.s.ts.length + if r.e = 0 then 1 else 0 := by
  unfold Proofs.YtcccnicldbpieaaGreatDoor.measQ
  rw [h.lenQ, h.x4]
theorem stmt_less (f i : Nat) (r : Rs) (g : RGood r) (h0 : r.e = 0) (hl : r.s.ts.length ≤ f) : (stmtR f i r).e ≠ 0 ∨ (stmtR f i r).s.ts.length < r.s.ts.length := by
  cases f with
  | zero => exact absurd g.last.pos (by omega)
  | succ f =>
    unfold stmtR
    by_cases hk : r.s.hd.kind = 1
    · rw [if_pos hk]
      cases formOf r.s.hd.text with
      | none => exact .inl (fail_err r)
      | some k =>
        have a := rl_kidNode g i k
        have hk4 : (r.kidNode i k).s.hd.kind ≠ 4 := by show r.s.hd.kind ≠ 4; omega
        have b := rl_adv a.good hk4
        have c := (gro_reads (gro_stmt f) k r.s.nd.length _ b.good)
        have d := a.good.last.len hk4
        have e : (r.kidNode i k).s.ts.length = r.s.ts.length := rfl
        have d' : (r.kidNode i k).adv.s.ts.length < (r.kidNode i k).s.ts.length := d
        right
        dsimp only
        split
        · have := c.ts; omega
        · have h1 := c.ts; have h2 := (gro_take [59] _ c.good).ts; omega
    · rw [if_neg hk]
      exact .inl (fail_err r)
theorem untilR_end {ST : Nat → Rs → Rs} {i f : Nat} {r : Rs} (h : r.is [125] = true) : untilR ST i f r = r := by
  cases f with
  | zero => rfl
  | succ f => rw [untilR, h, Bool.not_true, Bool.and_false, if_neg (by decide)]
theorem untilR_go {ST : Nat → Rs → Rs} {i f : Nat} {r : Rs} (h0 : r.e = 0) (h : r.is [125] = false) : untilR ST i (f + 1) r = untilR ST i f (ST i r) := by rw [untilR, h, h0]; rfl
theorem blockR_no {ST : Nat → Rs → Rs} {i : Nat} {r : Rs} (h : (r.kidNode i 6).is [123] = false) : blockR ST i r = (r.kidNode i 6).fail 50 := by unfold blockR; dsimp only; rw [h, if_neg (by decide)]
theorem blockR_deep {ST : Nat → Rs → Rs} {i : Nat} {r : Rs} (h : (r.kidNode i 6).is [123] = true) (h2 : ¬ (r.kidNode i 6).inn.e = 0) : blockR ST i r = (r.kidNode i 6).inn.fail 50 := by unfold blockR; dsimp only; rw [if_pos h, if_neg h2]
theorem blockR_in {ST : Nat → Rs → Rs} {i : Nat} {r : Rs} (h : (r.kidNode i 6).is [123] = true) (h2 : (r.kidNode i 6).inn.e = 0) : blockR ST i r = (takeR [125] (untilR ST r.s.nd.length ((r.kidNode i 6).inn.adv.s.ts.length + 1) (r.kidNode i 6).inn.adv)).out := by unfold blockR; dsimp only; rw [if_pos h, if_pos h2]
theorem lessR_yes {i : Nat} {r : Rs} (h : r.is [61, 61] = true) : lessR i r = (r.num i 1).adv := by unfold lessR; rw [if_pos h]
theorem lessR_no {i : Nat} {r : Rs} (h : r.is [61, 61] = false) : lessR i r = takeR [60] r := by unfold lessR; rw [if_neg (by rw [h]; decide)]
theorem elseR_yes {ST : Nat → Rs → Rs} {i : Nat} {r : Rs} (h : r.is [101, 108, 115, 101] = true) : elseR ST i r = blockR ST i r.adv := by unfold elseR; rw [if_pos h]
theorem elseR_no {ST : Nat → Rs → Rs} {i : Nat} {r : Rs} (h : r.is [101, 108, 115, 101] = false) : elseR ST i r = r := by unfold elseR; rw [if_neg (by rw [h]; decide)]
/-- What holds ahead of a round of a block. -/
def BlkJ (w : World) (p B : Nat) (R : QRep) (r : Rs) (f n : Nat) (q0 : Rs) (wr : World) : Prop :=
  ∃ (q : Rs) (R' : QRep) (f' : Nat), Hid (RanQ w p B R r wr R' q (-10)) ∧ Hid (q.e = 0 → q.s.ts.length < f') ∧ Hid (untilR (stmtR f) n (q0.s.ts.length + 1) q0 = untilR (stmtR f) n f' q) ∧ Hid (q0.s.nd.length ≤ q.s.nd.length ∧ q0.s.deep ≤ q.s.deep)
set_option maxRecDepth 100000 in
set_option maxHeartbeats 8000000 in
theorem qblock_of (w : World) (p B : Nat) (r : Rs) (R : QRep) (f : Nat) (hst : CallsST f) (i : Nat) (h : QS w p B r R) (hi : i < r.s.nd.length) (hb : r.phi ≤ 1000010) (hl : r.s.ts.length ≤ f) :
    Calls Tryz.prog 57 #[.pointer (some ⟨p, 0, none⟩), .int .i64 (i : Int)] w fun e w' => e = .returned (.tuple #[]) ∧ PostQ w p B R (blockR (stmtR f) i r) w' := by
  have HB := Lib.hid hb
  have HI := Lib.hid hi
  have H0 := Lib.hid (RanQ.refl h)
  clear h hb hi
  have HN1 : Hid (r.s.nd.length < (r.kidNode i 6).s.nd.length) := Lib.hid (by rw [show (r.kidNode i 6).s.nd.length = r.s.nd.length + 1 from kidNode_len r.s i 6]; omega)
  cases hc : (r.kidNode i 6).is [123] with
  | false =>
    have HC := Lib.hid hc
    clear hc
    have HR := Lib.hid (blockR_no (ST := stmtR f) HC.out)
    go_enter Tryz.func57, Tryz.ntmps57
    go_wp2_with fail
    refine (qkid_any _ p B _ R (i) H0.out.qs (HI.out) (nd_le (H0.out.bound HB.out (by omega)))).mono ?_
    rintro e w1a ⟨rfl, R1a, hk, hm⟩
    have HK := Lib.hid (And.intro hk hm)
    clear hk hm
    go_wp2_with fail
    refine (qnode_kid _ p B _ R1a (i) 6 HK.out.1 (H0.out.bound HB.out (by omega))).mono ?_
    rintro e w1 ⟨rfl, hp⟩
    obtain ⟨R1, H1⟩ := RanQ.kidNode H0 HK hp
    clear hp HK
    go_wp2_with fail
    refine (qis_any _ p B _ R1 [123] false (HC) H1.out.qs).mono ?_
    rintro e _ ⟨rfl, m, rfl⟩
    have H2 := RanQ.drew H1 m
    generalize w1.drewN m = w2 at *
    go_wp2_with fail
    refine (qfail_any _ p B _ R1 50 (by decide) H2.out.qs).mono ?_
    rintro e w3 ⟨rfl, hp⟩
    obtain ⟨R3, H3⟩ := RanQ.goL H2 (rl_fail H2.out.qs.good 50) hp
    clear hp
    go_wp2_with fail
    refine bodyPost_ret (results_none rfl _ _ _) rfl ?_
    rw [HR.out]
    exact ⟨rfl, H3.out.post⟩
  | true =>
    have HC := Lib.hid hc
    clear hc
    have HE := Lib.hid (ris_kind HC.out).2
    have HK4 := Lib.hid (ris_kind HC.out).1
    by_cases hin : (r.kidNode i 6).inn.e = 0
    · have HIN := Lib.hid hin
      have HR := Lib.hid (blockR_in (ST := stmtR f) HC.out hin)
      clear hin
      go_enter Tryz.func57, Tryz.ntmps57
      go_wp2_with fail
      refine (qkid_any _ p B _ R (i) H0.out.qs (HI.out) (nd_le (H0.out.bound HB.out (by omega)))).mono ?_
      rintro e w1a ⟨rfl, R1a, hk, hm⟩
      have HK := Lib.hid (And.intro hk hm)
      clear hk hm
      go_wp2_with fail
      refine (qnode_kid _ p B _ R1a (i) 6 HK.out.1 (H0.out.bound HB.out (by omega))).mono ?_
      rintro e w1 ⟨rfl, hp⟩
      obtain ⟨R1, H1⟩ := RanQ.kidNode H0 HK hp
      clear hp HK
      go_wp2_with fail
      refine (qis_any _ p B _ R1 [123] true (HC) H1.out.qs).mono ?_
      rintro e _ ⟨rfl, m, rfl⟩
      have H2 := RanQ.drew H1 m
      generalize w1.drewN m = w2 at *
      go_wp2_with fail
      refine (qinn_any _ p B _ R1 HE.out true (Lib.hid (by rw [HIN.out]; rfl)) H2.out.qs).mono ?_
      rintro e w3 ⟨rfl, hp⟩
      obtain ⟨R3, H3⟩ := RanQ.goL H2 (rl_inn H2.out.qs.good HE.out) hp
      clear hp
      have x1 := H3.out.qs.x1
      have hf1 := H3.out.qs.blk.frozen 1
      have hfew := H3.out.qs.few
      have hpos := H3.out.qs.good.last.pos
      go_wp2_with fail
      have H4 := RanQ.adv H3 (by rw [hd_ts (inn_s (r.kidNode i 6)).1]; exact HK4.out)
      clear x1 hf1 hfew hpos
      generalize w3.setCell ⟨p, 1, none⟩ (.int .i64 ((R3.I : Int) + 1)) = w4 at *
      generalize { R3 with I := R3.I + 1 } = R4 at *
      have HJ := RanQ.le (d := -10) H4 (by decide)
      have HTS : Hid ((r.kidNode i 6).inn.adv.s.ts.length ≤ r.s.ts.length) := Lib.hid H4.out.lt.ts
      have HNL : Hid (r.s.nd.length < (r.kidNode i 6).inn.adv.s.nd.length) := Lib.hid (by rw [show (r.kidNode i 6).inn.adv.s.nd = (r.kidNode i 6).s.nd from (inn_s (r.kidNode i 6)).2]; exact HN1.out)
      have HDI : Hid ((r.kidNode i 6).inn.adv.s.deep = r.s.deep + 1) := Lib.hid (inn_deep (r.kidNode i 6))
      go_loopw [] (fun wr => BlkJ w p B R r f r.s.nd.length (r.kidNode i 6).inn.adv wr) (fun wr => measQ p wr)
      case atStart => exact ⟨_, _, _, HJ, Lib.hid (fun _ => Nat.lt_succ_self _), Lib.hid rfl, Lib.hid ⟨Nat.le_refl _, Nat.le_refl _⟩⟩
      case round =>
        obtain ⟨q, Rq, f', Hq0, HF, HEQ, HND⟩ := hrel
        obtain ⟨wq, rfl⟩ : ∃ wa : World, wa = wr := ⟨_, rfl⟩
        have HLM : Hid (measQ p wq = 2 * q.s.ts.length + if q.e = 0 then 1 else 0) := Lib.hid Hq0.out.qs.measQ
        have x4 := Hq0.out.qs.x4
        by_cases he : q.e = 0
        · have HE0 := Lib.hid he
          rw [he] at x4
          clear he
          obtain ⟨f'', rfl⟩ : ∃ n, f' = n + 1 := ⟨f' - 1, by have := HF.out HE0.out; omega⟩
          cases hq : q.is [125] with
          | true =>
            have HQ := Lib.hid hq
            have HU : Hid (untilR (stmtR f) r.s.nd.length ((r.kidNode i 6).inn.adv.s.ts.length + 1) (r.kidNode i 6).inn.adv = q) := Lib.hid (HEQ.out.trans (untilR_end hq))
            clear hq
            go_wp2_with fail
            have H50 := Hq0
            refine (qis_any _ p B _ Rq [125] true (HQ) H50.out.qs).mono ?_
            rintro e _ ⟨rfl, m, rfl⟩
            have H51 := RanQ.drew H50 m
            generalize wq.drewN m = w51 at *
            go_wp2_with fail
            clear x4
            refine (qtake_any _ p B _ Rq [125] H51.out.qs).mono ?_
            rintro e w52 ⟨rfl, hp⟩
            obtain ⟨R52, H52⟩ := RanQ.go H51 (gro_take [125]) hp
            clear hp
            have x2 := H52.out.qs.x2
            have hf2 := H52.out.qs.blk.frozen 2
            have hdp := H52.out.qs.good.deep
            have HDP : Hid (1 ≤ Ps.deep (Rs.s (takeR [125] q))) := Lib.hid (by have h1 := up_take [125] q; have h2 := HND.out.2; have h3 := HDI.out; omega)
            have hdq := HDP.out
            go_wp2_with fail
            have H53 := RanQ.out (v := .int .i64 ((Ps.deep (Rs.s (takeR [125] q)) : Int) - 1)) H52 (by show _ = Value.int .i64 ((Ps.deep (Rs.s (takeR [125] q)) - 1 : Nat) : Int); rw [Int.ofNat_sub HDP.out]; rfl)
            clear x2 hf2 hdp hdq
            go_end0
            rw [HR.out, HU.out]
            exact ⟨rfl, H53.out.post⟩
          | false =>
            have HQ := Lib.hid hq
            have HEQ2 : Hid (untilR (stmtR f) r.s.nd.length ((r.kidNode i 6).inn.adv.s.ts.length + 1) (r.kidNode i 6).inn.adv = untilR (stmtR f) r.s.nd.length f'' (stmtR f r.s.nd.length q)) := Lib.hid (HEQ.out.trans (untilR_go HE0.out hq))
            clear hq
            go_wp2_with fail
            refine (qis_any _ p B q Rq [125] false HQ Hq0.out.qs).mono ?_
            rintro e _ ⟨rfl, m, rfl⟩
            have Hq1 := RanQ.drew Hq0 m
            generalize wq.drewN m = wq1 at *
            clear x4
            go_wp2_with fail
            refine (hst wq1 p B q Rq r.s.nd.length Hq1.out.qs (Nat.le_trans Hq1.out.lt.ts hl) (Nat.lt_of_lt_of_le HNL.out HND.out.1) (Hq1.out.bound HB.out (by omega))).mono ?_
            rintro e wq2 ⟨rfl, hp⟩
            have HLESS := Lib.hid (stmt_less f r.s.nd.length q Hq1.out.qs.good HE0.out (Nat.le_trans Hq1.out.lt.ts hl))
            have HGR := Lib.hid (gro_stmt f r.s.nd.length q Hq1.out.qs.good)
            have HUP := Lib.hid (up_stmt f r.s.nd.length q)
            obtain ⟨Rq2, Hq2⟩ := RanQ.go Hq1 (gro_stmt f r.s.nd.length) hp
            clear hp
            have HR2 := RanQ.le (d := -10) Hq2 (by decide)
            have HM2 : Hid (measQ p wq2 < measQ p wq) := Lib.hid (by
              rw [HLM.out, HR2.out.qs.measQ, if_pos HE0.out]
              have h1 := HGR.out.ts
              rcases HLESS.out with h | h
              · rw [if_neg h]; omega
              · split <;> omega)
            have HFF : Hid ((stmtR f r.s.nd.length q).e = 0 → (stmtR f r.s.nd.length q).s.ts.length < f'') := Lib.hid fun h => by
              have h1 := HF.out HE0.out
              rcases HLESS.out with h2 | h2
              · exact absurd h h2
              · omega
            have HNN : Hid ((r.kidNode i 6).inn.adv.s.nd.length ≤ (stmtR f r.s.nd.length q).s.nd.length ∧ (r.kidNode i 6).inn.adv.s.deep ≤ (stmtR f r.s.nd.length q).s.deep) := Lib.hid ⟨Nat.le_trans HND.out.1 HGR.out.nd, Nat.le_trans HND.out.2 HUP.out⟩
            go_wp2_with fail
            go_roundw
            case rel => exact ⟨_, _, f'', HR2, HFF, HEQ2, HNN⟩
            case measure => exact HM2.out
        · have HU : Hid (untilR (stmtR f) r.s.nd.length ((r.kidNode i 6).inn.adv.s.ts.length + 1) (r.kidNode i 6).inn.adv = q) := Lib.hid (HEQ.out.trans (untilR_dead _ _ _ he))
          have g1 : (q.e == 0) = false := beq_eq_false_iff_ne.2 he
          go_wp2_with fail
          have H50 := Hq0
          clear x4 g1 he
          refine (qtake_any _ p B _ Rq [125] H50.out.qs).mono ?_
          rintro e w51 ⟨rfl, hp⟩
          obtain ⟨R51, H51⟩ := RanQ.go H50 (gro_take [125]) hp
          clear hp
          have x2 := H51.out.qs.x2
          have hf2 := H51.out.qs.blk.frozen 2
          have hdp := H51.out.qs.good.deep
          have HDP : Hid (1 ≤ Ps.deep (Rs.s (takeR [125] q))) := Lib.hid (by have h1 := up_take [125] q; have h2 := HND.out.2; have h3 := HDI.out; omega)
          have hdq := HDP.out
          go_wp2_with fail
          have H52 := RanQ.out (v := .int .i64 ((Ps.deep (Rs.s (takeR [125] q)) : Int) - 1)) H51 (by show _ = Value.int .i64 ((Ps.deep (Rs.s (takeR [125] q)) - 1 : Nat) : Int); rw [Int.ofNat_sub HDP.out]; rfl)
          clear x2 hf2 hdp hdq
          go_end0
          rw [HR.out, HU.out]
          exact ⟨rfl, H52.out.post⟩
    · have HIN := Lib.hid hin
      have HR := Lib.hid (blockR_deep (ST := stmtR f) HC.out hin)
      clear hin
      go_enter Tryz.func57, Tryz.ntmps57
      go_wp2_with fail
      refine (qkid_any _ p B _ R (i) H0.out.qs (HI.out) (nd_le (H0.out.bound HB.out (by omega)))).mono ?_
      rintro e w1a ⟨rfl, R1a, hk, hm⟩
      have HK := Lib.hid (And.intro hk hm)
      clear hk hm
      go_wp2_with fail
      refine (qnode_kid _ p B _ R1a (i) 6 HK.out.1 (H0.out.bound HB.out (by omega))).mono ?_
      rintro e w1 ⟨rfl, hp⟩
      obtain ⟨R1, H1⟩ := RanQ.kidNode H0 HK hp
      clear hp HK
      go_wp2_with fail
      refine (qis_any _ p B _ R1 [123] true (HC) H1.out.qs).mono ?_
      rintro e _ ⟨rfl, m, rfl⟩
      have H2 := RanQ.drew H1 m
      generalize w1.drewN m = w2 at *
      go_wp2_with fail
      refine (qinn_any _ p B _ R1 HE.out false (Lib.hid (by exact beq_eq_false_iff_ne.2 HIN.out)) H2.out.qs).mono ?_
      rintro e w3 ⟨rfl, hp⟩
      obtain ⟨R3, H3⟩ := RanQ.goL H2 (rl_inn H2.out.qs.good HE.out) hp
      clear hp
      go_wp2_with fail
      refine (qfail_any _ p B _ R3 50 (by decide) H3.out.qs).mono ?_
      rintro e w4 ⟨rfl, hp⟩
      obtain ⟨R4, H4⟩ := RanQ.goL H3 (rl_fail H3.out.qs.good 50) hp
      clear hp
      go_wp2_with fail
      refine bodyPost_ret (results_none rfl _ _ _) rfl ?_
      rw [HR.out]
      exact ⟨rfl, H4.out.post⟩
set_option maxRecDepth 100000 in
set_option maxHeartbeats 4000000 in
theorem qbranch_yes_yes (w : World) (p B : Nat) (r : Rs) (R : QRep) (f : Nat) (hst : CallsST f) (i : Nat) (h : QS w p B r R) (hi : i < r.s.nd.length) (hb : r.phi ≤ 1000000) (hl : r.s.ts.length ≤ f) (h1 : (exprR i r).is [61, 61] = true) (h2 : (blockR (stmtR f) i (exprR i (((exprR i r).num i 1).adv))).is [101, 108, 115, 101] = true) :
    Calls Tryz.prog 113 #[.pointer (some ⟨p, 0, none⟩), .int .i64 (i : Int)] w fun e w' => e = .returned (.tuple #[]) ∧ PostQ w p B R (branchR (stmtR f) i r) w' := by
  have HB := Lib.hid hb
  have HI := Lib.hid hi
  have H0 := Lib.hid (RanQ.refl h)
  clear h hb hi
  have H1 := Lib.hid h1
  have H2 := Lib.hid h2
  have HL1 := Lib.hid (lessR_yes (i := i) h1)
  have HL2 := Lib.hid (elseR_yes (ST := stmtR f) (i := i) h2)
  have HR : Hid (branchR (stmtR f) i r = elseR (stmtR f) i (blockR (stmtR f) i (exprR i (((exprR i r).num i 1).adv)))) := Lib.hid (by unfold branchR; rw [HL1.out])
  clear h1 h2
  have HC1 := H1
  have HC2 := H2
  clear H1 H2
  go_enter Tryz.func113, Tryz.ntmps113
  go_wp2_with fail
  refine (qexpr_any _ p B _ R i H0.out.qs (H0.out.idx HI.out) (H0.out.bound HB.out (by omega))).mono ?_
  rintro e w1 ⟨rfl, hp⟩
  obtain ⟨R1, H1⟩ := RanQ.go H0 (gro_expr i) hp
  clear hp
  go_wp2_with fail
  refine (qis_any _ p B _ R1 [61, 61] true (HC1) H1.out.qs).mono ?_
  rintro e _ ⟨rfl, m, rfl⟩
  have H2 := RanQ.drew H1 m
  generalize w1.drewN m = w2 at *
  obtain ⟨g2, hi2, hA, hgl2, hgp2⟩ := H2.out.qs.node_at (i := i) (H2.out.idx HI.out)
  have x3 := H2.out.qs.x3 hA
  have HA2 := Lib.hid hA
  have q0 : (0 : Int) ≤ ((i : Nat) : Int) := Int.natCast_nonneg _
  have q1 : ((i : Nat) : Int) < (R1.nh.length : Int) := by omega
  clear hA
  have c3 : w2.cell? ⟨g2, i * 5 + 3, none⟩ = some (.int .i64 (R1.nh[i]'hi2).1.num) := (H2.out.qs.nodeCell _ hi2 HA2.out 3 (by decide))
  have z3 := H2.out.qs.nthaw (i * 5 + 3) HA2.out
  go_upto_region 3 with fail
  obtain ⟨R3, H3⟩ := RanQ.num (i := i) (g := g2) H2 (1) hi2 HA2.out
  clear c3 z3 x3 q0 q1
  generalize w2.setCell ⟨g2, i * 5 + 3, none⟩ (.int .i64 (1)) = w3 at *
  have x1 := H3.out.qs.x1
  have hf1 := H3.out.qs.blk.frozen 1
  have hfew := H3.out.qs.few
  have hpos := H3.out.qs.good.last.pos
  go_wp2_with fail
  have H4 := RanQ.adv H3 ((ris_kind HC1.out).1)
  clear x1 hf1 hfew hpos
  generalize w3.setCell ⟨p, 1, none⟩ (.int .i64 ((R3.I : Int) + 1)) = w4 at *
  generalize { R3 with I := R3.I + 1 } = R4 at *
  refine (qexpr_any _ p B _ R4 i H4.out.qs (H4.out.idx HI.out) (H4.out.bound HB.out (by omega))).mono ?_
  rintro e w5 ⟨rfl, hp⟩
  obtain ⟨R5, H5⟩ := RanQ.go H4 (gro_expr i) hp
  clear hp
  go_wp2_with fail
  refine (qblock_of _ p B _ R5 f hst i H5.out.qs (H5.out.idx HI.out) (H5.out.bound HB.out (by omega)) (Nat.le_trans H5.out.lt.ts hl)).mono ?_
  rintro e w6 ⟨rfl, hp⟩
  obtain ⟨R6, H6⟩ := RanQ.go H5 (gro_block (gro_stmt f) i) hp
  clear hp
  go_wp2_with fail
  refine (qis_any _ p B _ R6 [101, 108, 115, 101] true (HC2) H6.out.qs).mono ?_
  rintro e _ ⟨rfl, m, rfl⟩
  have H7 := RanQ.drew H6 m
  generalize w6.drewN m = w7 at *
  have x1 := H7.out.qs.x1
  have hf1 := H7.out.qs.blk.frozen 1
  have hfew := H7.out.qs.few
  have hpos := H7.out.qs.good.last.pos
  go_wp2_with fail
  have H8 := RanQ.adv H7 ((ris_kind HC2.out).1)
  clear x1 hf1 hfew hpos
  generalize w7.setCell ⟨p, 1, none⟩ (.int .i64 ((R6.I : Int) + 1)) = w8 at *
  generalize { R6 with I := R6.I + 1 } = R8 at *
  refine (qblock_of _ p B _ R8 f hst i H8.out.qs (H8.out.idx HI.out) (H8.out.bound HB.out (by omega)) (Nat.le_trans H8.out.lt.ts hl)).mono ?_
  rintro e w9 ⟨rfl, hp⟩
  obtain ⟨R9, H9⟩ := RanQ.go H8 (gro_block (gro_stmt f) i) hp
  clear hp
  go_wp2_with fail
  go_end0
  rw [HR.out, HL2.out]
  exact ⟨rfl, H9.out.post⟩
set_option maxRecDepth 100000 in
set_option maxHeartbeats 4000000 in
theorem qbranch_yes_no (w : World) (p B : Nat) (r : Rs) (R : QRep) (f : Nat) (hst : CallsST f) (i : Nat) (h : QS w p B r R) (hi : i < r.s.nd.length) (hb : r.phi ≤ 1000000) (hl : r.s.ts.length ≤ f) (h1 : (exprR i r).is [61, 61] = true) (h2 : (blockR (stmtR f) i (exprR i (((exprR i r).num i 1).adv))).is [101, 108, 115, 101] = false) :
    Calls Tryz.prog 113 #[.pointer (some ⟨p, 0, none⟩), .int .i64 (i : Int)] w fun e w' => e = .returned (.tuple #[]) ∧ PostQ w p B R (branchR (stmtR f) i r) w' := by
  have HB := Lib.hid hb
  have HI := Lib.hid hi
  have H0 := Lib.hid (RanQ.refl h)
  clear h hb hi
  have H1 := Lib.hid h1
  have H2 := Lib.hid h2
  have HL1 := Lib.hid (lessR_yes (i := i) h1)
  have HL2 := Lib.hid (elseR_no (ST := stmtR f) (i := i) h2)
  have HR : Hid (branchR (stmtR f) i r = elseR (stmtR f) i (blockR (stmtR f) i (exprR i (((exprR i r).num i 1).adv)))) := Lib.hid (by unfold branchR; rw [HL1.out])
  clear h1 h2
  have HC1 := H1
  have HC2 := H2
  clear H1 H2
  go_enter Tryz.func113, Tryz.ntmps113
  go_wp2_with fail
  refine (qexpr_any _ p B _ R i H0.out.qs (H0.out.idx HI.out) (H0.out.bound HB.out (by omega))).mono ?_
  rintro e w1 ⟨rfl, hp⟩
  obtain ⟨R1, H1⟩ := RanQ.go H0 (gro_expr i) hp
  clear hp
  go_wp2_with fail
  refine (qis_any _ p B _ R1 [61, 61] true (HC1) H1.out.qs).mono ?_
  rintro e _ ⟨rfl, m, rfl⟩
  have H2 := RanQ.drew H1 m
  generalize w1.drewN m = w2 at *
  obtain ⟨g2, hi2, hA, hgl2, hgp2⟩ := H2.out.qs.node_at (i := i) (H2.out.idx HI.out)
  have x3 := H2.out.qs.x3 hA
  have HA2 := Lib.hid hA
  have q0 : (0 : Int) ≤ ((i : Nat) : Int) := Int.natCast_nonneg _
  have q1 : ((i : Nat) : Int) < (R1.nh.length : Int) := by omega
  clear hA
  have c3 : w2.cell? ⟨g2, i * 5 + 3, none⟩ = some (.int .i64 (R1.nh[i]'hi2).1.num) := (H2.out.qs.nodeCell _ hi2 HA2.out 3 (by decide))
  have z3 := H2.out.qs.nthaw (i * 5 + 3) HA2.out
  go_upto_region 3 with fail
  obtain ⟨R3, H3⟩ := RanQ.num (i := i) (g := g2) H2 (1) hi2 HA2.out
  clear c3 z3 x3 q0 q1
  generalize w2.setCell ⟨g2, i * 5 + 3, none⟩ (.int .i64 (1)) = w3 at *
  have x1 := H3.out.qs.x1
  have hf1 := H3.out.qs.blk.frozen 1
  have hfew := H3.out.qs.few
  have hpos := H3.out.qs.good.last.pos
  go_wp2_with fail
  have H4 := RanQ.adv H3 ((ris_kind HC1.out).1)
  clear x1 hf1 hfew hpos
  generalize w3.setCell ⟨p, 1, none⟩ (.int .i64 ((R3.I : Int) + 1)) = w4 at *
  generalize { R3 with I := R3.I + 1 } = R4 at *
  refine (qexpr_any _ p B _ R4 i H4.out.qs (H4.out.idx HI.out) (H4.out.bound HB.out (by omega))).mono ?_
  rintro e w5 ⟨rfl, hp⟩
  obtain ⟨R5, H5⟩ := RanQ.go H4 (gro_expr i) hp
  clear hp
  go_wp2_with fail
  refine (qblock_of _ p B _ R5 f hst i H5.out.qs (H5.out.idx HI.out) (H5.out.bound HB.out (by omega)) (Nat.le_trans H5.out.lt.ts hl)).mono ?_
  rintro e w6 ⟨rfl, hp⟩
  obtain ⟨R6, H6⟩ := RanQ.go H5 (gro_block (gro_stmt f) i) hp
  clear hp
  go_wp2_with fail
  refine (qis_any _ p B _ R6 [101, 108, 115, 101] false (HC2) H6.out.qs).mono ?_
  rintro e _ ⟨rfl, m, rfl⟩
  have H7 := RanQ.drew H6 m
  generalize w6.drewN m = w7 at *
  go_wp2_with fail
  go_end0
  rw [HR.out, HL2.out]
  exact ⟨rfl, H7.out.post⟩
set_option maxRecDepth 100000 in
set_option maxHeartbeats 4000000 in
theorem qbranch_no_yes (w : World) (p B : Nat) (r : Rs) (R : QRep) (f : Nat) (hst : CallsST f) (i : Nat) (h : QS w p B r R) (hi : i < r.s.nd.length) (hb : r.phi ≤ 1000000) (hl : r.s.ts.length ≤ f) (h1 : (exprR i r).is [61, 61] = false) (h2 : (blockR (stmtR f) i (exprR i (takeR [60] (exprR i r)))).is [101, 108, 115, 101] = true) :
    Calls Tryz.prog 113 #[.pointer (some ⟨p, 0, none⟩), .int .i64 (i : Int)] w fun e w' => e = .returned (.tuple #[]) ∧ PostQ w p B R (branchR (stmtR f) i r) w' := by
  have HB := Lib.hid hb
  have HI := Lib.hid hi
  have H0 := Lib.hid (RanQ.refl h)
  clear h hb hi
  have H1 := Lib.hid h1
  have H2 := Lib.hid h2
  have HL1 := Lib.hid (lessR_no (i := i) h1)
  have HL2 := Lib.hid (elseR_yes (ST := stmtR f) (i := i) h2)
  have HR : Hid (branchR (stmtR f) i r = elseR (stmtR f) i (blockR (stmtR f) i (exprR i (takeR [60] (exprR i r))))) := Lib.hid (by unfold branchR; rw [HL1.out])
  clear h1 h2
  have HC1 := H1
  have HC2 := H2
  clear H1 H2
  go_enter Tryz.func113, Tryz.ntmps113
  go_wp2_with fail
  refine (qexpr_any _ p B _ R i H0.out.qs (H0.out.idx HI.out) (H0.out.bound HB.out (by omega))).mono ?_
  rintro e w1 ⟨rfl, hp⟩
  obtain ⟨R1, H1⟩ := RanQ.go H0 (gro_expr i) hp
  clear hp
  go_wp2_with fail
  refine (qis_any _ p B _ R1 [61, 61] false (HC1) H1.out.qs).mono ?_
  rintro e _ ⟨rfl, m, rfl⟩
  have H2 := RanQ.drew H1 m
  generalize w1.drewN m = w2 at *
  go_wp2_with fail
  refine (qtake_any _ p B _ R1 [60] H2.out.qs).mono ?_
  rintro e w3 ⟨rfl, hp⟩
  obtain ⟨R3, H3⟩ := RanQ.go H2 (gro_take [60]) hp
  clear hp
  go_wp2_with fail
  refine (qexpr_any _ p B _ R3 i H3.out.qs (H3.out.idx HI.out) (H3.out.bound HB.out (by omega))).mono ?_
  rintro e w4 ⟨rfl, hp⟩
  obtain ⟨R4, H4⟩ := RanQ.go H3 (gro_expr i) hp
  clear hp
  go_wp2_with fail
  refine (qblock_of _ p B _ R4 f hst i H4.out.qs (H4.out.idx HI.out) (H4.out.bound HB.out (by omega)) (Nat.le_trans H4.out.lt.ts hl)).mono ?_
  rintro e w5 ⟨rfl, hp⟩
  obtain ⟨R5, H5⟩ := RanQ.go H4 (gro_block (gro_stmt f) i) hp
  clear hp
  go_wp2_with fail
  refine (qis_any _ p B _ R5 [101, 108, 115, 101] true (HC2) H5.out.qs).mono ?_
  rintro e _ ⟨rfl, m, rfl⟩
  have H6 := RanQ.drew H5 m
  generalize w5.drewN m = w6 at *
  have x1 := H6.out.qs.x1
  have hf1 := H6.out.qs.blk.frozen 1
  have hfew := H6.out.qs.few
  have hpos := H6.out.qs.good.last.pos
  go_wp2_with fail
  have H7 := RanQ.adv H6 ((ris_kind HC2.out).1)
  clear x1 hf1 hfew hpos
  generalize w6.setCell ⟨p, 1, none⟩ (.int .i64 ((R5.I : Int) + 1)) = w7 at *
  generalize { R5 with I := R5.I + 1 } = R7 at *
  refine (qblock_of _ p B _ R7 f hst i H7.out.qs (H7.out.idx HI.out) (H7.out.bound HB.out (by omega)) (Nat.le_trans H7.out.lt.ts hl)).mono ?_
  rintro e w8 ⟨rfl, hp⟩
  obtain ⟨R8, H8⟩ := RanQ.go H7 (gro_block (gro_stmt f) i) hp
  clear hp
  go_wp2_with fail
  go_end0
  rw [HR.out, HL2.out]
  exact ⟨rfl, H8.out.post⟩
set_option maxRecDepth 100000 in
set_option maxHeartbeats 4000000 in
theorem qbranch_no_no (w : World) (p B : Nat) (r : Rs) (R : QRep) (f : Nat) (hst : CallsST f) (i : Nat) (h : QS w p B r R) (hi : i < r.s.nd.length) (hb : r.phi ≤ 1000000) (hl : r.s.ts.length ≤ f) (h1 : (exprR i r).is [61, 61] = false) (h2 : (blockR (stmtR f) i (exprR i (takeR [60] (exprR i r)))).is [101, 108, 115, 101] = false) :
    Calls Tryz.prog 113 #[.pointer (some ⟨p, 0, none⟩), .int .i64 (i : Int)] w fun e w' => e = .returned (.tuple #[]) ∧ PostQ w p B R (branchR (stmtR f) i r) w' := by
  have HB := Lib.hid hb
  have HI := Lib.hid hi
  have H0 := Lib.hid (RanQ.refl h)
  clear h hb hi
  have H1 := Lib.hid h1
  have H2 := Lib.hid h2
  have HL1 := Lib.hid (lessR_no (i := i) h1)
  have HL2 := Lib.hid (elseR_no (ST := stmtR f) (i := i) h2)
  have HR : Hid (branchR (stmtR f) i r = elseR (stmtR f) i (blockR (stmtR f) i (exprR i (takeR [60] (exprR i r))))) := Lib.hid (by unfold branchR; rw [HL1.out])
  clear h1 h2
  have HC1 := H1
  have HC2 := H2
  clear H1 H2
  go_enter Tryz.func113, Tryz.ntmps113
  go_wp2_with fail
  refine (qexpr_any _ p B _ R i H0.out.qs (H0.out.idx HI.out) (H0.out.bound HB.out (by omega))).mono ?_
  rintro e w1 ⟨rfl, hp⟩
  obtain ⟨R1, H1⟩ := RanQ.go H0 (gro_expr i) hp
  clear hp
  go_wp2_with fail
  refine (qis_any _ p B _ R1 [61, 61] false (HC1) H1.out.qs).mono ?_
  rintro e _ ⟨rfl, m, rfl⟩
  have H2 := RanQ.drew H1 m
  generalize w1.drewN m = w2 at *
  go_wp2_with fail
  refine (qtake_any _ p B _ R1 [60] H2.out.qs).mono ?_
  rintro e w3 ⟨rfl, hp⟩
  obtain ⟨R3, H3⟩ := RanQ.go H2 (gro_take [60]) hp
  clear hp
  go_wp2_with fail
  refine (qexpr_any _ p B _ R3 i H3.out.qs (H3.out.idx HI.out) (H3.out.bound HB.out (by omega))).mono ?_
  rintro e w4 ⟨rfl, hp⟩
  obtain ⟨R4, H4⟩ := RanQ.go H3 (gro_expr i) hp
  clear hp
  go_wp2_with fail
  refine (qblock_of _ p B _ R4 f hst i H4.out.qs (H4.out.idx HI.out) (H4.out.bound HB.out (by omega)) (Nat.le_trans H4.out.lt.ts hl)).mono ?_
  rintro e w5 ⟨rfl, hp⟩
  obtain ⟨R5, H5⟩ := RanQ.go H4 (gro_block (gro_stmt f) i) hp
  clear hp
  go_wp2_with fail
  refine (qis_any _ p B _ R5 [101, 108, 115, 101] false (HC2) H5.out.qs).mono ?_
  rintro e _ ⟨rfl, m, rfl⟩
  have H6 := RanQ.drew H5 m
  generalize w5.drewN m = w6 at *
  go_wp2_with fail
  go_end0
  rw [HR.out, HL2.out]
  exact ⟨rfl, H6.out.post⟩
theorem qbranch_of (w : World) (p B : Nat) (r : Rs) (R : QRep) (f : Nat) (hst : CallsST f) (i : Nat) (h : QS w p B r R) (hi : i < r.s.nd.length) (hb : r.phi ≤ 1000000) (hl : r.s.ts.length ≤ f) :
    Calls Tryz.prog 113 #[.pointer (some ⟨p, 0, none⟩), .int .i64 (i : Int)] w fun e w' => e = .returned (.tuple #[]) ∧ PostQ w p B R (branchR (stmtR f) i r) w' := by
  cases h1 : (exprR i r).is [61, 61] with
  | true =>
    cases h2 : (blockR (stmtR f) i (exprR i (((exprR i r).num i 1).adv))).is [101, 108, 115, 101] with
    | true => exact qbranch_yes_yes w p B r R f hst i h hi hb hl h1 h2
    | false => exact qbranch_yes_no w p B r R f hst i h hi hb hl h1 h2
  | false =>
    cases h2 : (blockR (stmtR f) i (exprR i (takeR [60] (exprR i r)))).is [101, 108, 115, 101] with
    | true => exact qbranch_no_yes w p B r R f hst i h hi hb hl h1 h2
    | false => exact qbranch_no_no w p B r R f hst i h hi hb hl h1 h2
set_option maxRecDepth 100000 in
set_option maxHeartbeats 4000000 in
theorem qloop_of (w : World) (p B : Nat) (r : Rs) (R : QRep) (f : Nat) (hst : CallsST f) (i : Nat) (h : QS w p B r R) (hi : i < r.s.nd.length) (hb : r.phi ≤ 1000000) (hl : r.s.ts.length ≤ f) :
    Calls Tryz.prog 114 #[.pointer (some ⟨p, 0, none⟩), .int .i64 (i : Int)] w fun e w' => e = .returned (.tuple #[]) ∧ PostQ w p B R (loopR (stmtR f) i r) w' := by
  have HB := Lib.hid hb
  have HI := Lib.hid hi
  have H0 := Lib.hid (RanQ.refl h)
  clear h hb hi
  go_enter Tryz.func114, Tryz.ntmps114
  go_wp2_with fail
  obtain ⟨g0, hi0, hA, hgl0, hgp0⟩ := H0.out.qs.node_at (i := i) (H0.out.idx HI.out)
  have x3 := H0.out.qs.x3 hA
  have HA0 := Lib.hid hA
  have q0 : (0 : Int) ≤ ((i : Nat) : Int) := Int.natCast_nonneg _
  have q1 : ((i : Nat) : Int) < (R.nh.length : Int) := by omega
  clear hA
  go_region_held3 (fun w' => w'.cell? ⟨p, 3, none⟩ = some (.slice (some ⟨g0, 0, none⟩) R.nh.length R.c))
    (first
      | assumption
      | go_keep
      | exact y1s _)
    (first
      | (go_at_call 54; refine (qname_t _ p B _ R (H0.out.qs.ext (by first | exact Ext.refl _ | exact Below.drew (Below.refl _ _)))).mono ?_; rintro e w0b ⟨rfl, I0, hq, hm⟩; have y1 : w0b.cell? ⟨p, 3, none⟩ = some (.slice (some ⟨g0, 0, none⟩) R.nh.length R.c) := hq.x3 HA0.out; have HN := Lib.hid (And.intro hq hm); have c2 : w0b.cell? ⟨g0, i * 5 + 2, none⟩ = some (.string (bstr (R.nh[i]'hi0).1.text)) := (hq.nodeCell _ hi0 HA0.out 2 (by decide)); have z2 : w0b.frozen? ⟨g0, i * 5 + 2, none⟩ = false := hq.nthaw _ HA0.out; have y1s : ∀ u, (w0b.setCell ⟨g0, i * 5 + 2, none⟩ u).cell? ⟨p, 3, none⟩ = some (.slice (some ⟨g0, 0, none⟩) R.nh.length R.c) := fun u => (World.cell?_of_block (w := w0b) (a := ⟨p, 3, none⟩) (Below.heap_setCell w0b ⟨g0, i * 5 + 2, none⟩ u p (fun e => hgp0 e.symm))).trans y1; clear hq hm)
      | (fail))
  obtain ⟨R1, H1⟩ := RanQ.named (i := i) (g := g0) H0 HN.out.1 ((Moves.ext (by first | exact Ext.refl _ | exact Below.drew (Below.refl _ _))).trans HN.out.2) hi0 HA0.out
  clear c2 z2 y1 y1s x3 q0 q1 HN
  generalize w0b.setCell ⟨g0, i * 5 + 2, none⟩ (.string (bstr (Rs.nameT r))) = w1 at *
  go_wp2_with fail
  refine (qtake_any _ p B _ R1 [61] H1.out.qs).mono ?_
  rintro e w2 ⟨rfl, hp⟩
  obtain ⟨R2, H2⟩ := RanQ.go H1 (gro_take [61]) hp
  clear hp
  go_wp2_with fail
  refine (qnumber_any _ p B _ R2 i H2.out.qs (H2.out.idx HI.out) (H2.out.bound HB.out (by omega))).mono ?_
  rintro e w3 ⟨rfl, hp⟩
  obtain ⟨R3, H3⟩ := RanQ.go H2 (gro_number i) hp
  clear hp
  go_wp2_with fail
  refine (qtake_any _ p B _ R3 [116, 111] H3.out.qs).mono ?_
  rintro e w4 ⟨rfl, hp⟩
  obtain ⟨R4, H4⟩ := RanQ.go H3 (gro_take [116, 111]) hp
  clear hp
  go_wp2_with fail
  refine (qnumber_any _ p B _ R4 i H4.out.qs (H4.out.idx HI.out) (H4.out.bound HB.out (by omega))).mono ?_
  rintro e w5 ⟨rfl, hp⟩
  obtain ⟨R5, H5⟩ := RanQ.go H4 (gro_number i) hp
  clear hp
  go_wp2_with fail
  refine (qblock_of _ p B _ R5 f hst i H5.out.qs (H5.out.idx HI.out) (H5.out.bound HB.out (by omega)) (Nat.le_trans H5.out.lt.ts hl)).mono ?_
  rintro e w6 ⟨rfl, hp⟩
  obtain ⟨R6, H6⟩ := RanQ.go H5 (gro_block (gro_stmt f) i) hp
  clear hp
  go_wp2_with fail
  go_end0
  exact ⟨rfl, H6.out.post⟩
end Go.Proofs.YtcccnicldbpieaaGreatDoor
