/- key.plain, Join, May, Must, walked: for every kind, in whatever memory; what was in memory stays. -/
import Derived.Test.YthofccoefiogiaaBase
namespace Go.Proofs.Ythofccoefiogiaa
open Go Go.RowKit
set_option linter.unusedVariables false
set_option linter.unusedSimpArgs false
/-- A kind: its sort, its number, its parameter. -/
abbrev KindD := Int × Int × Int
def KindD.val (k : KindD) : Value := .agg #[.int .u8 k.1, .int .i64 k.2.1, .int .i64 k.2.2]
def plainN (k : KindD) : KindD := if (k.1 = 0 ∧ k.2.1 = 0 ∧ k.2.2 = 0) ∨ (k.1 = 1 ∧ k.2.2 = 0) ∨ (k.1 = 2 ∧ 0 ≤ k.2.2) then k else (3, 0, 0)
theorem plainN_eq (s n p : Int) : plainN (s, n, p) = if (s = 0 ∧ n = 0 ∧ p = 0) ∨ (s = 1 ∧ p = 0) ∨ (s = 2 ∧ 0 ≤ p) then (s, n, p) else (3, 0, 0) := rfl
theorem ret_val {a : KindD} {s n p : Int} (h : a = (s, n, p)) : Ending.returned (.agg #[.int .u8 s, .int .i64 n, .int .i64 p]) = .returned a.val := by rw [h]; rfl
set_option maxHeartbeats 1000000 in
theorem plain_any (s n p : Int) (w : World) :
    Calls Try.prog 48 #[.agg #[.int .u8 s, .int .i64 n, .int .i64 p]] w fun e w' => e = .returned (plainN (s, n, p)).val ∧ Ext w w' := by
  by_cases h0 : s = 0
  · subst h0
    by_cases hz : n = 0 ∧ p = 0
    · obtain ⟨rfl, rfl⟩ := hz
      have HR : Hid (plainN (0, 0, 0) = (0, 0, 0)) := Lib.hid rfl
      go_enter Try.func48, Try.ntmps48
      go_wp2
      go_returns
      exact ⟨ret_val HR.out, (by show Below w.heap.size w _; go_grown)⟩
    · have HR : Hid (plainN (0, n, p) = (3, 0, 0)) := Lib.hid (by rw [plainN_eq, if_neg (by omega)])
      by_cases hn : n = 0
      · subst hn
        have hp : (p == 0) = false := beq_eq_false_iff_ne.2 (by omega)
        go_enter Try.func48, Try.ntmps48
        go_wp2
        go_returns
        exact ⟨ret_val HR.out, (by show Below w.heap.size w _; go_grown)⟩
      · have hn' : (n == 0) = false := beq_eq_false_iff_ne.2 hn
        go_enter Try.func48, Try.ntmps48
        go_wp2
        go_returns
        exact ⟨ret_val HR.out, (by show Below w.heap.size w _; go_grown)⟩
  have e0 : (s == 0) = false := beq_eq_false_iff_ne.2 h0
  by_cases h1 : s = 1
  · subst h1
    by_cases hp : p = 0
    · subst hp
      have HR : Hid (plainN (1, n, 0) = (1, n, 0)) := Lib.hid rfl
      go_enter Try.func48, Try.ntmps48
      go_wp2
      go_returns
      exact ⟨ret_val HR.out, (by show Below w.heap.size w _; go_grown)⟩
    · have hp' : (p == 0) = false := beq_eq_false_iff_ne.2 hp
      have HR : Hid (plainN (1, n, p) = (3, 0, 0)) := Lib.hid (by rw [plainN_eq, if_neg (by omega)])
      go_enter Try.func48, Try.ntmps48
      go_wp2
      go_returns
      exact ⟨ret_val HR.out, (by show Below w.heap.size w _; go_grown)⟩
  have e1 : (s == 1) = false := beq_eq_false_iff_ne.2 h1
  by_cases h2 : s = 2
  · subst h2
    by_cases hp : 0 ≤ p
    · have HR : Hid (plainN (2, n, p) = (2, n, p)) := Lib.hid (by rw [plainN_eq, if_pos (by omega)])
      have hp' : decide (0 ≤ p) = true := by simpa using hp
      go_enter Try.func48, Try.ntmps48
      go_wp2
      go_returns
      exact ⟨ret_val HR.out, (by show Below w.heap.size w _; go_grown)⟩
    · have HR : Hid (plainN (2, n, p) = (3, 0, 0)) := Lib.hid (by rw [plainN_eq, if_neg (by omega)])
      have hp' : decide (0 ≤ p) = false := by simpa using hp
      go_enter Try.func48, Try.ntmps48
      go_wp2
      go_returns
      exact ⟨ret_val HR.out, (by show Below w.heap.size w _; go_grown)⟩
  · have e2 : (s == 2) = false := beq_eq_false_iff_ne.2 h2
    have HR : Hid (plainN (s, n, p) = (3, 0, 0)) := Lib.hid (by rw [plainN_eq, if_neg (by omega)])
    go_enter Try.func48, Try.ntmps48
    go_wp2
    go_returns
    exact ⟨ret_val HR.out, (by show Below w.heap.size w _; go_grown)⟩
def joinK (a b : KindD) : KindD := if (plainN a).1 = 0 then plainN b else if (plainN b).1 = 0 ∨ plainN a = plainN b then plainN a else (3, 0, 0)
theorem plain_v (a v : KindD) (w : World) (h : Hid (plainN a = v)) :
    Calls Try.prog 48 #[a.val] w fun e w' => e = .returned v.val ∧ Ext w w' := by
  rw [← h.out]; exact plain_any a.1 a.2.1 a.2.2 w
theorem kind_eq (a b : KindD) : (a = b) = (a.1 = b.1 ∧ a.2.1 = b.2.1 ∧ a.2.2 = b.2.2) := by
  obtain ⟨x, y, z⟩ := a
  obtain ⟨p, q, r⟩ := b
  simp
set_option maxHeartbeats 2000000 in
theorem join_any (a b : KindD) (w : World) :
    Calls Try.prog 14 #[a.val, b.val] w fun e w' => e = .returned (joinK a b).val ∧ Ext w w' := by
  obtain ⟨x, HX⟩ : ∃ x, Hid (plainN a = x) := ⟨_, Lib.hid rfl⟩
  obtain ⟨y, HY⟩ : ∃ y, Hid (plainN b = y) := ⟨_, Lib.hid rfl⟩
  have HJ : Hid (joinK a b = if x.1 = 0 then y else if y.1 = 0 ∨ x = y then x else (3, 0, 0)) := Lib.hid (by unfold joinK; rw [HX.out, HY.out])
  obtain ⟨j, HJJ⟩ : ∃ j, Hid (joinK a b = j) := ⟨_, Lib.hid rfl⟩
  rw [HJJ.out] at HJ
  rw [HJJ.out]
  clear HJJ
  obtain ⟨sa, na, pa⟩ := a
  obtain ⟨sb, nb, pb⟩ := b
  obtain ⟨sx, nx, px⟩ := x
  obtain ⟨sy, ny, py⟩ := y
  simp only [KindD.val]
  go_enter Try.func14, Try.ntmps14
  go_wp2_with fail
  have hA : Blk (((w.alloc (.cells #[.int .u8 sa, .int .i64 na, .int .i64 pa] 23)).alloc (.cells #[.int .u8 sb, .int .i64 nb, .int .i64 pb] 23)).alloc (.cells #[.int .u8 0, .int .i64 0, .int .i64 0] 23)) w.heap.size 23 #[.int .u8 sa, .int .i64 na, .int .i64 pa] := ((Blk.new w _ _).alloc _).alloc _
  have hB : Blk (((w.alloc (.cells #[.int .u8 sa, .int .i64 na, .int .i64 pa] 23)).alloc (.cells #[.int .u8 sb, .int .i64 nb, .int .i64 pb] 23)).alloc (.cells #[.int .u8 0, .int .i64 0, .int .i64 0] 23)) (w.heap.size + 1) 23 #[.int .u8 sb, .int .i64 nb, .int .i64 pb] := by
    have := (Blk.new (w.alloc (.cells #[.int .u8 sa, .int .i64 na, .int .i64 pa] 23)) 23 #[.int .u8 sb, .int .i64 nb, .int .i64 pb]).alloc (.cells #[.int .u8 0, .int .i64 0, .int .i64 0] 23)
    simpa using this
  have hC : Blk (((w.alloc (.cells #[.int .u8 sa, .int .i64 na, .int .i64 pa] 23)).alloc (.cells #[.int .u8 sb, .int .i64 nb, .int .i64 pb] 23)).alloc (.cells #[.int .u8 0, .int .i64 0, .int .i64 0] 23)) (w.heap.size + 1 + 1) 23 #[.int .u8 0, .int .i64 0, .int .i64 0] := by
    have := Blk.new ((w.alloc (.cells #[.int .u8 sa, .int .i64 na, .int .i64 pa] 23)).alloc (.cells #[.int .u8 sb, .int .i64 nb, .int .i64 pb] 23)) 23 #[.int .u8 0, .int .i64 0, .int .i64 0]
    simpa using this
  have HEX : Hid (Ext w (((w.alloc (.cells #[.int .u8 sa, .int .i64 na, .int .i64 pa] 23)).alloc (.cells #[.int .u8 sb, .int .i64 nb, .int .i64 pb] 23)).alloc (.cells #[.int .u8 0, .int .i64 0, .int .i64 0] 23))) := Ext.trans (Ext.trans (Ext.alloc _ _) (Ext.alloc _ _)) (Ext.alloc _ _)
  generalize ((w.alloc (.cells #[.int .u8 sa, .int .i64 na, .int .i64 pa] 23)).alloc (.cells #[.int .u8 sb, .int .i64 nb, .int .i64 pb] 23)).alloc (.cells #[.int .u8 0, .int .i64 0, .int .i64 0] 23) = w1 at *
  have HA := Lib.hid hA
  have HB := Lib.hid hB
  have HC := Lib.hid hC
  clear hA hB hC
  apply wp_region_ext_tail 4 (by kernel_rfl) (by kernel_rfl) (by kernel_rfl)
  dsimp only [List.take_succ_cons, List.take_zero, List.drop_succ_cons, List.drop_zero]
  apply step_det (.agg #[.int .u8 sa, .int .i64 na, .int .i64 pa]) rfl rfl rfl
  · intro w' hw' hH
    have hb := HA.out.ext hw'
    have c0 := hb.cell 0
    have c1 := hb.cell 1
    have c2 := hb.cell 2
    clear hH
    simp [YieldsF, go_sem, c0, c1, c2]
    exact Ext.refl _
  apply step_det (.agg #[.int .u8 sx, .int .i64 nx, .int .i64 px]) rfl rfl rfl
  · intro w' hw' hH
    clear hH
    simp [YieldsF, go_sem]
    refine (plain_v (sa, na, pa) (sx, nx, px) w' HX).mono ?_
    rintro e w2 ⟨rfl, hx⟩
    exact ⟨_, rfl, rfl, hx⟩
  apply step_det (.agg #[.int .u8 sb, .int .i64 nb, .int .i64 pb]) rfl rfl rfl
  · intro w' hw' hH
    have hb := HB.out.ext hw'
    have c0 := hb.cell 0
    have c1 := hb.cell 1
    have c2 := hb.cell 2
    clear hH
    simp [YieldsF, go_sem, c0, c1, c2]
    exact Ext.refl _
  apply step_det (.agg #[.int .u8 sy, .int .i64 ny, .int .i64 py]) rfl rfl rfl
  · intro w' hw' hH
    clear hH
    simp [YieldsF, go_sem]
    refine (plain_v (sb, nb, pb) (sy, ny, py) w' HY).mono ?_
    rintro e w2 ⟨rfl, hx⟩
    exact ⟨_, rfl, rfl, hx⟩
  apply WalkF_nil
  intro w2 hw2 hH
  clear hH
  have hA2 := HA.out.ext hw2
  have hB2 := HB.out.ext hw2
  have hC2 := HC.out.ext hw2
  have HEX2 : Hid (Ext w w2) := Ext.trans HEX.out hw2
  simp only [Act.put]
  simp
  have hga : w.heap.size ≤ w.heap.size := Nat.le_refl _
  generalize hgad : w.heap.size = ga at *
  have hgb : ga ≠ ga + 1 := by omega
  have hgc : ga ≠ ga + 1 + 1 := by omega
  have HGA := Lib.hid hgad
  clear hgad
  have HC2 := Lib.hid hC2
  have HB2 := Lib.hid hB2
  refine wpList_put rfl 23 (.tmp 2) (.tmp 6) rfl ga #[.int .u8 sx, .int .i64 nx, .int .i64 px] rfl rfl 23 _ hA2 (by kernel_rfl) rfl rfl ?_
  intro w3 ht3 hA3
  have hB3 := ht3.blk HB2.out (by omega)
  have hC3 := ht3.blk HC2.out (by omega)
  have HEX3 : Hid (Ext w w3) := ht3.ext HEX2.out (by have := HGA.out; omega)
  refine wpList_put rfl 23 (.tmp 3) (.tmp 8) rfl (ga + 1) #[.int .u8 sy, .int .i64 ny, .int .i64 py] rfl rfl 23 _ hB3 (by kernel_rfl) rfl rfl ?_
  intro w4 ht4 hB4
  have hA4 := ht4.blk hA3 (by omega)
  have hC4 := ht4.blk hC3 (by omega)
  have HEX4 : Hid (Ext w w4) := ht4.ext HEX3.out (by have := HGA.out; omega)
  have a0 : w4.cell? ⟨ga, 0, none⟩ = some (.int .u8 sx) := hA4.cell 0
  have a1 : w4.cell? ⟨ga, 1, none⟩ = some (.int .i64 nx) := hA4.cell 1
  have a2 : w4.cell? ⟨ga, 2, none⟩ = some (.int .i64 px) := hA4.cell 2
  have b0 : w4.cell? ⟨ga + 1, 0, none⟩ = some (.int .u8 sy) := hB4.cell 0
  have b1 : w4.cell? ⟨ga + 1, 1, none⟩ = some (.int .i64 ny) := hB4.cell 1
  have b2 : w4.cell? ⟨ga + 1, 2, none⟩ = some (.int .i64 py) := hB4.cell 2
  have HC4 := Lib.hid hC4
  clear hA2 hB2 hC2 hw2 ht3 ht4 hA3 hB3 hC3 hB4 hA4 hC4
  simp only [Act.put]
  by_cases hx0 : sx = 0
  · subst hx0
    have HR : Hid (j = (sy, ny, py)) := Lib.hid (by rw [HJ.out, if_pos rfl])
    go_wp2_with (refine wpList_put rfl 23 (.tmp 4) (.tmp 13) rfl (ga + 1 + 1) #[.int .u8 sy, .int .i64 ny, .int .i64 py] rfl rfl 23 _ HC4.out (by kernel_rfl) rfl rfl ?_)
    intro w5 ht5 hC5
    have HEX5 : Hid (Ext w w5) := ht5.ext HEX4.out (by have := HGA.out; omega)
    have HC5 := Lib.hid hC5
    clear ht5 hC5
    go_wp2_with fail
    exact ret_row _ _ _ _ rfl rfl rfl HC5.out Try.underlying23 rfl (by kernel_rfl) ⟨ret_val HR.out, HEX5.out⟩
  have ex0 : (sx == 0) = false := beq_eq_false_iff_ne.2 hx0
  by_cases hy0 : sy = 0
  · subst hy0
    have HR : Hid (j = (sx, nx, px)) := Lib.hid (by rw [HJ.out, if_neg hx0, if_pos (.inl rfl)])
    go_wp2_with (refine wpList_put rfl 23 (.tmp 4) (.tmp 23) rfl (ga + 1 + 1) #[.int .u8 sx, .int .i64 nx, .int .i64 px] rfl rfl 23 _ HC4.out (by kernel_rfl) rfl rfl ?_)
    intro w5 ht5 hC5
    have HEX5 : Hid (Ext w w5) := ht5.ext HEX4.out (by have := HGA.out; omega)
    have HC5 := Lib.hid hC5
    clear ht5 hC5
    go_wp2_with fail
    exact ret_row _ _ _ _ rfl rfl rfl HC5.out Try.underlying23 rfl (by kernel_rfl) ⟨ret_val HR.out, HEX5.out⟩
  have ey0 : (sy == 0) = false := beq_eq_false_iff_ne.2 hy0
  by_cases hxy : sx = sy ∧ nx = ny ∧ px = py
  · obtain ⟨rfl, rfl, rfl⟩ := hxy
    have HR : Hid (j = (sx, nx, px)) := Lib.hid (by rw [HJ.out, if_neg hx0, if_pos (.inr rfl)])
    go_wp2_with (refine wpList_put rfl 23 (.tmp 4) (.tmp 23) rfl (ga + 1 + 1) #[.int .u8 sx, .int .i64 nx, .int .i64 px] rfl rfl 23 _ HC4.out (by kernel_rfl) rfl rfl ?_)
    intro w5 ht5 hC5
    have HEX5 : Hid (Ext w w5) := ht5.ext HEX4.out (by have := HGA.out; omega)
    have HC5 := Lib.hid hC5
    clear ht5 hC5
    go_wp2_with fail
    exact ret_row _ _ _ _ rfl rfl rfl HC5.out Try.underlying23 rfl (by kernel_rfl) ⟨ret_val HR.out, HEX5.out⟩
  · have HR : Hid (j = (3, 0, 0)) := Lib.hid (by
      rw [HJ.out, if_neg hx0, if_neg]
      rintro (h | h)
      · exact hy0 h
      · injection h with h1 h2
        injection h2 with h2 h3
        exact hxy ⟨h1, h2, h3⟩)
    have hcase : sx ≠ sy ∨ (sx = sy ∧ nx ≠ ny) ∨ (sx = sy ∧ nx = ny ∧ px ≠ py) := by omega
    clear hxy
    rcases hcase with h | ⟨rfl, h⟩ | ⟨rfl, rfl, h⟩
    all_goals
      have hb := beq_eq_false_iff_ne.2 h
      clear h
      go_wp2_with (refine wpList_put rfl 23 (.tmp 4) (.tmp 24) rfl (ga + 1 + 1) #[.int .u8 3, .int .i64 0, .int .i64 0] rfl rfl 23 _ HC4.out (by kernel_rfl) rfl rfl ?_)
      intro w5 ht5 hC5
      have HEX5 : Hid (Ext w w5) := ht5.ext HEX4.out (by have := HGA.out; omega)
      have HC5 := Lib.hid hC5
      clear ht5 hC5
      go_wp2_with fail
      exact ret_row _ _ _ _ rfl rfl rfl HC5.out Try.underlying23 rfl (by kernel_rfl) ⟨ret_val HR.out, HEX5.out⟩
end Go.Proofs.Ythofccoefiogiaa
