/- key.May and key.Must, walked: for any two kinds, in whatever memory; what was in memory stays. -/
import Derived.Test.YthofccoefiogiaaKey
namespace Go.Proofs.Ythofccoefiogiaa
open Go Go.RowKit
set_option linter.unusedVariables false
set_option linter.unusedSimpArgs false
def mayX (x y : KindD) (own : Bool) : Bool := !((x.1 == 1 && y.1 == 1) || (own && x.1 == 2 && y.1 == 2 && x.2.2 == y.2.2)) || (x.2.1 == y.2.1)
def mayN (a b : KindD) (own : Bool) : Bool := mayX (plainN a) (plainN b) own
def mustX (x y : KindD) (own : Bool) : Bool := (x.1 == y.1 && x.2.1 == y.2.1 && x.2.2 == y.2.2) && (x.1 == 1 || (own && x.1 == 2))
def mustN (a b : KindD) (own : Bool) : Bool := mustX (plainN a) (plainN b) own
set_option maxHeartbeats 4000000 in
theorem may_any (a b : KindD) (own : Bool) (w : World) :
    Calls Try.prog 15 #[a.val, b.val, .bool own] w fun e w' => e = .returned (.bool (mayN a b own)) ∧ Ext w w' := by
  obtain ⟨x, HX⟩ : ∃ x, Hid (plainN a = x) := ⟨_, Lib.hid rfl⟩
  obtain ⟨y, HY⟩ : ∃ y, Hid (plainN b = y) := ⟨_, Lib.hid rfl⟩
  obtain ⟨v, HVV⟩ : ∃ v, Hid (mayN a b own = v) := ⟨_, Lib.hid rfl⟩
  have HV : Hid (v = mayX x y own) := Lib.hid (by rw [← HVV.out]; unfold mayN; rw [HX.out, HY.out])
  rw [HVV.out]
  clear HVV
  obtain ⟨sa, na, pa⟩ := a
  obtain ⟨sb, nb, pb⟩ := b
  obtain ⟨sx, nx, px⟩ := x
  obtain ⟨sy, ny, py⟩ := y
  simp only [KindD.val]
  try simp only at HV
  go_enter Try.func15, Try.ntmps15
  go_wp2_with fail
  have hA : Blk ((w.alloc (.cells #[.int .u8 sa, .int .i64 na, .int .i64 pa] 23)).alloc (.cells #[.int .u8 sb, .int .i64 nb, .int .i64 pb] 23)) w.heap.size 23 #[.int .u8 sa, .int .i64 na, .int .i64 pa] := (Blk.new w _ _).alloc _
  have hB : Blk ((w.alloc (.cells #[.int .u8 sa, .int .i64 na, .int .i64 pa] 23)).alloc (.cells #[.int .u8 sb, .int .i64 nb, .int .i64 pb] 23)) (w.heap.size + 1) 23 #[.int .u8 sb, .int .i64 nb, .int .i64 pb] := by
    have := Blk.new (w.alloc (.cells #[.int .u8 sa, .int .i64 na, .int .i64 pa] 23)) 23 #[.int .u8 sb, .int .i64 nb, .int .i64 pb]
    simpa using this
  have HEX : Hid (Ext w ((w.alloc (.cells #[.int .u8 sa, .int .i64 na, .int .i64 pa] 23)).alloc (.cells #[.int .u8 sb, .int .i64 nb, .int .i64 pb] 23))) := Ext.trans (Ext.alloc _ _) (Ext.alloc _ _)
  generalize (w.alloc (.cells #[.int .u8 sa, .int .i64 na, .int .i64 pa] 23)).alloc (.cells #[.int .u8 sb, .int .i64 nb, .int .i64 pb] 23) = w1 at *
  have HA := Lib.hid hA
  have HB := Lib.hid hB
  clear hA hB
  apply wp_region_ext_tail 4 (by kernel_rfl) (by kernel_rfl) (by kernel_rfl)
  dsimp only [List.take_succ_cons, List.take_zero, List.drop_succ_cons, List.drop_zero]
  apply step_det (.agg #[.int .u8 sa, .int .i64 na, .int .i64 pa]) rfl rfl rfl
  · intro w' hw' hH
    have hb := HA.out.ext hw'
    have c0 := hb.cell 0
    have c1 := hb.cell 1
    have c2 := hb.cell 2
    clear hH
    simp [YieldsF, go_sem, c0, c1, c2]
    exact Ext.refl _
  apply step_det (.agg #[.int .u8 sx, .int .i64 nx, .int .i64 px]) rfl rfl rfl
  · intro w' hw' hH
    clear hH
    simp [YieldsF, go_sem]
    refine (plain_v (sa, na, pa) (sx, nx, px) w' HX).mono ?_
    rintro e w2 ⟨rfl, hx⟩
    exact ⟨_, rfl, rfl, hx⟩
  apply step_det (.agg #[.int .u8 sb, .int .i64 nb, .int .i64 pb]) rfl rfl rfl
  · intro w' hw' hH
    have hb := HB.out.ext hw'
    have c0 := hb.cell 0
    have c1 := hb.cell 1
    have c2 := hb.cell 2
    clear hH
    simp [YieldsF, go_sem, c0, c1, c2]
    exact Ext.refl _
  apply step_det (.agg #[.int .u8 sy, .int .i64 ny, .int .i64 py]) rfl rfl rfl
  · intro w' hw' hH
    clear hH
    simp [YieldsF, go_sem]
    refine (plain_v (sb, nb, pb) (sy, ny, py) w' HY).mono ?_
    rintro e w2 ⟨rfl, hx⟩
    exact ⟨_, rfl, rfl, hx⟩
  apply WalkF_nil
  intro w2 hw2 hH
  clear hH
  have hA2 := HA.out.ext hw2
  have hB2 := HB.out.ext hw2
  have HEX2 : Hid (Ext w w2) := Ext.trans HEX.out hw2
  simp only [Act.put]
  simp
  have hga : w.heap.size ≤ w.heap.size := Nat.le_refl _
  generalize hgad : w.heap.size = ga at *
  have HGA := Lib.hid hgad
  clear hgad
  have HB2 := Lib.hid hB2
  refine wpList_put rfl 23 (.tmp 3) (.tmp 9) rfl ga #[.int .u8 sx, .int .i64 nx, .int .i64 px] rfl rfl 23 _ hA2 (by kernel_rfl) rfl rfl ?_
  intro w3 ht3 hA3
  have hB3 := ht3.blk HB2.out (by omega)
  have HEX3 : Hid (Ext w w3) := ht3.ext HEX2.out (by have := HGA.out; omega)
  refine wpList_put rfl 23 (.tmp 4) (.tmp 11) rfl (ga + 1) #[.int .u8 sy, .int .i64 ny, .int .i64 py] rfl rfl 23 _ hB3 (by kernel_rfl) rfl rfl ?_
  intro w4 ht4 hB4
  have hA4 := ht4.blk hA3 (by omega)
  have HEX4 : Hid (Ext w w4) := ht4.ext HEX3.out (by have := HGA.out; omega)
  have a0 : w4.cell? ⟨ga, 0, none⟩ = some (.int .u8 sx) := hA4.cell 0
  have a1 : w4.cell? ⟨ga, 1, none⟩ = some (.int .i64 nx) := hA4.cell 1
  have a2 : w4.cell? ⟨ga, 2, none⟩ = some (.int .i64 px) := hA4.cell 2
  have b0 : w4.cell? ⟨ga + 1, 0, none⟩ = some (.int .u8 sy) := hB4.cell 0
  have b1 : w4.cell? ⟨ga + 1, 1, none⟩ = some (.int .i64 ny) := hB4.cell 1
  have b2 : w4.cell? ⟨ga + 1, 2, none⟩ = some (.int .i64 py) := hB4.cell 2
  clear hA2 hB2 hw2 ht3 ht4 hA3 hB3 hB4 hA4 HA HB
  simp only [Act.put]
  unfold mayX at HV
  try simp only at HV
  by_cases hx1 : sx = 1
  · subst hx1
    by_cases hy1 : sy = 1
    · subst hy1
      go_wp2_with fail
      go_ret
      exact ⟨ret_bool (by rw [HV.out]; simp [*]), HEX4.out⟩
    · have e1 := beq_eq_false_iff_ne.2 hy1
      cases own
      all_goals
        go_wp2_with fail
        go_ret
        exact ⟨ret_bool (by rw [HV.out]; simp [*]), HEX4.out⟩
  · have e1 := beq_eq_false_iff_ne.2 hx1
    cases own
    · go_wp2_with fail
      go_ret
      exact ⟨ret_bool (by rw [HV.out]; simp [*]), HEX4.out⟩
    · by_cases hx2 : sx = 2
      · subst hx2
        by_cases hy2 : sy = 2
        · subst hy2
          by_cases hp : px = py
          · have e2 : (px == py) = true := beq_iff_eq.2 hp
            clear hp
            go_wp2_with fail
            go_ret
            exact ⟨ret_bool (by rw [HV.out]; simp [*]), HEX4.out⟩
          · have e2 := beq_eq_false_iff_ne.2 hp
            go_wp2_with fail
            go_ret
            exact ⟨ret_bool (by rw [HV.out]; simp [*]), HEX4.out⟩
        · have e2 := beq_eq_false_iff_ne.2 hy2
          go_wp2_with fail
          go_ret
          exact ⟨ret_bool (by rw [HV.out]; simp [*]), HEX4.out⟩
      · have e2 := beq_eq_false_iff_ne.2 hx2
        go_wp2_with fail
        go_ret
        exact ⟨ret_bool (by rw [HV.out]; simp [*]), HEX4.out⟩
set_option maxHeartbeats 4000000 in
theorem must_any (a b : KindD) (own : Bool) (w : World) :
    Calls Try.prog 49 #[a.val, b.val, .bool own] w fun e w' => e = .returned (.bool (mustN a b own)) ∧ Ext w w' := by
  obtain ⟨x, HX⟩ : ∃ x, Hid (plainN a = x) := ⟨_, Lib.hid rfl⟩
  obtain ⟨y, HY⟩ : ∃ y, Hid (plainN b = y) := ⟨_, Lib.hid rfl⟩
  obtain ⟨v, HVV⟩ : ∃ v, Hid (mustN a b own = v) := ⟨_, Lib.hid rfl⟩
  have HV : Hid (v = mustX x y own) := Lib.hid (by rw [← HVV.out]; unfold mustN; rw [HX.out, HY.out])
  rw [HVV.out]
  clear HVV
  obtain ⟨sa, na, pa⟩ := a
  obtain ⟨sb, nb, pb⟩ := b
  obtain ⟨sx, nx, px⟩ := x
  obtain ⟨sy, ny, py⟩ := y
  simp only [KindD.val]
  try simp only at HV
  go_enter Try.func49, Try.ntmps49
  go_wp2_with fail
  have hA : Blk ((w.alloc (.cells #[.int .u8 sa, .int .i64 na, .int .i64 pa] 23)).alloc (.cells #[.int .u8 sb, .int .i64 nb, .int .i64 pb] 23)) w.heap.size 23 #[.int .u8 sa, .int .i64 na, .int .i64 pa] := (Blk.new w _ _).alloc _
  have hB : Blk ((w.alloc (.cells #[.int .u8 sa, .int .i64 na, .int .i64 pa] 23)).alloc (.cells #[.int .u8 sb, .int .i64 nb, .int .i64 pb] 23)) (w.heap.size + 1) 23 #[.int .u8 sb, .int .i64 nb, .int .i64 pb] := by
    have := Blk.new (w.alloc (.cells #[.int .u8 sa, .int .i64 na, .int .i64 pa] 23)) 23 #[.int .u8 sb, .int .i64 nb, .int .i64 pb]
    simpa using this
  have HEX : Hid (Ext w ((w.alloc (.cells #[.int .u8 sa, .int .i64 na, .int .i64 pa] 23)).alloc (.cells #[.int .u8 sb, .int .i64 nb, .int .i64 pb] 23))) := Ext.trans (Ext.alloc _ _) (Ext.alloc _ _)
  generalize (w.alloc (.cells #[.int .u8 sa, .int .i64 na, .int .i64 pa] 23)).alloc (.cells #[.int .u8 sb, .int .i64 nb, .int .i64 pb] 23) = w1 at *
  have HA := Lib.hid hA
  have HB := Lib.hid hB
  clear hA hB
  apply wp_region_ext_tail 4 (by kernel_rfl) (by kernel_rfl) (by kernel_rfl)
  dsimp only [List.take_succ_cons, List.take_zero, List.drop_succ_cons, List.drop_zero]
  apply step_det (.agg #[.int .u8 sa, .int .i64 na, .int .i64 pa]) rfl rfl rfl
  · intro w' hw' hH
    have hb := HA.out.ext hw'
    have c0 := hb.cell 0
    have c1 := hb.cell 1
    have c2 := hb.cell 2
    clear hH
    simp [YieldsF, go_sem, c0, c1, c2]
    exact Ext.refl _
  apply step_det (.agg #[.int .u8 sx, .int .i64 nx, .int .i64 px]) rfl rfl rfl
  · intro w' hw' hH
    clear hH
    simp [YieldsF, go_sem]
    refine (plain_v (sa, na, pa) (sx, nx, px) w' HX).mono ?_
    rintro e w2 ⟨rfl, hx⟩
    exact ⟨_, rfl, rfl, hx⟩
  apply step_det (.agg #[.int .u8 sb, .int .i64 nb, .int .i64 pb]) rfl rfl rfl
  · intro w' hw' hH
    have hb := HB.out.ext hw'
    have c0 := hb.cell 0
    have c1 := hb.cell 1
    have c2 := hb.cell 2
    clear hH
    simp [YieldsF, go_sem, c0, c1, c2]
    exact Ext.refl _
  apply step_det (.agg #[.int .u8 sy, .int .i64 ny, .int .i64 py]) rfl rfl rfl
  · intro w' hw' hH
    clear hH
    simp [YieldsF, go_sem]
    refine (plain_v (sb, nb, pb) (sy, ny, py) w' HY).mono ?_
    rintro e w2 ⟨rfl, hx⟩
    exact ⟨_, rfl, rfl, hx⟩
  apply WalkF_nil
  intro w2 hw2 hH
  clear hH
  have hA2 := HA.out.ext hw2
  have hB2 := HB.out.ext hw2
  have HEX2 : Hid (Ext w w2) := Ext.trans HEX.out hw2
  simp only [Act.put]
  simp
  have hga : w.heap.size ≤ w.heap.size := Nat.le_refl _
  generalize hgad : w.heap.size = ga at *
  have HGA := Lib.hid hgad
  clear hgad
  have HB2 := Lib.hid hB2
  refine wpList_put rfl 23 (.tmp 3) (.tmp 8) rfl ga #[.int .u8 sx, .int .i64 nx, .int .i64 px] rfl rfl 23 _ hA2 (by kernel_rfl) rfl rfl ?_
  intro w3 ht3 hA3
  have hB3 := ht3.blk HB2.out (by omega)
  have HEX3 : Hid (Ext w w3) := ht3.ext HEX2.out (by have := HGA.out; omega)
  refine wpList_put rfl 23 (.tmp 4) (.tmp 10) rfl (ga + 1) #[.int .u8 sy, .int .i64 ny, .int .i64 py] rfl rfl 23 _ hB3 (by kernel_rfl) rfl rfl ?_
  intro w4 ht4 hB4
  have hA4 := ht4.blk hA3 (by omega)
  have HEX4 : Hid (Ext w w4) := ht4.ext HEX3.out (by have := HGA.out; omega)
  have a0 : w4.cell? ⟨ga, 0, none⟩ = some (.int .u8 sx) := hA4.cell 0
  have a1 : w4.cell? ⟨ga, 1, none⟩ = some (.int .i64 nx) := hA4.cell 1
  have a2 : w4.cell? ⟨ga, 2, none⟩ = some (.int .i64 px) := hA4.cell 2
  have b0 : w4.cell? ⟨ga + 1, 0, none⟩ = some (.int .u8 sy) := hB4.cell 0
  have b1 : w4.cell? ⟨ga + 1, 1, none⟩ = some (.int .i64 ny) := hB4.cell 1
  have b2 : w4.cell? ⟨ga + 1, 2, none⟩ = some (.int .i64 py) := hB4.cell 2
  clear hA2 hB2 hw2 ht3 ht4 hA3 hB3 hB4 hA4 HA HB
  simp only [Act.put]
  unfold mustX at HV
  try simp only at HV
  by_cases h : sx = sy ∧ nx = ny ∧ px = py
  · obtain ⟨rfl, rfl, rfl⟩ := h
    by_cases hx1 : sx = 1
    · subst hx1
      go_wp2_with fail
      go_ret
      exact ⟨ret_bool (by rw [HV.out]; simp [*]), HEX4.out⟩
    · have e1 := beq_eq_false_iff_ne.2 hx1
      cases own
      · go_wp2_with fail
        go_ret
        exact ⟨ret_bool (by rw [HV.out]; simp [*]), HEX4.out⟩
      · by_cases hx2 : sx = 2
        · subst hx2
          go_wp2_with fail
          go_ret
          exact ⟨ret_bool (by rw [HV.out]; simp [*]), HEX4.out⟩
        · have e2 := beq_eq_false_iff_ne.2 hx2
          go_wp2_with fail
          go_ret
          exact ⟨ret_bool (by rw [HV.out]; simp [*]), HEX4.out⟩
  · have hcase : sx ≠ sy ∨ (sx = sy ∧ nx ≠ ny) ∨ (sx = sy ∧ nx = ny ∧ px ≠ py) := by omega
    clear h
    rcases hcase with h | ⟨rfl, h⟩ | ⟨rfl, rfl, h⟩
    all_goals
      have hb := beq_eq_false_iff_ne.2 h
      clear h
      go_wp2_with fail
      go_ret
      exact ⟨ret_bool (by rw [HV.out]; simp [*]), HEX4.out⟩
end Go.Proofs.Ythofccoefiogiaa
