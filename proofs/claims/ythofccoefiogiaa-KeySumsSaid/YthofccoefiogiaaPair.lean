/- key.neg and key.pair, walked. -/
import Derived.Test.YthofccoefiogiaaKey
import Derived.Test.YthofccoefiogiaaMap
namespace Go.Proofs.Ythofccoefiogiaa
open Go Go.RowKit
set_option linter.unusedVariables false
set_option linter.unusedSimpArgs false
def negN (k : KindD) : KindD := if k.1 = 0 then k else if k.1 = 1 then (1, wrap64 (-k.2.1), 0) else (3, 0, 0)
theorem neg_any (k : KindD) (w : World) :
    Calls Try.prog 62 #[k.val] w fun e w' => e = .returned (negN k).val ∧ Ext w w' := by
  obtain ⟨s, n, p⟩ := k
  simp only [KindD.val]
  by_cases h0 : s = 0
  · subst h0
    have HR : Hid (negN (0, n, p) = (0, n, p)) := Lib.hid rfl
    go_enter Try.func62, Try.ntmps62
    go_wp2
    go_returns
    exact ⟨ret_val HR.out, (by show Below w.heap.size w _; go_grown)⟩
  have e0 := beq_eq_false_iff_ne.2 h0
  by_cases h1 : s = 1
  · subst h1
    have HR : Hid (negN (1, n, p) = (1, wrap64 (-n), 0)) := Lib.hid rfl
    go_enter Try.func62, Try.ntmps62
    go_wp2
    go_returns
    exact ⟨ret_val HR.out, (by show Below w.heap.size w _; go_grown)⟩
  have e1 := beq_eq_false_iff_ne.2 h1
  have HR : Hid (negN (s, n, p) = (3, 0, 0)) := Lib.hid (by unfold negN; rw [if_neg h0, if_neg h1])
  go_enter Try.func62, Try.ntmps62
  go_wp2
  go_returns
  exact ⟨ret_val HR.out, (by show Below w.heap.size w _; go_grown)⟩
def doN (kind x y : Int) : Int := if kind = 3 then wrap64 (x + y) else if kind = 4 then wrap64 (x - y) else wrap64 (x * y)
def pairN (kind : Int) (a b : KindD) : KindD :=
  if a.1 = 0 ∨ b.1 = 0 then (0, 0, 0)
  else if a.1 = 1 ∧ b.1 = 1 then (1, doN kind a.2.1 b.2.1, 0)
  else if kind ≠ 5 ∧ a.1 = 2 ∧ b.1 = 1 then (2, doN kind a.2.1 b.2.1, a.2.2)
  else if kind = 3 ∧ a.1 = 1 ∧ b.1 = 2 then (2, doN kind a.2.1 b.2.1, b.2.2)
  else (3, 0, 0)
theorem pairN_eq (kind sa na pa sb nb pb : Int) : pairN kind (sa, na, pa) (sb, nb, pb) = if sa = 0 ∨ sb = 0 then (0, 0, 0)
  else if sa = 1 ∧ sb = 1 then (1, doN kind na nb, 0) else if kind ≠ 5 ∧ sa = 2 ∧ sb = 1 then (2, doN kind na nb, pa) else if kind = 3 ∧ sa = 1 ∧ sb = 2 then (2, doN kind na nb, pb) else (3, 0, 0) := rfl
theorem pair1_any (x y : Int) (w : World) : Calls Try.prog 94 #[.int .i64 x, .int .i64 y] w fun e w' => e = .returned (.int .i64 (wrap64 (x + y))) ∧ w = w' := by
  go_enter Try.func94, Try.ntmps94
  go_wp2
  go_ret
  exact ⟨rfl, rfl⟩
theorem pair2_any (x y : Int) (w : World) : Calls Try.prog 95 #[.int .i64 x, .int .i64 y] w fun e w' => e = .returned (.int .i64 (wrap64 (x - y))) ∧ w = w' := by
  go_enter Try.func95, Try.ntmps95
  go_wp2
  go_ret
  exact ⟨rfl, rfl⟩
theorem pair3_any (x y : Int) (w : World) : Calls Try.prog 96 #[.int .i64 x, .int .i64 y] w fun e w' => e = .returned (.int .i64 (wrap64 (x * y))) ∧ w = w' := by
  go_enter Try.func96, Try.ntmps96
  go_wp2
  go_ret
  exact ⟨rfl, rfl⟩
theorem pair_never (kind : Int) (a b : KindD) (w : World) (h : a.1 = 0 ∨ b.1 = 0) :
    Calls Try.prog 63 #[.int .u8 kind, a.val, b.val] w fun e w' => e = .returned (pairN kind a b).val ∧ Ext w w' := by
  obtain ⟨sa, na, pa⟩ := a
  obtain ⟨sb, nb, pb⟩ := b
  simp only at h
  simp only [KindD.val]
  have HR : Hid (pairN kind (sa, na, pa) (sb, nb, pb) = (0, 0, 0)) := Lib.hid (by rw [pairN_eq, if_pos h])
  by_cases ha : sa = 0
  · subst ha
    clear h
    go_enter Try.func63, Try.ntmps63
    go_wp2
    go_returns
    exact ⟨ret_val HR.out, (by show Below w.heap.size w _; go_grown)⟩
  · have hb : sb = 0 := by omega
    subst hb
    have e0 := beq_eq_false_iff_ne.2 ha
    clear h ha
    go_enter Try.func63, Try.ntmps63
    go_wp2
    go_returns
    exact ⟨ret_val HR.out, (by show Below w.heap.size w _; go_grown)⟩
set_option maxHeartbeats 8000000 in
theorem pair_3 (a b : KindD) (w : World) (ha : a.1 ≠ 0) (hb : b.1 ≠ 0) :
    Calls Try.prog 63 #[.int .u8 3, a.val, b.val] w fun e w' => e = .returned (pairN 3 a b).val ∧ Ext w w' := by
  obtain ⟨sa, na, pa⟩ := a
  obtain ⟨sb, nb, pb⟩ := b
  simp only at ha hb
  simp only [KindD.val]
  have ea := beq_eq_false_iff_ne.2 ha
  have eb := beq_eq_false_iff_ne.2 hb
  obtain ⟨j, HJ⟩ : ∃ j, Hid (pairN 3 (sa, na, pa) (sb, nb, pb) = j) := ⟨_, Lib.hid rfl⟩
  have HV := Lib.hid (pairN_eq 3 sa na pa sb nb pb)
  rw [HJ.out] at HV
  have HHA := Lib.hid ha
  have HHB := Lib.hid hb
  clear ha hb
  go_enter Try.func63, Try.ntmps63
  go_wp2_with (refine wpList_makeMap rfl 142 rfl ?_)
  intro w1 hx1 hm0 hs1
  have hA : Blk (((w.alloc (.cells #[.int .u8 sa, .int .i64 na, .int .i64 pa] 23)).alloc (.cells #[.int .u8 sb, .int .i64 nb, .int .i64 pb] 23)).alloc (.cells #[.int .u8 0, .int .i64 0, .int .i64 0] 23)) w.heap.size 23 #[.int .u8 sa, .int .i64 na, .int .i64 pa] := ((Blk.new w _ _).alloc _).alloc _
  have hB : Blk (((w.alloc (.cells #[.int .u8 sa, .int .i64 na, .int .i64 pa] 23)).alloc (.cells #[.int .u8 sb, .int .i64 nb, .int .i64 pb] 23)).alloc (.cells #[.int .u8 0, .int .i64 0, .int .i64 0] 23)) (w.heap.size + 1) 23 #[.int .u8 sb, .int .i64 nb, .int .i64 pb] := by
    have := (Blk.new (w.alloc (.cells #[.int .u8 sa, .int .i64 na, .int .i64 pa] 23)) 23 #[.int .u8 sb, .int .i64 nb, .int .i64 pb]).alloc (.cells #[.int .u8 0, .int .i64 0, .int .i64 0] 23)
    simpa using this
  have hC : Blk (((w.alloc (.cells #[.int .u8 sa, .int .i64 na, .int .i64 pa] 23)).alloc (.cells #[.int .u8 sb, .int .i64 nb, .int .i64 pb] 23)).alloc (.cells #[.int .u8 0, .int .i64 0, .int .i64 0] 23)) (w.heap.size + 1 + 1) 23 #[.int .u8 0, .int .i64 0, .int .i64 0] := by
    have := Blk.new ((w.alloc (.cells #[.int .u8 sa, .int .i64 na, .int .i64 pa] 23)).alloc (.cells #[.int .u8 sb, .int .i64 nb, .int .i64 pb] 23)) 23 #[.int .u8 0, .int .i64 0, .int .i64 0]
    simpa using this
  have HEX : Hid (Ext w (((w.alloc (.cells #[.int .u8 sa, .int .i64 na, .int .i64 pa] 23)).alloc (.cells #[.int .u8 sb, .int .i64 nb, .int .i64 pb] 23)).alloc (.cells #[.int .u8 0, .int .i64 0, .int .i64 0] 23))) := Ext.trans (Ext.trans (Ext.alloc _ _) (Ext.alloc _ _)) (Ext.alloc _ _)
  have HA := Lib.hid (hA.ext hx1)
  have HB := Lib.hid (hB.ext hx1)
  have HC := Lib.hid (hC.ext hx1)
  have HEX1 : Hid (Ext w w1) := Ext.trans HEX.out hx1
  clear hA hB hC HEX hx1 hs1
  generalize hgad : w.heap.size = ga at *
  have HGA := Lib.hid hgad
  clear hgad
  refine wpList_insert rfl 142 (.tmp 18) (.const (.int .u8 3)) (.func 94) rfl Try.underlying142 Try.underlying5 (ga + 1 + 1 + 1) 0 #[] 3 (.func (.func 94) #[] #[]) rfl rfl rfl hm0 rfl ?_
  intro w2 ht2 hm2
  refine wpList_insert rfl 142 (.tmp 18) (.const (.int .u8 4)) (.func 95) rfl Try.underlying142 Try.underlying5 (ga + 1 + 1 + 1) 1 _ 4 (.func (.func 95) #[] #[]) rfl rfl rfl hm2 rfl ?_
  intro w3 ht3 hm3
  refine wpList_insert rfl 142 (.tmp 18) (.const (.int .u8 5)) (.func 96) rfl Try.underlying142 Try.underlying5 (ga + 1 + 1 + 1) 2 _ 5 (.func (.func 96) #[] #[]) rfl rfl rfl hm3 rfl ?_
  intro w4 ht4 hm4
  have hA4 := ht4.blk (ht3.blk (ht2.blk HA.out (by omega)) (by omega)) (by omega)
  have hB4 := ht4.blk (ht3.blk (ht2.blk HB.out (by omega)) (by omega)) (by omega)
  have HC4 := Lib.hid (ht4.blk (ht3.blk (ht2.blk HC.out (by omega)) (by omega)) (by omega))
  have HEX4 : Hid (Ext w w4) := ht4.ext (ht3.ext (ht2.ext HEX1.out (by have := HGA.out; omega)) (by have := HGA.out; omega)) (by have := HGA.out; omega)
  have a0 : w4.cell? ⟨ga, 0, none⟩ = some (.int .u8 sa) := hA4.cell 0
  have a1 : w4.cell? ⟨ga, 1, none⟩ = some (.int .i64 na) := hA4.cell 1
  have a2 : w4.cell? ⟨ga, 2, none⟩ = some (.int .i64 pa) := hA4.cell 2
  have b0 : w4.cell? ⟨ga + 1, 0, none⟩ = some (.int .u8 sb) := hB4.cell 0
  have b1 : w4.cell? ⟨ga + 1, 1, none⟩ = some (.int .i64 nb) := hB4.cell 1
  have b2 : w4.cell? ⟨ga + 1, 2, none⟩ = some (.int .i64 pb) := hB4.cell 2
  have HM4 := Lib.hid hm4
  clear hA4 hB4 ht2 ht3 ht4 hm2 hm3 hm0 hm4 HA HB HC HEX1
  simp only [Act.put]
  go_wp2_with (refine wpList_lookup_hit rfl 142 (.tmp 19) (.tmp 20) rfl Try.underlying142 Try.underlying5 (ga + 1 + 1 + 1) 3 0 _ 3 (.func (.func 94) #[] #[]) rfl rfl HM4.out rfl ?_)
  refine (pair1_any na nb _).mono ?_
  rintro e w' ⟨rfl, rfl⟩
  clear HV HM4
  by_cases ha1 : sa = 1
  · subst ha1
    by_cases hb1 : sb = 1
    · subst hb1
      have HR : Hid (j = (1, wrap64 (na + nb), 0)) := Lib.hid (by rw [← HJ.out, pairN_eq]; simp [doN, HHA.out, HHB.out, *])
      go_wp2_with (refine wpList_put rfl 23 (.tmp 6) (.tmp 38) rfl (ga + 1 + 1) #[.int .u8 1, .int .i64 (wrap64 (na + nb)), .int .i64 0] rfl rfl 23 _ HC4.out (by kernel_rfl) rfl rfl ?_)
      intro w5 ht5 hC5
      have HEX5 : Hid (Ext w w5) := ht5.ext HEX4.out (by have := HGA.out; omega)
      have HC5 := Lib.hid hC5
      clear ht5 hC5
      go_wp2_with fail
      exact ret_row _ _ _ _ rfl rfl rfl HC5.out Try.underlying23 rfl (by kernel_rfl) ⟨ret_val (HJ.out.trans HR.out), HEX5.out⟩
    have eb1 := beq_eq_false_iff_ne.2 hb1
    by_cases hb2 : sb = 2
    · subst hb2
      have HR : Hid (j = (2, wrap64 (na + nb), pb)) := Lib.hid (by rw [← HJ.out, pairN_eq]; simp [doN, HHA.out, HHB.out, *])
      go_wp2_with (refine wpList_put rfl 23 (.tmp 6) (.tmp 72) rfl (ga + 1 + 1) #[.int .u8 2, .int .i64 (wrap64 (na + nb)), .int .i64 pb] rfl rfl 23 _ HC4.out (by kernel_rfl) rfl rfl ?_)
      intro w5 ht5 hC5
      have HEX5 : Hid (Ext w w5) := ht5.ext HEX4.out (by have := HGA.out; omega)
      have HC5 := Lib.hid hC5
      clear ht5 hC5
      go_wp2_with fail
      exact ret_row _ _ _ _ rfl rfl rfl HC5.out Try.underlying23 rfl (by kernel_rfl) ⟨ret_val (HJ.out.trans HR.out), HEX5.out⟩
    have eb2 := beq_eq_false_iff_ne.2 hb2
    have HR : Hid (j = (3, 0, 0)) := Lib.hid (by rw [← HJ.out, pairN_eq]; simp [doN, HHA.out, HHB.out, *])
    go_wp2_with (refine wpList_put rfl 23 (.tmp 6) (.tmp 73) rfl (ga + 1 + 1) #[.int .u8 3, .int .i64 0, .int .i64 0] rfl rfl 23 _ HC4.out (by kernel_rfl) rfl rfl ?_)
    intro w5 ht5 hC5
    have HEX5 : Hid (Ext w w5) := ht5.ext HEX4.out (by have := HGA.out; omega)
    have HC5 := Lib.hid hC5
    clear ht5 hC5
    go_wp2_with fail
    exact ret_row _ _ _ _ rfl rfl rfl HC5.out Try.underlying23 rfl (by kernel_rfl) ⟨ret_val (HJ.out.trans HR.out), HEX5.out⟩
  have ea1 := beq_eq_false_iff_ne.2 ha1
  by_cases ha2 : sa = 2
  · subst ha2
    by_cases hb1 : sb = 1
    · subst hb1
      have HR : Hid (j = (2, wrap64 (na + nb), pa)) := Lib.hid (by rw [← HJ.out, pairN_eq]; simp [doN, HHA.out, HHB.out, *])
      go_wp2_with (refine wpList_put rfl 23 (.tmp 6) (.tmp 55) rfl (ga + 1 + 1) #[.int .u8 2, .int .i64 (wrap64 (na + nb)), .int .i64 pa] rfl rfl 23 _ HC4.out (by kernel_rfl) rfl rfl ?_)
      intro w5 ht5 hC5
      have HEX5 : Hid (Ext w w5) := ht5.ext HEX4.out (by have := HGA.out; omega)
      have HC5 := Lib.hid hC5
      clear ht5 hC5
      go_wp2_with fail
      exact ret_row _ _ _ _ rfl rfl rfl HC5.out Try.underlying23 rfl (by kernel_rfl) ⟨ret_val (HJ.out.trans HR.out), HEX5.out⟩
    have eb1 := beq_eq_false_iff_ne.2 hb1
    have HR : Hid (j = (3, 0, 0)) := Lib.hid (by rw [← HJ.out, pairN_eq]; simp [doN, HHA.out, HHB.out, *])
    go_wp2_with (refine wpList_put rfl 23 (.tmp 6) (.tmp 73) rfl (ga + 1 + 1) #[.int .u8 3, .int .i64 0, .int .i64 0] rfl rfl 23 _ HC4.out (by kernel_rfl) rfl rfl ?_)
    intro w5 ht5 hC5
    have HEX5 : Hid (Ext w w5) := ht5.ext HEX4.out (by have := HGA.out; omega)
    have HC5 := Lib.hid hC5
    clear ht5 hC5
    go_wp2_with fail
    exact ret_row _ _ _ _ rfl rfl rfl HC5.out Try.underlying23 rfl (by kernel_rfl) ⟨ret_val (HJ.out.trans HR.out), HEX5.out⟩
  have ea2 := beq_eq_false_iff_ne.2 ha2
  have HR : Hid (j = (3, 0, 0)) := Lib.hid (by rw [← HJ.out, pairN_eq]; simp [doN, HHA.out, HHB.out, *])
  go_wp2_with (refine wpList_put rfl 23 (.tmp 6) (.tmp 73) rfl (ga + 1 + 1) #[.int .u8 3, .int .i64 0, .int .i64 0] rfl rfl 23 _ HC4.out (by kernel_rfl) rfl rfl ?_)
  intro w5 ht5 hC5
  have HEX5 : Hid (Ext w w5) := ht5.ext HEX4.out (by have := HGA.out; omega)
  have HC5 := Lib.hid hC5
  clear ht5 hC5
  go_wp2_with fail
  exact ret_row _ _ _ _ rfl rfl rfl HC5.out Try.underlying23 rfl (by kernel_rfl) ⟨ret_val (HJ.out.trans HR.out), HEX5.out⟩
set_option maxHeartbeats 8000000 in
theorem pair_4 (a b : KindD) (w : World) (ha : a.1 ≠ 0) (hb : b.1 ≠ 0) :
    Calls Try.prog 63 #[.int .u8 4, a.val, b.val] w fun e w' => e = .returned (pairN 4 a b).val ∧ Ext w w' := by
  obtain ⟨sa, na, pa⟩ := a
  obtain ⟨sb, nb, pb⟩ := b
  simp only at ha hb
  simp only [KindD.val]
  have ea := beq_eq_false_iff_ne.2 ha
  have eb := beq_eq_false_iff_ne.2 hb
  obtain ⟨j, HJ⟩ : ∃ j, Hid (pairN 4 (sa, na, pa) (sb, nb, pb) = j) := ⟨_, Lib.hid rfl⟩
  have HV := Lib.hid (pairN_eq 4 sa na pa sb nb pb)
  rw [HJ.out] at HV
  have HHA := Lib.hid ha
  have HHB := Lib.hid hb
  clear ha hb
  go_enter Try.func63, Try.ntmps63
  go_wp2_with (refine wpList_makeMap rfl 142 rfl ?_)
  intro w1 hx1 hm0 hs1
  have hA : Blk (((w.alloc (.cells #[.int .u8 sa, .int .i64 na, .int .i64 pa] 23)).alloc (.cells #[.int .u8 sb, .int .i64 nb, .int .i64 pb] 23)).alloc (.cells #[.int .u8 0, .int .i64 0, .int .i64 0] 23)) w.heap.size 23 #[.int .u8 sa, .int .i64 na, .int .i64 pa] := ((Blk.new w _ _).alloc _).alloc _
  have hB : Blk (((w.alloc (.cells #[.int .u8 sa, .int .i64 na, .int .i64 pa] 23)).alloc (.cells #[.int .u8 sb, .int .i64 nb, .int .i64 pb] 23)).alloc (.cells #[.int .u8 0, .int .i64 0, .int .i64 0] 23)) (w.heap.size + 1) 23 #[.int .u8 sb, .int .i64 nb, .int .i64 pb] := by
    have := (Blk.new (w.alloc (.cells #[.int .u8 sa, .int .i64 na, .int .i64 pa] 23)) 23 #[.int .u8 sb, .int .i64 nb, .int .i64 pb]).alloc (.cells #[.int .u8 0, .int .i64 0, .int .i64 0] 23)
    simpa using this
  have hC : Blk (((w.alloc (.cells #[.int .u8 sa, .int .i64 na, .int .i64 pa] 23)).alloc (.cells #[.int .u8 sb, .int .i64 nb, .int .i64 pb] 23)).alloc (.cells #[.int .u8 0, .int .i64 0, .int .i64 0] 23)) (w.heap.size + 1 + 1) 23 #[.int .u8 0, .int .i64 0, .int .i64 0] := by
    have := Blk.new ((w.alloc (.cells #[.int .u8 sa, .int .i64 na, .int .i64 pa] 23)).alloc (.cells #[.int .u8 sb, .int .i64 nb, .int .i64 pb] 23)) 23 #[.int .u8 0, .int .i64 0, .int .i64 0]
    simpa using this
  have HEX : Hid (Ext w (((w.alloc (.cells #[.int .u8 sa, .int .i64 na, .int .i64 pa] 23)).alloc (.cells #[.int .u8 sb, .int .i64 nb, .int .i64 pb] 23)).alloc (.cells #[.int .u8 0, .int .i64 0, .int .i64 0] 23))) := Ext.trans (Ext.trans (Ext.alloc _ _) (Ext.alloc _ _)) (Ext.alloc _ _)
  have HA := Lib.hid (hA.ext hx1)
  have HB := Lib.hid (hB.ext hx1)
  have HC := Lib.hid (hC.ext hx1)
  have HEX1 : Hid (Ext w w1) := Ext.trans HEX.out hx1
  clear hA hB hC HEX hx1 hs1
  generalize hgad : w.heap.size = ga at *
  have HGA := Lib.hid hgad
  clear hgad
  refine wpList_insert rfl 142 (.tmp 18) (.const (.int .u8 3)) (.func 94) rfl Try.underlying142 Try.underlying5 (ga + 1 + 1 + 1) 0 #[] 3 (.func (.func 94) #[] #[]) rfl rfl rfl hm0 rfl ?_
  intro w2 ht2 hm2
  refine wpList_insert rfl 142 (.tmp 18) (.const (.int .u8 4)) (.func 95) rfl Try.underlying142 Try.underlying5 (ga + 1 + 1 + 1) 1 _ 4 (.func (.func 95) #[] #[]) rfl rfl rfl hm2 rfl ?_
  intro w3 ht3 hm3
  refine wpList_insert rfl 142 (.tmp 18) (.const (.int .u8 5)) (.func 96) rfl Try.underlying142 Try.underlying5 (ga + 1 + 1 + 1) 2 _ 5 (.func (.func 96) #[] #[]) rfl rfl rfl hm3 rfl ?_
  intro w4 ht4 hm4
  have hA4 := ht4.blk (ht3.blk (ht2.blk HA.out (by omega)) (by omega)) (by omega)
  have hB4 := ht4.blk (ht3.blk (ht2.blk HB.out (by omega)) (by omega)) (by omega)
  have HC4 := Lib.hid (ht4.blk (ht3.blk (ht2.blk HC.out (by omega)) (by omega)) (by omega))
  have HEX4 : Hid (Ext w w4) := ht4.ext (ht3.ext (ht2.ext HEX1.out (by have := HGA.out; omega)) (by have := HGA.out; omega)) (by have := HGA.out; omega)
  have a0 : w4.cell? ⟨ga, 0, none⟩ = some (.int .u8 sa) := hA4.cell 0
  have a1 : w4.cell? ⟨ga, 1, none⟩ = some (.int .i64 na) := hA4.cell 1
  have a2 : w4.cell? ⟨ga, 2, none⟩ = some (.int .i64 pa) := hA4.cell 2
  have b0 : w4.cell? ⟨ga + 1, 0, none⟩ = some (.int .u8 sb) := hB4.cell 0
  have b1 : w4.cell? ⟨ga + 1, 1, none⟩ = some (.int .i64 nb) := hB4.cell 1
  have b2 : w4.cell? ⟨ga + 1, 2, none⟩ = some (.int .i64 pb) := hB4.cell 2
  have HM4 := Lib.hid hm4
  clear hA4 hB4 ht2 ht3 ht4 hm2 hm3 hm0 hm4 HA HB HC HEX1
  simp only [Act.put]
  go_wp2_with (refine wpList_lookup_hit rfl 142 (.tmp 19) (.tmp 20) rfl Try.underlying142 Try.underlying5 (ga + 1 + 1 + 1) 3 1 _ 4 (.func (.func 95) #[] #[]) rfl rfl HM4.out rfl ?_)
  refine (pair2_any na nb _).mono ?_
  rintro e w' ⟨rfl, rfl⟩
  clear HV HM4
  by_cases ha1 : sa = 1
  · subst ha1
    by_cases hb1 : sb = 1
    · subst hb1
      have HR : Hid (j = (1, wrap64 (na - nb), 0)) := Lib.hid (by rw [← HJ.out, pairN_eq]; simp [doN, HHA.out, HHB.out, *])
      go_wp2_with (refine wpList_put rfl 23 (.tmp 6) (.tmp 38) rfl (ga + 1 + 1) #[.int .u8 1, .int .i64 (wrap64 (na - nb)), .int .i64 0] rfl rfl 23 _ HC4.out (by kernel_rfl) rfl rfl ?_)
      intro w5 ht5 hC5
      have HEX5 : Hid (Ext w w5) := ht5.ext HEX4.out (by have := HGA.out; omega)
      have HC5 := Lib.hid hC5
      clear ht5 hC5
      go_wp2_with fail
      exact ret_row _ _ _ _ rfl rfl rfl HC5.out Try.underlying23 rfl (by kernel_rfl) ⟨ret_val (HJ.out.trans HR.out), HEX5.out⟩
    have eb1 := beq_eq_false_iff_ne.2 hb1
    have HR : Hid (j = (3, 0, 0)) := Lib.hid (by rw [← HJ.out, pairN_eq]; simp [doN, HHA.out, HHB.out, *])
    go_wp2_with (refine wpList_put rfl 23 (.tmp 6) (.tmp 73) rfl (ga + 1 + 1) #[.int .u8 3, .int .i64 0, .int .i64 0] rfl rfl 23 _ HC4.out (by kernel_rfl) rfl rfl ?_)
    intro w5 ht5 hC5
    have HEX5 : Hid (Ext w w5) := ht5.ext HEX4.out (by have := HGA.out; omega)
    have HC5 := Lib.hid hC5
    clear ht5 hC5
    go_wp2_with fail
    exact ret_row _ _ _ _ rfl rfl rfl HC5.out Try.underlying23 rfl (by kernel_rfl) ⟨ret_val (HJ.out.trans HR.out), HEX5.out⟩
  have ea1 := beq_eq_false_iff_ne.2 ha1
  by_cases ha2 : sa = 2
  · subst ha2
    by_cases hb1 : sb = 1
    · subst hb1
      have HR : Hid (j = (2, wrap64 (na - nb), pa)) := Lib.hid (by rw [← HJ.out, pairN_eq]; simp [doN, HHA.out, HHB.out, *])
      go_wp2_with (refine wpList_put rfl 23 (.tmp 6) (.tmp 55) rfl (ga + 1 + 1) #[.int .u8 2, .int .i64 (wrap64 (na - nb)), .int .i64 pa] rfl rfl 23 _ HC4.out (by kernel_rfl) rfl rfl ?_)
      intro w5 ht5 hC5
      have HEX5 : Hid (Ext w w5) := ht5.ext HEX4.out (by have := HGA.out; omega)
      have HC5 := Lib.hid hC5
      clear ht5 hC5
      go_wp2_with fail
      exact ret_row _ _ _ _ rfl rfl rfl HC5.out Try.underlying23 rfl (by kernel_rfl) ⟨ret_val (HJ.out.trans HR.out), HEX5.out⟩
    have eb1 := beq_eq_false_iff_ne.2 hb1
    have HR : Hid (j = (3, 0, 0)) := Lib.hid (by rw [← HJ.out, pairN_eq]; simp [doN, HHA.out, HHB.out, *])
    go_wp2_with (refine wpList_put rfl 23 (.tmp 6) (.tmp 73) rfl (ga + 1 + 1) #[.int .u8 3, .int .i64 0, .int .i64 0] rfl rfl 23 _ HC4.out (by kernel_rfl) rfl rfl ?_)
    intro w5 ht5 hC5
    have HEX5 : Hid (Ext w w5) := ht5.ext HEX4.out (by have := HGA.out; omega)
    have HC5 := Lib.hid hC5
    clear ht5 hC5
    go_wp2_with fail
    exact ret_row _ _ _ _ rfl rfl rfl HC5.out Try.underlying23 rfl (by kernel_rfl) ⟨ret_val (HJ.out.trans HR.out), HEX5.out⟩
  have ea2 := beq_eq_false_iff_ne.2 ha2
  have HR : Hid (j = (3, 0, 0)) := Lib.hid (by rw [← HJ.out, pairN_eq]; simp [doN, HHA.out, HHB.out, *])
  go_wp2_with (refine wpList_put rfl 23 (.tmp 6) (.tmp 73) rfl (ga + 1 + 1) #[.int .u8 3, .int .i64 0, .int .i64 0] rfl rfl 23 _ HC4.out (by kernel_rfl) rfl rfl ?_)
  intro w5 ht5 hC5
  have HEX5 : Hid (Ext w w5) := ht5.ext HEX4.out (by have := HGA.out; omega)
  have HC5 := Lib.hid hC5
  clear ht5 hC5
  go_wp2_with fail
  exact ret_row _ _ _ _ rfl rfl rfl HC5.out Try.underlying23 rfl (by kernel_rfl) ⟨ret_val (HJ.out.trans HR.out), HEX5.out⟩
set_option maxHeartbeats 8000000 in
theorem pair_5 (a b : KindD) (w : World) (ha : a.1 ≠ 0) (hb : b.1 ≠ 0) :
    Calls Try.prog 63 #[.int .u8 5, a.val, b.val] w fun e w' => e = .returned (pairN 5 a b).val ∧ Ext w w' := by
  obtain ⟨sa, na, pa⟩ := a
  obtain ⟨sb, nb, pb⟩ := b
  simp only at ha hb
  simp only [KindD.val]
  have ea := beq_eq_false_iff_ne.2 ha
  have eb := beq_eq_false_iff_ne.2 hb
  obtain ⟨j, HJ⟩ : ∃ j, Hid (pairN 5 (sa, na, pa) (sb, nb, pb) = j) := ⟨_, Lib.hid rfl⟩
  have HV := Lib.hid (pairN_eq 5 sa na pa sb nb pb)
  rw [HJ.out] at HV
  have HHA := Lib.hid ha
  have HHB := Lib.hid hb
  clear ha hb
  go_enter Try.func63, Try.ntmps63
  go_wp2_with (refine wpList_makeMap rfl 142 rfl ?_)
  intro w1 hx1 hm0 hs1
  have hA : Blk (((w.alloc (.cells #[.int .u8 sa, .int .i64 na, .int .i64 pa] 23)).alloc (.cells #[.int .u8 sb, .int .i64 nb, .int .i64 pb] 23)).alloc (.cells #[.int .u8 0, .int .i64 0, .int .i64 0] 23)) w.heap.size 23 #[.int .u8 sa, .int .i64 na, .int .i64 pa] := ((Blk.new w _ _).alloc _).alloc _
  have hB : Blk (((w.alloc (.cells #[.int .u8 sa, .int .i64 na, .int .i64 pa] 23)).alloc (.cells #[.int .u8 sb, .int .i64 nb, .int .i64 pb] 23)).alloc (.cells #[.int .u8 0, .int .i64 0, .int .i64 0] 23)) (w.heap.size + 1) 23 #[.int .u8 sb, .int .i64 nb, .int .i64 pb] := by
    have := (Blk.new (w.alloc (.cells #[.int .u8 sa, .int .i64 na, .int .i64 pa] 23)) 23 #[.int .u8 sb, .int .i64 nb, .int .i64 pb]).alloc (.cells #[.int .u8 0, .int .i64 0, .int .i64 0] 23)
    simpa using this
  have hC : Blk (((w.alloc (.cells #[.int .u8 sa, .int .i64 na, .int .i64 pa] 23)).alloc (.cells #[.int .u8 sb, .int .i64 nb, .int .i64 pb] 23)).alloc (.cells #[.int .u8 0, .int .i64 0, .int .i64 0] 23)) (w.heap.size + 1 + 1) 23 #[.int .u8 0, .int .i64 0, .int .i64 0] := by
    have := Blk.new ((w.alloc (.cells #[.int .u8 sa, .int .i64 na, .int .i64 pa] 23)).alloc (.cells #[.int .u8 sb, .int .i64 nb, .int .i64 pb] 23)) 23 #[.int .u8 0, .int .i64 0, .int .i64 0]
    simpa using this
  have HEX : Hid (Ext w (((w.alloc (.cells #[.int .u8 sa, .int .i64 na, .int .i64 pa] 23)).alloc (.cells #[.int .u8 sb, .int .i64 nb, .int .i64 pb] 23)).alloc (.cells #[.int .u8 0, .int .i64 0, .int .i64 0] 23))) := Ext.trans (Ext.trans (Ext.alloc _ _) (Ext.alloc _ _)) (Ext.alloc _ _)
  have HA := Lib.hid (hA.ext hx1)
  have HB := Lib.hid (hB.ext hx1)
  have HC := Lib.hid (hC.ext hx1)
  have HEX1 : Hid (Ext w w1) := Ext.trans HEX.out hx1
  clear hA hB hC HEX hx1 hs1
  generalize hgad : w.heap.size = ga at *
  have HGA := Lib.hid hgad
  clear hgad
  refine wpList_insert rfl 142 (.tmp 18) (.const (.int .u8 3)) (.func 94) rfl Try.underlying142 Try.underlying5 (ga + 1 + 1 + 1) 0 #[] 3 (.func (.func 94) #[] #[]) rfl rfl rfl hm0 rfl ?_
  intro w2 ht2 hm2
  refine wpList_insert rfl 142 (.tmp 18) (.const (.int .u8 4)) (.func 95) rfl Try.underlying142 Try.underlying5 (ga + 1 + 1 + 1) 1 _ 4 (.func (.func 95) #[] #[]) rfl rfl rfl hm2 rfl ?_
  intro w3 ht3 hm3
  refine wpList_insert rfl 142 (.tmp 18) (.const (.int .u8 5)) (.func 96) rfl Try.underlying142 Try.underlying5 (ga + 1 + 1 + 1) 2 _ 5 (.func (.func 96) #[] #[]) rfl rfl rfl hm3 rfl ?_
  intro w4 ht4 hm4
  have hA4 := ht4.blk (ht3.blk (ht2.blk HA.out (by omega)) (by omega)) (by omega)
  have hB4 := ht4.blk (ht3.blk (ht2.blk HB.out (by omega)) (by omega)) (by omega)
  have HC4 := Lib.hid (ht4.blk (ht3.blk (ht2.blk HC.out (by omega)) (by omega)) (by omega))
  have HEX4 : Hid (Ext w w4) := ht4.ext (ht3.ext (ht2.ext HEX1.out (by have := HGA.out; omega)) (by have := HGA.out; omega)) (by have := HGA.out; omega)
  have a0 : w4.cell? ⟨ga, 0, none⟩ = some (.int .u8 sa) := hA4.cell 0
  have a1 : w4.cell? ⟨ga, 1, none⟩ = some (.int .i64 na) := hA4.cell 1
  have a2 : w4.cell? ⟨ga, 2, none⟩ = some (.int .i64 pa) := hA4.cell 2
  have b0 : w4.cell? ⟨ga + 1, 0, none⟩ = some (.int .u8 sb) := hB4.cell 0
  have b1 : w4.cell? ⟨ga + 1, 1, none⟩ = some (.int .i64 nb) := hB4.cell 1
  have b2 : w4.cell? ⟨ga + 1, 2, none⟩ = some (.int .i64 pb) := hB4.cell 2
  have HM4 := Lib.hid hm4
  clear hA4 hB4 ht2 ht3 ht4 hm2 hm3 hm0 hm4 HA HB HC HEX1
  simp only [Act.put]
  go_wp2_with (refine wpList_lookup_hit rfl 142 (.tmp 19) (.tmp 20) rfl Try.underlying142 Try.underlying5 (ga + 1 + 1 + 1) 3 2 _ 5 (.func (.func 96) #[] #[]) rfl rfl HM4.out rfl ?_)
  refine (pair3_any na nb _).mono ?_
  rintro e w' ⟨rfl, rfl⟩
  clear HV HM4
  by_cases ha1 : sa = 1
  · subst ha1
    by_cases hb1 : sb = 1
    · subst hb1
      have HR : Hid (j = (1, wrap64 (na * nb), 0)) := Lib.hid (by rw [← HJ.out, pairN_eq]; simp [doN, HHA.out, HHB.out, *])
      go_wp2_with (refine wpList_put rfl 23 (.tmp 6) (.tmp 38) rfl (ga + 1 + 1) #[.int .u8 1, .int .i64 (wrap64 (na * nb)), .int .i64 0] rfl rfl 23 _ HC4.out (by kernel_rfl) rfl rfl ?_)
      intro w5 ht5 hC5
      have HEX5 : Hid (Ext w w5) := ht5.ext HEX4.out (by have := HGA.out; omega)
      have HC5 := Lib.hid hC5
      clear ht5 hC5
      go_wp2_with fail
      exact ret_row _ _ _ _ rfl rfl rfl HC5.out Try.underlying23 rfl (by kernel_rfl) ⟨ret_val (HJ.out.trans HR.out), HEX5.out⟩
    have eb1 := beq_eq_false_iff_ne.2 hb1
    have HR : Hid (j = (3, 0, 0)) := Lib.hid (by rw [← HJ.out, pairN_eq]; simp [doN, HHA.out, HHB.out, *])
    go_wp2_with (refine wpList_put rfl 23 (.tmp 6) (.tmp 73) rfl (ga + 1 + 1) #[.int .u8 3, .int .i64 0, .int .i64 0] rfl rfl 23 _ HC4.out (by kernel_rfl) rfl rfl ?_)
    intro w5 ht5 hC5
    have HEX5 : Hid (Ext w w5) := ht5.ext HEX4.out (by have := HGA.out; omega)
    have HC5 := Lib.hid hC5
    clear ht5 hC5
    go_wp2_with fail
    exact ret_row _ _ _ _ rfl rfl rfl HC5.out Try.underlying23 rfl (by kernel_rfl) ⟨ret_val (HJ.out.trans HR.out), HEX5.out⟩
  have ea1 := beq_eq_false_iff_ne.2 ha1
  have HR : Hid (j = (3, 0, 0)) := Lib.hid (by rw [← HJ.out, pairN_eq]; simp [doN, HHA.out, HHB.out, *])
  go_wp2_with (refine wpList_put rfl 23 (.tmp 6) (.tmp 73) rfl (ga + 1 + 1) #[.int .u8 3, .int .i64 0, .int .i64 0] rfl rfl 23 _ HC4.out (by kernel_rfl) rfl rfl ?_)
  intro w5 ht5 hC5
  have HEX5 : Hid (Ext w w5) := ht5.ext HEX4.out (by have := HGA.out; omega)
  have HC5 := Lib.hid hC5
  clear ht5 hC5
  go_wp2_with fail
  exact ret_row _ _ _ _ rfl rfl rfl HC5.out Try.underlying23 rfl (by kernel_rfl) ⟨ret_val (HJ.out.trans HR.out), HEX5.out⟩
theorem pair_any (kind : Int) (a b : KindD) (w : World) (h : kind = 3 ∨ kind = 4 ∨ kind = 5) :
    Calls Try.prog 63 #[.int .u8 kind, a.val, b.val] w fun e w' => e = .returned (pairN kind a b).val ∧ Ext w w' := by
  by_cases ha : a.1 = 0
  · exact pair_never kind a b w (.inl ha)
  by_cases hb : b.1 = 0
  · exact pair_never kind a b w (.inr hb)
  rcases h with rfl | rfl | rfl
  · exact pair_3 a b w ha hb
  · exact pair_4 a b w ha hb
  · exact pair_5 a b w ha hb
end Go.Proofs.Ythofccoefiogiaa
