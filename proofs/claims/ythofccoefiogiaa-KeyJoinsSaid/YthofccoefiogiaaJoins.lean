/- The law KeyJoins, walked. -/
import Derived.Test.YthofccoefiogiaaKey
import Derived.Test.YthofccoefiogiaaMay
namespace Go.Proofs.Ythofccoefiogiaa
open Go Go.RowKit
set_option linter.unusedVariables false
set_option linter.unusedSimpArgs false
theorem join_v (a b r : KindD) (w : World) (h : Hid (joinK a b = r)) :
    Calls Try.prog 14 #[a.val, b.val] w fun e w' => e = .returned r.val ∧ Ext w w' := by
  rw [← h.out]; exact join_any a b w
theorem WalkF_at {P : Program} {ops : Array Oper} {R : World → World → Prop} {w0 : World} {Q : Act → World → Prop} {l : List Oper} {ks : List Take} {a a2 : Act} {H : List (Option Tmp × (World → Prop))} (h : a = a2) (hk : WalkF P ops R w0 Q l ks a2 H) : WalkF P ops R w0 Q l ks a H := by rw [h]; exact hk
theorem may_v (a b : KindD) (own r : Bool) (w : World) (h : Hid (mayN a b own = r)) :
    Calls Try.prog 15 #[a.val, b.val, .bool own] w fun e w' => e = .returned (.bool r) ∧ Ext w w' := by
  rw [← h.out]; exact may_any a b own w
set_option maxHeartbeats 8000000 in
theorem keyJoins_yes (sa na pa sb nb pb sc nc pc su nu pu sv nv pv sj nj pj : Int) (own : Bool) (w : World) (works_any : ∀ w, Calls Try.prog 16 #[] w fun e w' => e = .returned (.bool true) ∧ Ext w w')
    (HU : Hid (joinK (sa, na, pa) (sb, nb, pb) = (su, nu, pu))) (HUC : Hid (joinK (sb, nb, pb) (sa, na, pa) = (su, nu, pu))) (HV : Hid (joinK (sb, nb, pb) (sc, nc, pc) = (sv, nv, pv)))
    (HJ : Hid (joinK (su, nu, pu) (sc, nc, pc) = (sj, nj, pj))) (HAV : Hid (joinK (sa, na, pa) (sv, nv, pv) = (sj, nj, pj))) (HJJ : Hid (joinK (sj, nj, pj) (sj, nj, pj) = (sj, nj, pj)))
    (HM1 : Hid (mayN (sa, na, pa) (sc, nc, pc) own = true)) (ea : (sa == 0) = false) (HM2 : Hid (mayN (su, nu, pu) (sc, nc, pc) own = true)) :
    Calls Try.prog 3 #[.agg #[.int .u8 sa, .int .i64 na, .int .i64 pa], .agg #[.int .u8 sb, .int .i64 nb, .int .i64 pb], .agg #[.int .u8 sc, .int .i64 nc, .int .i64 pc], .bool own] w fun e w' => e = .returned (.bool true) ∧ Ext w w' := by
  go_enter Try.func3, Try.ntmps3
  go_wp2_with fail
  have hA : Blk (((w.alloc (.cells #[.int .u8 sa, .int .i64 na, .int .i64 pa] 23)).alloc (.cells #[.int .u8 sb, .int .i64 nb, .int .i64 pb] 23)).alloc (.cells #[.int .u8 sc, .int .i64 nc, .int .i64 pc] 23)) w.heap.size 23 #[.int .u8 sa, .int .i64 na, .int .i64 pa] := ((Blk.new w _ _).alloc _).alloc _
  have hB : Blk (((w.alloc (.cells #[.int .u8 sa, .int .i64 na, .int .i64 pa] 23)).alloc (.cells #[.int .u8 sb, .int .i64 nb, .int .i64 pb] 23)).alloc (.cells #[.int .u8 sc, .int .i64 nc, .int .i64 pc] 23)) (w.heap.size + 1) 23 #[.int .u8 sb, .int .i64 nb, .int .i64 pb] := by
    have := (Blk.new (w.alloc (.cells #[.int .u8 sa, .int .i64 na, .int .i64 pa] 23)) 23 #[.int .u8 sb, .int .i64 nb, .int .i64 pb]).alloc (.cells #[.int .u8 sc, .int .i64 nc, .int .i64 pc] 23)
    simpa using this
  have hC : Blk (((w.alloc (.cells #[.int .u8 sa, .int .i64 na, .int .i64 pa] 23)).alloc (.cells #[.int .u8 sb, .int .i64 nb, .int .i64 pb] 23)).alloc (.cells #[.int .u8 sc, .int .i64 nc, .int .i64 pc] 23)) (w.heap.size + 1 + 1) 23 #[.int .u8 sc, .int .i64 nc, .int .i64 pc] := by
    have := Blk.new ((w.alloc (.cells #[.int .u8 sa, .int .i64 na, .int .i64 pa] 23)).alloc (.cells #[.int .u8 sb, .int .i64 nb, .int .i64 pb] 23)) 23 #[.int .u8 sc, .int .i64 nc, .int .i64 pc]
    simpa using this
  have HEX : Hid (Ext w (((w.alloc (.cells #[.int .u8 sa, .int .i64 na, .int .i64 pa] 23)).alloc (.cells #[.int .u8 sb, .int .i64 nb, .int .i64 pb] 23)).alloc (.cells #[.int .u8 sc, .int .i64 nc, .int .i64 pc] 23))) := Ext.trans (Ext.trans (Ext.alloc _ _) (Ext.alloc _ _)) (Ext.alloc _ _)
  generalize ((w.alloc (.cells #[.int .u8 sa, .int .i64 na, .int .i64 pa] 23)).alloc (.cells #[.int .u8 sb, .int .i64 nb, .int .i64 pb] 23)).alloc (.cells #[.int .u8 sc, .int .i64 nc, .int .i64 pc] 23) = w1 at *
  have HAb := Lib.hid hA
  have HBb := Lib.hid hB
  have HCb := Lib.hid hC
  clear hA hB hC
  have HL : Hid (w.heap.size ≤ w1.heap.size) := HEX.out.size
  generalize hgad : w.heap.size = ga at *
  have HGA := Lib.hid hgad
  clear hgad
  apply wp_region_ext_tail 6 (by kernel_rfl) (by kernel_rfl) (by kernel_rfl)
  dsimp only [List.take_succ_cons, List.take_zero, List.drop_succ_cons, List.drop_zero]
  apply step_det (.agg #[.int .u8 sa, .int .i64 na, .int .i64 pa]) rfl rfl rfl
  · intro w' hw' hH
    have hb := HAb.out.ext hw'
    have c0 := hb.cell 0
    have c1 := hb.cell 1
    have c2 := hb.cell 2
    clear hH
    simp [YieldsF, go_sem, c0, c1, c2]
    exact Ext.refl _
  apply step_det (.agg #[.int .u8 sb, .int .i64 nb, .int .i64 pb]) rfl rfl rfl
  · intro w' hw' hH
    have hb := HBb.out.ext hw'
    have c0 := hb.cell 0
    have c1 := hb.cell 1
    have c2 := hb.cell 2
    clear hH
    simp [YieldsF, go_sem, c0, c1, c2]
    exact Ext.refl _
  apply step_det (.agg #[.int .u8 su, .int .i64 nu, .int .i64 pu]) rfl rfl rfl
  · intro w' hw' hH
    clear hH
    simp [YieldsF, go_sem]
    refine (join_v (sa, na, pa) (sb, nb, pb) (su, nu, pu) w' HU).mono ?_
    rintro e w2 ⟨rfl, hx⟩
    exact ⟨_, rfl, rfl, hx⟩
  apply step_det (.agg #[.int .u8 sc, .int .i64 nc, .int .i64 pc]) rfl rfl rfl
  · intro w' hw' hH
    have hb := HCb.out.ext hw'
    have c0 := hb.cell 0
    have c1 := hb.cell 1
    have c2 := hb.cell 2
    clear hH
    simp [YieldsF, go_sem, c0, c1, c2]
    exact Ext.refl _
  apply step_det (.agg #[.int .u8 sj, .int .i64 nj, .int .i64 pj]) rfl rfl rfl
  · intro w' hw' hH
    clear hH
    simp [YieldsF, go_sem]
    refine (join_v (su, nu, pu) (sc, nc, pc) (sj, nj, pj) w' HJ).mono ?_
    rintro e w2 ⟨rfl, hx⟩
    exact ⟨_, rfl, rfl, hx⟩
  apply step_fact (fun v w' => ∃ g, v = .pointer (some ⟨g, 0, none⟩) ∧ Blk w' g 23 #[.int .u8 0, .int .i64 0, .int .i64 0] ∧ w1.heap.size ≤ g) (by rintro v w w' ⟨g, h1, h2, h3⟩ hx; exact ⟨g, h1, h2.ext hx, h3⟩) rfl rfl rfl
  · intro w' hw' hH
    clear hH
    simp [YieldsF, go_sem]
    exact ⟨⟨Blk.new w' _ _, hw'.size⟩, Ext.alloc _ _⟩
  intro v9
  apply WalkF_nil
  intro w2 hw2 hH
  obtain ⟨gj, rfl, hJ2, hgj⟩ := hH _ (List.mem_cons_self ..)
  clear hH
  have HA2 := Lib.hid (HAb.out.ext hw2)
  have HB2 := Lib.hid (HBb.out.ext hw2)
  have HC2 := Lib.hid (HCb.out.ext hw2)
  have HEX2 : Hid (Ext w w2) := Ext.trans HEX.out hw2
  have HG : Hid (ga + 1 + 1 < gj ∧ w.heap.size ≤ gj) := Lib.hid ⟨by have := HCb.out.lt; omega, by have := HL.out; have := HGA.out; omega⟩
  clear HAb HBb HCb HEX HL hw2 hgj
  simp only [Act.put]
  simp
  refine wpList_put rfl 23 (.tmp 9) (.tmp 14) rfl gj #[.int .u8 sj, .int .i64 nj, .int .i64 pj] rfl rfl 23 _ hJ2 (by kernel_rfl) rfl rfl ?_
  intro w3 ht3 hJ3
  have HAb := Lib.hid (ht3.blk HA2.out (by have := HG.out; omega))
  have HBb := Lib.hid (ht3.blk HB2.out (by have := HG.out; omega))
  have HCb := Lib.hid (ht3.blk HC2.out (by have := HG.out; omega))
  have HJb := Lib.hid hJ3
  have HEX : Hid (Ext w w3) := ht3.ext HEX2.out HG.out.2
  clear ht3 hJ2 hJ3 HA2 HB2 HC2 HEX2 HG
  simp only [Act.put]
  go_wp2_with fail
  apply wp_region_ext (by kernel_rfl) (by kernel_rfl) (by kernel_rfl)
  apply step_det (.agg #[.int .u8 sj, .int .i64 nj, .int .i64 pj]) rfl rfl rfl
  · intro w' hw' hH
    have hb := HJb.out.ext hw'
    have c0 := hb.cell 0
    have c1 := hb.cell 1
    have c2 := hb.cell 2
    clear hH
    simp [YieldsF, go_sem, c0, c1, c2]
    exact Ext.refl _
  apply step_det (.agg #[.int .u8 sa, .int .i64 na, .int .i64 pa]) rfl rfl rfl
  · intro w' hw' hH
    have hb := HAb.out.ext hw'
    have c0 := hb.cell 0
    have c1 := hb.cell 1
    have c2 := hb.cell 2
    clear hH
    simp [YieldsF, go_sem, c0, c1, c2]
    exact Ext.refl _
  apply step_det (.agg #[.int .u8 sb, .int .i64 nb, .int .i64 pb]) rfl rfl rfl
  · intro w' hw' hH
    have hb := HBb.out.ext hw'
    have c0 := hb.cell 0
    have c1 := hb.cell 1
    have c2 := hb.cell 2
    clear hH
    simp [YieldsF, go_sem, c0, c1, c2]
    exact Ext.refl _
  apply step_det (.agg #[.int .u8 sc, .int .i64 nc, .int .i64 pc]) rfl rfl rfl
  · intro w' hw' hH
    have hb := HCb.out.ext hw'
    have c0 := hb.cell 0
    have c1 := hb.cell 1
    have c2 := hb.cell 2
    clear hH
    simp [YieldsF, go_sem, c0, c1, c2]
    exact Ext.refl _
  apply step_det (.agg #[.int .u8 sv, .int .i64 nv, .int .i64 pv]) rfl rfl rfl
  · intro w' hw' hH
    clear hH
    simp [YieldsF, go_sem]
    refine (join_v (sb, nb, pb) (sc, nc, pc) (sv, nv, pv) w' HV).mono ?_
    rintro e w2 ⟨rfl, hx⟩
    exact ⟨_, rfl, rfl, hx⟩
  apply step_det (.agg #[.int .u8 sj, .int .i64 nj, .int .i64 pj]) rfl rfl rfl
  · intro w' hw' hH
    clear hH
    simp [YieldsF, go_sem]
    refine (join_v (sa, na, pa) (sv, nv, pv) (sj, nj, pj) w' HAV).mono ?_
    rintro e w2 ⟨rfl, hx⟩
    exact ⟨_, rfl, rfl, hx⟩
  apply step_det (.bool true) rfl rfl rfl
  · intro w' hw' hH
    clear hH
    simp [YieldsF, go_sem]
    exact Ext.refl _
  apply WalkF_at (a2 := ⟨#[.agg #[.int .u8 sa, .int .i64 na, .int .i64 pa], .agg #[.int .u8 sb, .int .i64 nb, .int .i64 pb], .agg #[.int .u8 sc, .int .i64 nc, .int .i64 pc], .bool own, .pointer (some ⟨ga, 0, none⟩), .pointer (some ⟨ga + 1, 0, none⟩), .pointer (some ⟨ga + 1 + 1, 0, none⟩), undef, .bool false, .pointer (some ⟨gj, 0, none⟩), .agg #[.int .u8 sa, .int .i64 na, .int .i64 pa], .agg #[.int .u8 sb, .int .i64 nb, .int .i64 pb], .agg #[.int .u8 su, .int .i64 nu, .int .i64 pu], .agg #[.int .u8 sc, .int .i64 nc, .int .i64 pc], .agg #[.int .u8 sj, .int .i64 nj, .int .i64 pj], .agg #[.int .u8 sj, .int .i64 nj, .int .i64 pj], .agg #[.int .u8 sa, .int .i64 na, .int .i64 pa], .agg #[.int .u8 sb, .int .i64 nb, .int .i64 pb], .agg #[.int .u8 sc, .int .i64 nc, .int .i64 pc], .agg #[.int .u8 sv, .int .i64 nv, .int .i64 pv], .agg #[.int .u8 sj, .int .i64 nj, .int .i64 pj], .bool true, undef, undef, undef, undef, undef, undef, undef, undef, undef, undef, undef, undef, undef, undef, undef, undef, undef, undef, undef, undef, undef, undef, undef, undef, undef, undef, undef, undef, undef, undef, undef, undef, undef, undef, undef, undef, undef, undef, undef], []⟩) (by kernel_rfl)
  apply step_det (.bool true) rfl rfl rfl
  · intro w' hw' hH
    clear hH
    simp [YieldsF, go_sem]
    exact Ext.refl _
  apply step_on (.agg #[.int .u8 sa, .int .i64 na, .int .i64 pa]) (by kernel_rfl) rfl rfl
  · intro w' hw' hH
    have hb := HAb.out.ext hw'
    have c0 := hb.cell 0
    have c1 := hb.cell 1
    have c2 := hb.cell 2
    clear hH
    simp [YieldsF, go_sem, c0, c1, c2]
    exact Ext.refl _
  apply step_on (.agg #[.int .u8 sb, .int .i64 nb, .int .i64 pb]) (by kernel_rfl) rfl rfl
  · intro w' hw' hH
    have hb := HBb.out.ext hw'
    have c0 := hb.cell 0
    have c1 := hb.cell 1
    have c2 := hb.cell 2
    clear hH
    simp [YieldsF, go_sem, c0, c1, c2]
    exact Ext.refl _
  apply step_on (.agg #[.int .u8 su, .int .i64 nu, .int .i64 pu]) (by kernel_rfl) rfl rfl
  · intro w' hw' hH
    clear hH
    simp [YieldsF, go_sem]
    refine (join_v (sa, na, pa) (sb, nb, pb) (su, nu, pu) w' HU).mono ?_
    rintro e w2 ⟨rfl, hx⟩
    exact ⟨_, rfl, rfl, hx⟩
  apply step_on (.agg #[.int .u8 sb, .int .i64 nb, .int .i64 pb]) (by kernel_rfl) rfl rfl
  · intro w' hw' hH
    have hb := HBb.out.ext hw'
    have c0 := hb.cell 0
    have c1 := hb.cell 1
    have c2 := hb.cell 2
    clear hH
    simp [YieldsF, go_sem, c0, c1, c2]
    exact Ext.refl _
  apply step_on (.agg #[.int .u8 sa, .int .i64 na, .int .i64 pa]) (by kernel_rfl) rfl rfl
  · intro w' hw' hH
    have hb := HAb.out.ext hw'
    have c0 := hb.cell 0
    have c1 := hb.cell 1
    have c2 := hb.cell 2
    clear hH
    simp [YieldsF, go_sem, c0, c1, c2]
    exact Ext.refl _
  apply step_on (.agg #[.int .u8 su, .int .i64 nu, .int .i64 pu]) (by kernel_rfl) rfl rfl
  · intro w' hw' hH
    clear hH
    simp [YieldsF, go_sem]
    refine (join_v (sb, nb, pb) (sa, na, pa) (su, nu, pu) w' HUC).mono ?_
    rintro e w2 ⟨rfl, hx⟩
    exact ⟨_, rfl, rfl, hx⟩
  apply step_on (.bool true) (by kernel_rfl) rfl rfl
  · intro w' hw' hH
    clear hH
    simp [YieldsF, go_sem]
    exact Ext.refl _
  apply WalkF_at (a2 := ⟨#[.agg #[.int .u8 sa, .int .i64 na, .int .i64 pa], .agg #[.int .u8 sb, .int .i64 nb, .int .i64 pb], .agg #[.int .u8 sc, .int .i64 nc, .int .i64 pc], .bool own, .pointer (some ⟨ga, 0, none⟩), .pointer (some ⟨ga + 1, 0, none⟩), .pointer (some ⟨ga + 1 + 1, 0, none⟩), undef, .bool false, .pointer (some ⟨gj, 0, none⟩), .agg #[.int .u8 sa, .int .i64 na, .int .i64 pa], .agg #[.int .u8 sb, .int .i64 nb, .int .i64 pb], .agg #[.int .u8 su, .int .i64 nu, .int .i64 pu], .agg #[.int .u8 sc, .int .i64 nc, .int .i64 pc], .agg #[.int .u8 sj, .int .i64 nj, .int .i64 pj], .agg #[.int .u8 sj, .int .i64 nj, .int .i64 pj], .agg #[.int .u8 sa, .int .i64 na, .int .i64 pa], .agg #[.int .u8 sb, .int .i64 nb, .int .i64 pb], .agg #[.int .u8 sc, .int .i64 nc, .int .i64 pc], .agg #[.int .u8 sv, .int .i64 nv, .int .i64 pv], .agg #[.int .u8 sj, .int .i64 nj, .int .i64 pj], .bool true, .bool true, .agg #[.int .u8 sa, .int .i64 na, .int .i64 pa], .agg #[.int .u8 sb, .int .i64 nb, .int .i64 pb], .agg #[.int .u8 su, .int .i64 nu, .int .i64 pu], .agg #[.int .u8 sb, .int .i64 nb, .int .i64 pb], .agg #[.int .u8 sa, .int .i64 na, .int .i64 pa], .agg #[.int .u8 su, .int .i64 nu, .int .i64 pu], .bool true, undef, undef, undef, undef, undef, undef, undef, undef, undef, undef, undef, undef, undef, undef, undef, undef, undef, undef, undef, undef, undef, undef, undef, undef, undef, undef, undef, undef, undef, undef, undef], []⟩) (by kernel_rfl)
  apply step_det (.bool true) rfl rfl rfl
  · intro w' hw' hH
    clear hH
    simp [YieldsF, go_sem]
    exact Ext.refl _
  apply step_det (.bool true) rfl rfl rfl
  · intro w' hw' hH
    clear hH
    simp [YieldsF, go_sem]
    exact Ext.refl _
  apply step_on (.agg #[.int .u8 sj, .int .i64 nj, .int .i64 pj]) (by kernel_rfl) rfl rfl
  · intro w' hw' hH
    have hb := HJb.out.ext hw'
    have c0 := hb.cell 0
    have c1 := hb.cell 1
    have c2 := hb.cell 2
    clear hH
    simp [YieldsF, go_sem, c0, c1, c2]
    exact Ext.refl _
  apply step_on (.agg #[.int .u8 sj, .int .i64 nj, .int .i64 pj]) (by kernel_rfl) rfl rfl
  · intro w' hw' hH
    have hb := HJb.out.ext hw'
    have c0 := hb.cell 0
    have c1 := hb.cell 1
    have c2 := hb.cell 2
    clear hH
    simp [YieldsF, go_sem, c0, c1, c2]
    exact Ext.refl _
  apply step_on (.agg #[.int .u8 sj, .int .i64 nj, .int .i64 pj]) (by kernel_rfl) rfl rfl
  · intro w' hw' hH
    clear hH
    simp [YieldsF, go_sem]
    refine (join_v (sj, nj, pj) (sj, nj, pj) (sj, nj, pj) w' HJJ).mono ?_
    rintro e w2 ⟨rfl, hx⟩
    exact ⟨_, rfl, rfl, hx⟩
  apply step_on (.agg #[.int .u8 sj, .int .i64 nj, .int .i64 pj]) (by kernel_rfl) rfl rfl
  · intro w' hw' hH
    have hb := HJb.out.ext hw'
    have c0 := hb.cell 0
    have c1 := hb.cell 1
    have c2 := hb.cell 2
    clear hH
    simp [YieldsF, go_sem, c0, c1, c2]
    exact Ext.refl _
  apply step_on (.bool true) (by kernel_rfl) rfl rfl
  · intro w' hw' hH
    clear hH
    simp [YieldsF, go_sem]
    exact Ext.refl _
  apply step_det (.bool true) rfl rfl rfl
  · intro w' hw' hH
    clear hH
    simp [YieldsF, go_sem]
    exact Ext.refl _
  apply WalkF_at (a2 := ⟨#[.agg #[.int .u8 sa, .int .i64 na, .int .i64 pa], .agg #[.int .u8 sb, .int .i64 nb, .int .i64 pb], .agg #[.int .u8 sc, .int .i64 nc, .int .i64 pc], .bool own, .pointer (some ⟨ga, 0, none⟩), .pointer (some ⟨ga + 1, 0, none⟩), .pointer (some ⟨ga + 1 + 1, 0, none⟩), undef, .bool false, .pointer (some ⟨gj, 0, none⟩), .agg #[.int .u8 sa, .int .i64 na, .int .i64 pa], .agg #[.int .u8 sb, .int .i64 nb, .int .i64 pb], .agg #[.int .u8 su, .int .i64 nu, .int .i64 pu], .agg #[.int .u8 sc, .int .i64 nc, .int .i64 pc], .agg #[.int .u8 sj, .int .i64 nj, .int .i64 pj], .agg #[.int .u8 sj, .int .i64 nj, .int .i64 pj], .agg #[.int .u8 sa, .int .i64 na, .int .i64 pa], .agg #[.int .u8 sb, .int .i64 nb, .int .i64 pb], .agg #[.int .u8 sc, .int .i64 nc, .int .i64 pc], .agg #[.int .u8 sv, .int .i64 nv, .int .i64 pv], .agg #[.int .u8 sj, .int .i64 nj, .int .i64 pj], .bool true, .bool true, .agg #[.int .u8 sa, .int .i64 na, .int .i64 pa], .agg #[.int .u8 sb, .int .i64 nb, .int .i64 pb], .agg #[.int .u8 su, .int .i64 nu, .int .i64 pu], .agg #[.int .u8 sb, .int .i64 nb, .int .i64 pb], .agg #[.int .u8 sa, .int .i64 na, .int .i64 pa], .agg #[.int .u8 su, .int .i64 nu, .int .i64 pu], .bool true, .bool true, .bool true, .agg #[.int .u8 sj, .int .i64 nj, .int .i64 pj], .agg #[.int .u8 sj, .int .i64 nj, .int .i64 pj], .agg #[.int .u8 sj, .int .i64 nj, .int .i64 pj], .agg #[.int .u8 sj, .int .i64 nj, .int .i64 pj], .bool true, .bool true, undef, undef, undef, undef, undef, undef, undef, undef, undef, undef, undef, undef, undef, undef, undef, undef, undef, undef, undef, undef, undef, undef, undef], []⟩) (by kernel_rfl)
  apply step_det (.bool true) rfl rfl rfl
  · intro w' hw' hH
    clear hH
    simp [YieldsF, go_sem]
    exact Ext.refl _
  apply step_on (.agg #[.int .u8 sa, .int .i64 na, .int .i64 pa]) (by kernel_rfl) rfl rfl
  · intro w' hw' hH
    have hb := HAb.out.ext hw'
    have c0 := hb.cell 0
    have c1 := hb.cell 1
    have c2 := hb.cell 2
    clear hH
    simp [YieldsF, go_sem, c0, c1, c2]
    exact Ext.refl _
  apply step_on (.agg #[.int .u8 sc, .int .i64 nc, .int .i64 pc]) (by kernel_rfl) rfl rfl
  · intro w' hw' hH
    have hb := HCb.out.ext hw'
    have c0 := hb.cell 0
    have c1 := hb.cell 1
    have c2 := hb.cell 2
    clear hH
    simp [YieldsF, go_sem, c0, c1, c2]
    exact Ext.refl _
  apply step_on (.bool own) (by kernel_rfl) rfl rfl
  · intro w' hw' hH
    clear hH
    simp [YieldsF, go_sem]
    exact Ext.refl _
  apply step_on (.bool true) (by kernel_rfl) rfl rfl
  · intro w' hw' hH
    clear hH
    simp [YieldsF, go_sem]
    refine (may_v (sa, na, pa) (sc, nc, pc) own true w' HM1).mono ?_
    rintro e w2 ⟨rfl, hx⟩
    exact ⟨_, rfl, rfl, hx⟩
  apply step_on (.bool false) (by kernel_rfl) rfl rfl
  · intro w' hw' hH
    clear hH
    simp [YieldsF, go_sem]
    exact Ext.refl _
  apply step_on (.bool false) (by kernel_rfl) rfl rfl
  · intro w' hw' hH
    clear hH
    simp [YieldsF, go_sem]
    exact Ext.refl _
  apply step_on (.pointer (some ⟨ga, 0, none⟩)) (by kernel_rfl) rfl rfl
  · intro w' hw' hH
    clear hH
    simp [YieldsF, go_sem]
    exact Ext.refl _
  apply WalkF_at (a2 := ⟨#[.agg #[.int .u8 sa, .int .i64 na, .int .i64 pa], .agg #[.int .u8 sb, .int .i64 nb, .int .i64 pb], .agg #[.int .u8 sc, .int .i64 nc, .int .i64 pc], .bool own, .pointer (some ⟨ga, 0, none⟩), .pointer (some ⟨ga + 1, 0, none⟩), .pointer (some ⟨ga + 1 + 1, 0, none⟩), undef, .bool false, .pointer (some ⟨gj, 0, none⟩), .agg #[.int .u8 sa, .int .i64 na, .int .i64 pa], .agg #[.int .u8 sb, .int .i64 nb, .int .i64 pb], .agg #[.int .u8 su, .int .i64 nu, .int .i64 pu], .agg #[.int .u8 sc, .int .i64 nc, .int .i64 pc], .agg #[.int .u8 sj, .int .i64 nj, .int .i64 pj], .agg #[.int .u8 sj, .int .i64 nj, .int .i64 pj], .agg #[.int .u8 sa, .int .i64 na, .int .i64 pa], .agg #[.int .u8 sb, .int .i64 nb, .int .i64 pb], .agg #[.int .u8 sc, .int .i64 nc, .int .i64 pc], .agg #[.int .u8 sv, .int .i64 nv, .int .i64 pv], .agg #[.int .u8 sj, .int .i64 nj, .int .i64 pj], .bool true, .bool true, .agg #[.int .u8 sa, .int .i64 na, .int .i64 pa], .agg #[.int .u8 sb, .int .i64 nb, .int .i64 pb], .agg #[.int .u8 su, .int .i64 nu, .int .i64 pu], .agg #[.int .u8 sb, .int .i64 nb, .int .i64 pb], .agg #[.int .u8 sa, .int .i64 na, .int .i64 pa], .agg #[.int .u8 su, .int .i64 nu, .int .i64 pu], .bool true, .bool true, .bool true, .agg #[.int .u8 sj, .int .i64 nj, .int .i64 pj], .agg #[.int .u8 sj, .int .i64 nj, .int .i64 pj], .agg #[.int .u8 sj, .int .i64 nj, .int .i64 pj], .agg #[.int .u8 sj, .int .i64 nj, .int .i64 pj], .bool true, .bool true, .bool true, .agg #[.int .u8 sa, .int .i64 na, .int .i64 pa], .agg #[.int .u8 sc, .int .i64 nc, .int .i64 pc], .bool own, .bool true, .bool false, .bool false, .pointer (some ⟨ga, 0, none⟩), undef, undef, undef, undef, undef, undef, undef, undef, undef, undef, undef, undef, undef, undef, undef], []⟩) (by kernel_rfl)
  apply step_on (.int .u8 sa) (by kernel_rfl) rfl rfl
  · intro w' hw' hH
    have hb := HAb.out.ext hw'
    have c0 := hb.cell 0
    clear hH
    simp [YieldsF, go_sem, c0]
    exact Ext.refl _
  apply step_on (.bool false) (by kernel_rfl) rfl rfl
  · intro w' hw' hH
    clear hH
    simp [YieldsF, go_sem, *]
    exact Ext.refl _
  apply step_on (.bool false) (by kernel_rfl) rfl rfl
  · intro w' hw' hH
    clear hH
    simp [YieldsF, go_sem]
    exact Ext.refl _
  apply step_on (.bool false) (by kernel_rfl) rfl rfl
  · intro w' hw' hH
    clear hH
    simp [YieldsF, go_sem]
    exact Ext.refl _
  apply step_on (.agg #[.int .u8 sa, .int .i64 na, .int .i64 pa]) (by kernel_rfl) rfl rfl
  · intro w' hw' hH
    have hb := HAb.out.ext hw'
    have c0 := hb.cell 0
    have c1 := hb.cell 1
    have c2 := hb.cell 2
    clear hH
    simp [YieldsF, go_sem, c0, c1, c2]
    exact Ext.refl _
  apply step_on (.agg #[.int .u8 sb, .int .i64 nb, .int .i64 pb]) (by kernel_rfl) rfl rfl
  · intro w' hw' hH
    have hb := HBb.out.ext hw'
    have c0 := hb.cell 0
    have c1 := hb.cell 1
    have c2 := hb.cell 2
    clear hH
    simp [YieldsF, go_sem, c0, c1, c2]
    exact Ext.refl _
  apply step_on (.agg #[.int .u8 su, .int .i64 nu, .int .i64 pu]) (by kernel_rfl) rfl rfl
  · intro w' hw' hH
    clear hH
    simp [YieldsF, go_sem]
    refine (join_v (sa, na, pa) (sb, nb, pb) (su, nu, pu) w' HU).mono ?_
    rintro e w2 ⟨rfl, hx⟩
    exact ⟨_, rfl, rfl, hx⟩
  apply step_on (.agg #[.int .u8 sc, .int .i64 nc, .int .i64 pc]) (by kernel_rfl) rfl rfl
  · intro w' hw' hH
    have hb := HCb.out.ext hw'
    have c0 := hb.cell 0
    have c1 := hb.cell 1
    have c2 := hb.cell 2
    clear hH
    simp [YieldsF, go_sem, c0, c1, c2]
    exact Ext.refl _
  apply WalkF_at (a2 := ⟨#[.agg #[.int .u8 sa, .int .i64 na, .int .i64 pa], .agg #[.int .u8 sb, .int .i64 nb, .int .i64 pb], .agg #[.int .u8 sc, .int .i64 nc, .int .i64 pc], .bool own, .pointer (some ⟨ga, 0, none⟩), .pointer (some ⟨ga + 1, 0, none⟩), .pointer (some ⟨ga + 1 + 1, 0, none⟩), undef, .bool false, .pointer (some ⟨gj, 0, none⟩), .agg #[.int .u8 sa, .int .i64 na, .int .i64 pa], .agg #[.int .u8 sb, .int .i64 nb, .int .i64 pb], .agg #[.int .u8 su, .int .i64 nu, .int .i64 pu], .agg #[.int .u8 sc, .int .i64 nc, .int .i64 pc], .agg #[.int .u8 sj, .int .i64 nj, .int .i64 pj], .agg #[.int .u8 sj, .int .i64 nj, .int .i64 pj], .agg #[.int .u8 sa, .int .i64 na, .int .i64 pa], .agg #[.int .u8 sb, .int .i64 nb, .int .i64 pb], .agg #[.int .u8 sc, .int .i64 nc, .int .i64 pc], .agg #[.int .u8 sv, .int .i64 nv, .int .i64 pv], .agg #[.int .u8 sj, .int .i64 nj, .int .i64 pj], .bool true, .bool true, .agg #[.int .u8 sa, .int .i64 na, .int .i64 pa], .agg #[.int .u8 sb, .int .i64 nb, .int .i64 pb], .agg #[.int .u8 su, .int .i64 nu, .int .i64 pu], .agg #[.int .u8 sb, .int .i64 nb, .int .i64 pb], .agg #[.int .u8 sa, .int .i64 na, .int .i64 pa], .agg #[.int .u8 su, .int .i64 nu, .int .i64 pu], .bool true, .bool true, .bool true, .agg #[.int .u8 sj, .int .i64 nj, .int .i64 pj], .agg #[.int .u8 sj, .int .i64 nj, .int .i64 pj], .agg #[.int .u8 sj, .int .i64 nj, .int .i64 pj], .agg #[.int .u8 sj, .int .i64 nj, .int .i64 pj], .bool true, .bool true, .bool true, .agg #[.int .u8 sa, .int .i64 na, .int .i64 pa], .agg #[.int .u8 sc, .int .i64 nc, .int .i64 pc], .bool own, .bool true, .bool false, .bool false, .pointer (some ⟨ga, 0, none⟩), .int .u8 sa, .bool false, .bool false, .bool false, .agg #[.int .u8 sa, .int .i64 na, .int .i64 pa], .agg #[.int .u8 sb, .int .i64 nb, .int .i64 pb], .agg #[.int .u8 su, .int .i64 nu, .int .i64 pu], .agg #[.int .u8 sc, .int .i64 nc, .int .i64 pc], undef, undef, undef, undef, undef, undef, undef], []⟩) (by kernel_rfl)
  apply step_on (.bool own) (by kernel_rfl) rfl rfl
  · intro w' hw' hH
    clear hH
    simp [YieldsF, go_sem]
    exact Ext.refl _
  apply step_on (.bool true) (by kernel_rfl) rfl rfl
  · intro w' hw' hH
    clear hH
    simp [YieldsF, go_sem]
    refine (may_v (su, nu, pu) (sc, nc, pc) own true w' HM2).mono ?_
    rintro e w2 ⟨rfl, hx⟩
    exact ⟨_, rfl, rfl, hx⟩
  apply step_on (.bool true) (by kernel_rfl) rfl rfl
  · intro w' hw' hH
    clear hH
    simp [YieldsF, go_sem]
    exact Ext.refl _
  apply step_det (.bool true) rfl rfl rfl
  · intro w' hw' hH
    clear hH
    simp [YieldsF, go_sem]
    exact Ext.refl _
  apply step_det (.bool true) rfl rfl rfl
  · intro w' hw' hH
    clear hH
    simp [YieldsF, go_sem]
    exact Ext.refl _
  apply step_on (.bool true) (by kernel_rfl) rfl rfl
  · intro w' hw' hH
    clear hH
    simp [YieldsF, go_sem]
    refine (works_any w').mono ?_
    rintro e w2 ⟨rfl, hx⟩
    exact ⟨_, rfl, rfl, hx⟩
  apply step_det (.bool true) rfl rfl rfl
  · intro w' hw' hH
    clear hH
    simp [YieldsF, go_sem]
    exact Ext.refl _
  apply step_det (.bool true) rfl rfl rfl
  · intro w' hw' hH
    clear hH
    simp [YieldsF, go_sem]
    exact Ext.refl _
  apply WalkF_at (a2 := ⟨#[.agg #[.int .u8 sa, .int .i64 na, .int .i64 pa], .agg #[.int .u8 sb, .int .i64 nb, .int .i64 pb], .agg #[.int .u8 sc, .int .i64 nc, .int .i64 pc], .bool own, .pointer (some ⟨ga, 0, none⟩), .pointer (some ⟨ga + 1, 0, none⟩), .pointer (some ⟨ga + 1 + 1, 0, none⟩), undef, .bool true, .pointer (some ⟨gj, 0, none⟩), .agg #[.int .u8 sa, .int .i64 na, .int .i64 pa], .agg #[.int .u8 sb, .int .i64 nb, .int .i64 pb], .agg #[.int .u8 su, .int .i64 nu, .int .i64 pu], .agg #[.int .u8 sc, .int .i64 nc, .int .i64 pc], .agg #[.int .u8 sj, .int .i64 nj, .int .i64 pj], .agg #[.int .u8 sj, .int .i64 nj, .int .i64 pj], .agg #[.int .u8 sa, .int .i64 na, .int .i64 pa], .agg #[.int .u8 sb, .int .i64 nb, .int .i64 pb], .agg #[.int .u8 sc, .int .i64 nc, .int .i64 pc], .agg #[.int .u8 sv, .int .i64 nv, .int .i64 pv], .agg #[.int .u8 sj, .int .i64 nj, .int .i64 pj], .bool true, .bool true, .agg #[.int .u8 sa, .int .i64 na, .int .i64 pa], .agg #[.int .u8 sb, .int .i64 nb, .int .i64 pb], .agg #[.int .u8 su, .int .i64 nu, .int .i64 pu], .agg #[.int .u8 sb, .int .i64 nb, .int .i64 pb], .agg #[.int .u8 sa, .int .i64 na, .int .i64 pa], .agg #[.int .u8 su, .int .i64 nu, .int .i64 pu], .bool true, .bool true, .bool true, .agg #[.int .u8 sj, .int .i64 nj, .int .i64 pj], .agg #[.int .u8 sj, .int .i64 nj, .int .i64 pj], .agg #[.int .u8 sj, .int .i64 nj, .int .i64 pj], .agg #[.int .u8 sj, .int .i64 nj, .int .i64 pj], .bool true, .bool true, .bool true, .agg #[.int .u8 sa, .int .i64 na, .int .i64 pa], .agg #[.int .u8 sc, .int .i64 nc, .int .i64 pc], .bool own, .bool true, .bool false, .bool false, .pointer (some ⟨ga, 0, none⟩), .int .u8 sa, .bool false, .bool false, .bool false, .agg #[.int .u8 sa, .int .i64 na, .int .i64 pa], .agg #[.int .u8 sb, .int .i64 nb, .int .i64 pb], .agg #[.int .u8 su, .int .i64 nu, .int .i64 pu], .agg #[.int .u8 sc, .int .i64 nc, .int .i64 pc], .bool own, .bool true, .bool true, .bool true, .bool true, .bool true, .bool true], []⟩) (by kernel_rfl)
  apply WalkF_nil
  intro w4 hw4 hH
  clear hH
  have HEX4 : Hid (Ext w w4) := Ext.trans HEX.out hw4
  clear hw4
  simp only [Act.put]
  go_wp2_with fail
  go_ret
  exact ⟨rfl, HEX4.out⟩
set_option maxHeartbeats 8000000 in
theorem keyJoins_no (sa na pa sb nb pb sc nc pc su nu pu sv nv pv sj nj pj : Int) (own : Bool) (w : World) (works_any : ∀ w, Calls Try.prog 16 #[] w fun e w' => e = .returned (.bool true) ∧ Ext w w')
    (HU : Hid (joinK (sa, na, pa) (sb, nb, pb) = (su, nu, pu))) (HUC : Hid (joinK (sb, nb, pb) (sa, na, pa) = (su, nu, pu))) (HV : Hid (joinK (sb, nb, pb) (sc, nc, pc) = (sv, nv, pv)))
    (HJ : Hid (joinK (su, nu, pu) (sc, nc, pc) = (sj, nj, pj))) (HAV : Hid (joinK (sa, na, pa) (sv, nv, pv) = (sj, nj, pj))) (HJJ : Hid (joinK (sj, nj, pj) (sj, nj, pj) = (sj, nj, pj)))
    (HM1 : Hid (mayN (sa, na, pa) (sc, nc, pc) own = false)) :
    Calls Try.prog 3 #[.agg #[.int .u8 sa, .int .i64 na, .int .i64 pa], .agg #[.int .u8 sb, .int .i64 nb, .int .i64 pb], .agg #[.int .u8 sc, .int .i64 nc, .int .i64 pc], .bool own] w fun e w' => e = .returned (.bool true) ∧ Ext w w' := by
  go_enter Try.func3, Try.ntmps3
  go_wp2_with fail
  have hA : Blk (((w.alloc (.cells #[.int .u8 sa, .int .i64 na, .int .i64 pa] 23)).alloc (.cells #[.int .u8 sb, .int .i64 nb, .int .i64 pb] 23)).alloc (.cells #[.int .u8 sc, .int .i64 nc, .int .i64 pc] 23)) w.heap.size 23 #[.int .u8 sa, .int .i64 na, .int .i64 pa] := ((Blk.new w _ _).alloc _).alloc _
  have hB : Blk (((w.alloc (.cells #[.int .u8 sa, .int .i64 na, .int .i64 pa] 23)).alloc (.cells #[.int .u8 sb, .int .i64 nb, .int .i64 pb] 23)).alloc (.cells #[.int .u8 sc, .int .i64 nc, .int .i64 pc] 23)) (w.heap.size + 1) 23 #[.int .u8 sb, .int .i64 nb, .int .i64 pb] := by
    have := (Blk.new (w.alloc (.cells #[.int .u8 sa, .int .i64 na, .int .i64 pa] 23)) 23 #[.int .u8 sb, .int .i64 nb, .int .i64 pb]).alloc (.cells #[.int .u8 sc, .int .i64 nc, .int .i64 pc] 23)
    simpa using this
  have hC : Blk (((w.alloc (.cells #[.int .u8 sa, .int .i64 na, .int .i64 pa] 23)).alloc (.cells #[.int .u8 sb, .int .i64 nb, .int .i64 pb] 23)).alloc (.cells #[.int .u8 sc, .int .i64 nc, .int .i64 pc] 23)) (w.heap.size + 1 + 1) 23 #[.int .u8 sc, .int .i64 nc, .int .i64 pc] := by
    have := Blk.new ((w.alloc (.cells #[.int .u8 sa, .int .i64 na, .int .i64 pa] 23)).alloc (.cells #[.int .u8 sb, .int .i64 nb, .int .i64 pb] 23)) 23 #[.int .u8 sc, .int .i64 nc, .int .i64 pc]
    simpa using this
  have HEX : Hid (Ext w (((w.alloc (.cells #[.int .u8 sa, .int .i64 na, .int .i64 pa] 23)).alloc (.cells #[.int .u8 sb, .int .i64 nb, .int .i64 pb] 23)).alloc (.cells #[.int .u8 sc, .int .i64 nc, .int .i64 pc] 23))) := Ext.trans (Ext.trans (Ext.alloc _ _) (Ext.alloc _ _)) (Ext.alloc _ _)
  generalize ((w.alloc (.cells #[.int .u8 sa, .int .i64 na, .int .i64 pa] 23)).alloc (.cells #[.int .u8 sb, .int .i64 nb, .int .i64 pb] 23)).alloc (.cells #[.int .u8 sc, .int .i64 nc, .int .i64 pc] 23) = w1 at *
  have HAb := Lib.hid hA
  have HBb := Lib.hid hB
  have HCb := Lib.hid hC
  clear hA hB hC
  have HL : Hid (w.heap.size ≤ w1.heap.size) := HEX.out.size
  generalize hgad : w.heap.size = ga at *
  have HGA := Lib.hid hgad
  clear hgad
  apply wp_region_ext_tail 6 (by kernel_rfl) (by kernel_rfl) (by kernel_rfl)
  dsimp only [List.take_succ_cons, List.take_zero, List.drop_succ_cons, List.drop_zero]
  apply step_det (.agg #[.int .u8 sa, .int .i64 na, .int .i64 pa]) rfl rfl rfl
  · intro w' hw' hH
    have hb := HAb.out.ext hw'
    have c0 := hb.cell 0
    have c1 := hb.cell 1
    have c2 := hb.cell 2
    clear hH
    simp [YieldsF, go_sem, c0, c1, c2]
    exact Ext.refl _
  apply step_det (.agg #[.int .u8 sb, .int .i64 nb, .int .i64 pb]) rfl rfl rfl
  · intro w' hw' hH
    have hb := HBb.out.ext hw'
    have c0 := hb.cell 0
    have c1 := hb.cell 1
    have c2 := hb.cell 2
    clear hH
    simp [YieldsF, go_sem, c0, c1, c2]
    exact Ext.refl _
  apply step_det (.agg #[.int .u8 su, .int .i64 nu, .int .i64 pu]) rfl rfl rfl
  · intro w' hw' hH
    clear hH
    simp [YieldsF, go_sem]
    refine (join_v (sa, na, pa) (sb, nb, pb) (su, nu, pu) w' HU).mono ?_
    rintro e w2 ⟨rfl, hx⟩
    exact ⟨_, rfl, rfl, hx⟩
  apply step_det (.agg #[.int .u8 sc, .int .i64 nc, .int .i64 pc]) rfl rfl rfl
  · intro w' hw' hH
    have hb := HCb.out.ext hw'
    have c0 := hb.cell 0
    have c1 := hb.cell 1
    have c2 := hb.cell 2
    clear hH
    simp [YieldsF, go_sem, c0, c1, c2]
    exact Ext.refl _
  apply step_det (.agg #[.int .u8 sj, .int .i64 nj, .int .i64 pj]) rfl rfl rfl
  · intro w' hw' hH
    clear hH
    simp [YieldsF, go_sem]
    refine (join_v (su, nu, pu) (sc, nc, pc) (sj, nj, pj) w' HJ).mono ?_
    rintro e w2 ⟨rfl, hx⟩
    exact ⟨_, rfl, rfl, hx⟩
  apply step_fact (fun v w' => ∃ g, v = .pointer (some ⟨g, 0, none⟩) ∧ Blk w' g 23 #[.int .u8 0, .int .i64 0, .int .i64 0] ∧ w1.heap.size ≤ g) (by rintro v w w' ⟨g, h1, h2, h3⟩ hx; exact ⟨g, h1, h2.ext hx, h3⟩) rfl rfl rfl
  · intro w' hw' hH
    clear hH
    simp [YieldsF, go_sem]
    exact ⟨⟨Blk.new w' _ _, hw'.size⟩, Ext.alloc _ _⟩
  intro v9
  apply WalkF_nil
  intro w2 hw2 hH
  obtain ⟨gj, rfl, hJ2, hgj⟩ := hH _ (List.mem_cons_self ..)
  clear hH
  have HA2 := Lib.hid (HAb.out.ext hw2)
  have HB2 := Lib.hid (HBb.out.ext hw2)
  have HC2 := Lib.hid (HCb.out.ext hw2)
  have HEX2 : Hid (Ext w w2) := Ext.trans HEX.out hw2
  have HG : Hid (ga + 1 + 1 < gj ∧ w.heap.size ≤ gj) := Lib.hid ⟨by have := HCb.out.lt; omega, by have := HL.out; have := HGA.out; omega⟩
  clear HAb HBb HCb HEX HL hw2 hgj
  simp only [Act.put]
  simp
  refine wpList_put rfl 23 (.tmp 9) (.tmp 14) rfl gj #[.int .u8 sj, .int .i64 nj, .int .i64 pj] rfl rfl 23 _ hJ2 (by kernel_rfl) rfl rfl ?_
  intro w3 ht3 hJ3
  have HAb := Lib.hid (ht3.blk HA2.out (by have := HG.out; omega))
  have HBb := Lib.hid (ht3.blk HB2.out (by have := HG.out; omega))
  have HCb := Lib.hid (ht3.blk HC2.out (by have := HG.out; omega))
  have HJb := Lib.hid hJ3
  have HEX : Hid (Ext w w3) := ht3.ext HEX2.out HG.out.2
  clear ht3 hJ2 hJ3 HA2 HB2 HC2 HEX2 HG
  simp only [Act.put]
  go_wp2_with fail
  apply wp_region_ext (by kernel_rfl) (by kernel_rfl) (by kernel_rfl)
  apply step_det (.agg #[.int .u8 sj, .int .i64 nj, .int .i64 pj]) rfl rfl rfl
  · intro w' hw' hH
    have hb := HJb.out.ext hw'
    have c0 := hb.cell 0
    have c1 := hb.cell 1
    have c2 := hb.cell 2
    clear hH
    simp [YieldsF, go_sem, c0, c1, c2]
    exact Ext.refl _
  apply step_det (.agg #[.int .u8 sa, .int .i64 na, .int .i64 pa]) rfl rfl rfl
  · intro w' hw' hH
    have hb := HAb.out.ext hw'
    have c0 := hb.cell 0
    have c1 := hb.cell 1
    have c2 := hb.cell 2
    clear hH
    simp [YieldsF, go_sem, c0, c1, c2]
    exact Ext.refl _
  apply step_det (.agg #[.int .u8 sb, .int .i64 nb, .int .i64 pb]) rfl rfl rfl
  · intro w' hw' hH
    have hb := HBb.out.ext hw'
    have c0 := hb.cell 0
    have c1 := hb.cell 1
    have c2 := hb.cell 2
    clear hH
    simp [YieldsF, go_sem, c0, c1, c2]
    exact Ext.refl _
  apply step_det (.agg #[.int .u8 sc, .int .i64 nc, .int .i64 pc]) rfl rfl rfl
  · intro w' hw' hH
    have hb := HCb.out.ext hw'
    have c0 := hb.cell 0
    have c1 := hb.cell 1
    have c2 := hb.cell 2
    clear hH
    simp [YieldsF, go_sem, c0, c1, c2]
    exact Ext.refl _
  apply step_det (.agg #[.int .u8 sv, .int .i64 nv, .int .i64 pv]) rfl rfl rfl
  · intro w' hw' hH
    clear hH
    simp [YieldsF, go_sem]
    refine (join_v (sb, nb, pb) (sc, nc, pc) (sv, nv, pv) w' HV).mono ?_
    rintro e w2 ⟨rfl, hx⟩
    exact ⟨_, rfl, rfl, hx⟩
  apply step_det (.agg #[.int .u8 sj, .int .i64 nj, .int .i64 pj]) rfl rfl rfl
  · intro w' hw' hH
    clear hH
    simp [YieldsF, go_sem]
    refine (join_v (sa, na, pa) (sv, nv, pv) (sj, nj, pj) w' HAV).mono ?_
    rintro e w2 ⟨rfl, hx⟩
    exact ⟨_, rfl, rfl, hx⟩
  apply step_det (.bool true) rfl rfl rfl
  · intro w' hw' hH
    clear hH
    simp [YieldsF, go_sem]
    exact Ext.refl _
  apply WalkF_at (a2 := ⟨#[.agg #[.int .u8 sa, .int .i64 na, .int .i64 pa], .agg #[.int .u8 sb, .int .i64 nb, .int .i64 pb], .agg #[.int .u8 sc, .int .i64 nc, .int .i64 pc], .bool own, .pointer (some ⟨ga, 0, none⟩), .pointer (some ⟨ga + 1, 0, none⟩), .pointer (some ⟨ga + 1 + 1, 0, none⟩), undef, .bool false, .pointer (some ⟨gj, 0, none⟩), .agg #[.int .u8 sa, .int .i64 na, .int .i64 pa], .agg #[.int .u8 sb, .int .i64 nb, .int .i64 pb], .agg #[.int .u8 su, .int .i64 nu, .int .i64 pu], .agg #[.int .u8 sc, .int .i64 nc, .int .i64 pc], .agg #[.int .u8 sj, .int .i64 nj, .int .i64 pj], .agg #[.int .u8 sj, .int .i64 nj, .int .i64 pj], .agg #[.int .u8 sa, .int .i64 na, .int .i64 pa], .agg #[.int .u8 sb, .int .i64 nb, .int .i64 pb], .agg #[.int .u8 sc, .int .i64 nc, .int .i64 pc], .agg #[.int .u8 sv, .int .i64 nv, .int .i64 pv], .agg #[.int .u8 sj, .int .i64 nj, .int .i64 pj], .bool true, undef, undef, undef, undef, undef, undef, undef, undef, undef, undef, undef, undef, undef, undef, undef, undef, undef, undef, undef, undef, undef, undef, undef, undef, undef, undef, undef, undef, undef, undef, undef, undef, undef, undef, undef, undef, undef, undef, undef], []⟩) (by kernel_rfl)
  apply step_det (.bool true) rfl rfl rfl
  · intro w' hw' hH
    clear hH
    simp [YieldsF, go_sem]
    exact Ext.refl _
  apply step_on (.agg #[.int .u8 sa, .int .i64 na, .int .i64 pa]) (by kernel_rfl) rfl rfl
  · intro w' hw' hH
    have hb := HAb.out.ext hw'
    have c0 := hb.cell 0
    have c1 := hb.cell 1
    have c2 := hb.cell 2
    clear hH
    simp [YieldsF, go_sem, c0, c1, c2]
    exact Ext.refl _
  apply step_on (.agg #[.int .u8 sb, .int .i64 nb, .int .i64 pb]) (by kernel_rfl) rfl rfl
  · intro w' hw' hH
    have hb := HBb.out.ext hw'
    have c0 := hb.cell 0
    have c1 := hb.cell 1
    have c2 := hb.cell 2
    clear hH
    simp [YieldsF, go_sem, c0, c1, c2]
    exact Ext.refl _
  apply step_on (.agg #[.int .u8 su, .int .i64 nu, .int .i64 pu]) (by kernel_rfl) rfl rfl
  · intro w' hw' hH
    clear hH
    simp [YieldsF, go_sem]
    refine (join_v (sa, na, pa) (sb, nb, pb) (su, nu, pu) w' HU).mono ?_
    rintro e w2 ⟨rfl, hx⟩
    exact ⟨_, rfl, rfl, hx⟩
  apply step_on (.agg #[.int .u8 sb, .int .i64 nb, .int .i64 pb]) (by kernel_rfl) rfl rfl
  · intro w' hw' hH
    have hb := HBb.out.ext hw'
    have c0 := hb.cell 0
    have c1 := hb.cell 1
    have c2 := hb.cell 2
    clear hH
    simp [YieldsF, go_sem, c0, c1, c2]
    exact Ext.refl _
  apply step_on (.agg #[.int .u8 sa, .int .i64 na, .int .i64 pa]) (by kernel_rfl) rfl rfl
  · intro w' hw' hH
    have hb := HAb.out.ext hw'
    have c0 := hb.cell 0
    have c1 := hb.cell 1
    have c2 := hb.cell 2
    clear hH
    simp [YieldsF, go_sem, c0, c1, c2]
    exact Ext.refl _
  apply step_on (.agg #[.int .u8 su, .int .i64 nu, .int .i64 pu]) (by kernel_rfl) rfl rfl
  · intro w' hw' hH
    clear hH
    simp [YieldsF, go_sem]
    refine (join_v (sb, nb, pb) (sa, na, pa) (su, nu, pu) w' HUC).mono ?_
    rintro e w2 ⟨rfl, hx⟩
    exact ⟨_, rfl, rfl, hx⟩
  apply step_on (.bool true) (by kernel_rfl) rfl rfl
  · intro w' hw' hH
    clear hH
    simp [YieldsF, go_sem]
    exact Ext.refl _
  apply WalkF_at (a2 := ⟨#[.agg #[.int .u8 sa, .int .i64 na, .int .i64 pa], .agg #[.int .u8 sb, .int .i64 nb, .int .i64 pb], .agg #[.int .u8 sc, .int .i64 nc, .int .i64 pc], .bool own, .pointer (some ⟨ga, 0, none⟩), .pointer (some ⟨ga + 1, 0, none⟩), .pointer (some ⟨ga + 1 + 1, 0, none⟩), undef, .bool false, .pointer (some ⟨gj, 0, none⟩), .agg #[.int .u8 sa, .int .i64 na, .int .i64 pa], .agg #[.int .u8 sb, .int .i64 nb, .int .i64 pb], .agg #[.int .u8 su, .int .i64 nu, .int .i64 pu], .agg #[.int .u8 sc, .int .i64 nc, .int .i64 pc], .agg #[.int .u8 sj, .int .i64 nj, .int .i64 pj], .agg #[.int .u8 sj, .int .i64 nj, .int .i64 pj], .agg #[.int .u8 sa, .int .i64 na, .int .i64 pa], .agg #[.int .u8 sb, .int .i64 nb, .int .i64 pb], .agg #[.int .u8 sc, .int .i64 nc, .int .i64 pc], .agg #[.int .u8 sv, .int .i64 nv, .int .i64 pv], .agg #[.int .u8 sj, .int .i64 nj, .int .i64 pj], .bool true, .bool true, .agg #[.int .u8 sa, .int .i64 na, .int .i64 pa], .agg #[.int .u8 sb, .int .i64 nb, .int .i64 pb], .agg #[.int .u8 su, .int .i64 nu, .int .i64 pu], .agg #[.int .u8 sb, .int .i64 nb, .int .i64 pb], .agg #[.int .u8 sa, .int .i64 na, .int .i64 pa], .agg #[.int .u8 su, .int .i64 nu, .int .i64 pu], .bool true, undef, undef, undef, undef, undef, undef, undef, undef, undef, undef, undef, undef, undef, undef, undef, undef, undef, undef, undef, undef, undef, undef, undef, undef, undef, undef, undef, undef, undef, undef, undef], []⟩) (by kernel_rfl)
  apply step_det (.bool true) rfl rfl rfl
  · intro w' hw' hH
    clear hH
    simp [YieldsF, go_sem]
    exact Ext.refl _
  apply step_det (.bool true) rfl rfl rfl
  · intro w' hw' hH
    clear hH
    simp [YieldsF, go_sem]
    exact Ext.refl _
  apply step_on (.agg #[.int .u8 sj, .int .i64 nj, .int .i64 pj]) (by kernel_rfl) rfl rfl
  · intro w' hw' hH
    have hb := HJb.out.ext hw'
    have c0 := hb.cell 0
    have c1 := hb.cell 1
    have c2 := hb.cell 2
    clear hH
    simp [YieldsF, go_sem, c0, c1, c2]
    exact Ext.refl _
  apply step_on (.agg #[.int .u8 sj, .int .i64 nj, .int .i64 pj]) (by kernel_rfl) rfl rfl
  · intro w' hw' hH
    have hb := HJb.out.ext hw'
    have c0 := hb.cell 0
    have c1 := hb.cell 1
    have c2 := hb.cell 2
    clear hH
    simp [YieldsF, go_sem, c0, c1, c2]
    exact Ext.refl _
  apply step_on (.agg #[.int .u8 sj, .int .i64 nj, .int .i64 pj]) (by kernel_rfl) rfl rfl
  · intro w' hw' hH
    clear hH
    simp [YieldsF, go_sem]
    refine (join_v (sj, nj, pj) (sj, nj, pj) (sj, nj, pj) w' HJJ).mono ?_
    rintro e w2 ⟨rfl, hx⟩
    exact ⟨_, rfl, rfl, hx⟩
  apply step_on (.agg #[.int .u8 sj, .int .i64 nj, .int .i64 pj]) (by kernel_rfl) rfl rfl
  · intro w' hw' hH
    have hb := HJb.out.ext hw'
    have c0 := hb.cell 0
    have c1 := hb.cell 1
    have c2 := hb.cell 2
    clear hH
    simp [YieldsF, go_sem, c0, c1, c2]
    exact Ext.refl _
  apply step_on (.bool true) (by kernel_rfl) rfl rfl
  · intro w' hw' hH
    clear hH
    simp [YieldsF, go_sem]
    exact Ext.refl _
  apply step_det (.bool true) rfl rfl rfl
  · intro w' hw' hH
    clear hH
    simp [YieldsF, go_sem]
    exact Ext.refl _
  apply WalkF_at (a2 := ⟨#[.agg #[.int .u8 sa, .int .i64 na, .int .i64 pa], .agg #[.int .u8 sb, .int .i64 nb, .int .i64 pb], .agg #[.int .u8 sc, .int .i64 nc, .int .i64 pc], .bool own, .pointer (some ⟨ga, 0, none⟩), .pointer (some ⟨ga + 1, 0, none⟩), .pointer (some ⟨ga + 1 + 1, 0, none⟩), undef, .bool false, .pointer (some ⟨gj, 0, none⟩), .agg #[.int .u8 sa, .int .i64 na, .int .i64 pa], .agg #[.int .u8 sb, .int .i64 nb, .int .i64 pb], .agg #[.int .u8 su, .int .i64 nu, .int .i64 pu], .agg #[.int .u8 sc, .int .i64 nc, .int .i64 pc], .agg #[.int .u8 sj, .int .i64 nj, .int .i64 pj], .agg #[.int .u8 sj, .int .i64 nj, .int .i64 pj], .agg #[.int .u8 sa, .int .i64 na, .int .i64 pa], .agg #[.int .u8 sb, .int .i64 nb, .int .i64 pb], .agg #[.int .u8 sc, .int .i64 nc, .int .i64 pc], .agg #[.int .u8 sv, .int .i64 nv, .int .i64 pv], .agg #[.int .u8 sj, .int .i64 nj, .int .i64 pj], .bool true, .bool true, .agg #[.int .u8 sa, .int .i64 na, .int .i64 pa], .agg #[.int .u8 sb, .int .i64 nb, .int .i64 pb], .agg #[.int .u8 su, .int .i64 nu, .int .i64 pu], .agg #[.int .u8 sb, .int .i64 nb, .int .i64 pb], .agg #[.int .u8 sa, .int .i64 na, .int .i64 pa], .agg #[.int .u8 su, .int .i64 nu, .int .i64 pu], .bool true, .bool true, .bool true, .agg #[.int .u8 sj, .int .i64 nj, .int .i64 pj], .agg #[.int .u8 sj, .int .i64 nj, .int .i64 pj], .agg #[.int .u8 sj, .int .i64 nj, .int .i64 pj], .agg #[.int .u8 sj, .int .i64 nj, .int .i64 pj], .bool true, .bool true, undef, undef, undef, undef, undef, undef, undef, undef, undef, undef, undef, undef, undef, undef, undef, undef, undef, undef, undef, undef, undef, undef, undef], []⟩) (by kernel_rfl)
  apply step_det (.bool true) rfl rfl rfl
  · intro w' hw' hH
    clear hH
    simp [YieldsF, go_sem]
    exact Ext.refl _
  apply step_on (.agg #[.int .u8 sa, .int .i64 na, .int .i64 pa]) (by kernel_rfl) rfl rfl
  · intro w' hw' hH
    have hb := HAb.out.ext hw'
    have c0 := hb.cell 0
    have c1 := hb.cell 1
    have c2 := hb.cell 2
    clear hH
    simp [YieldsF, go_sem, c0, c1, c2]
    exact Ext.refl _
  apply step_on (.agg #[.int .u8 sc, .int .i64 nc, .int .i64 pc]) (by kernel_rfl) rfl rfl
  · intro w' hw' hH
    have hb := HCb.out.ext hw'
    have c0 := hb.cell 0
    have c1 := hb.cell 1
    have c2 := hb.cell 2
    clear hH
    simp [YieldsF, go_sem, c0, c1, c2]
    exact Ext.refl _
  apply step_on (.bool own) (by kernel_rfl) rfl rfl
  · intro w' hw' hH
    clear hH
    simp [YieldsF, go_sem]
    exact Ext.refl _
  apply step_on (.bool false) (by kernel_rfl) rfl rfl
  · intro w' hw' hH
    clear hH
    simp [YieldsF, go_sem]
    refine (may_v (sa, na, pa) (sc, nc, pc) own false w' HM1).mono ?_
    rintro e w2 ⟨rfl, hx⟩
    exact ⟨_, rfl, rfl, hx⟩
  apply step_on (.bool true) (by kernel_rfl) rfl rfl
  · intro w' hw' hH
    clear hH
    simp [YieldsF, go_sem]
    exact Ext.refl _
  apply step_on (.bool true) (by kernel_rfl) rfl rfl
  · intro w' hw' hH
    clear hH
    simp [YieldsF, go_sem]
    exact Ext.refl _
  apply step_off (by kernel_rfl) rfl
  apply WalkF_at (a2 := ⟨#[.agg #[.int .u8 sa, .int .i64 na, .int .i64 pa], .agg #[.int .u8 sb, .int .i64 nb, .int .i64 pb], .agg #[.int .u8 sc, .int .i64 nc, .int .i64 pc], .bool own, .pointer (some ⟨ga, 0, none⟩), .pointer (some ⟨ga + 1, 0, none⟩), .pointer (some ⟨ga + 1 + 1, 0, none⟩), undef, .bool false, .pointer (some ⟨gj, 0, none⟩), .agg #[.int .u8 sa, .int .i64 na, .int .i64 pa], .agg #[.int .u8 sb, .int .i64 nb, .int .i64 pb], .agg #[.int .u8 su, .int .i64 nu, .int .i64 pu], .agg #[.int .u8 sc, .int .i64 nc, .int .i64 pc], .agg #[.int .u8 sj, .int .i64 nj, .int .i64 pj], .agg #[.int .u8 sj, .int .i64 nj, .int .i64 pj], .agg #[.int .u8 sa, .int .i64 na, .int .i64 pa], .agg #[.int .u8 sb, .int .i64 nb, .int .i64 pb], .agg #[.int .u8 sc, .int .i64 nc, .int .i64 pc], .agg #[.int .u8 sv, .int .i64 nv, .int .i64 pv], .agg #[.int .u8 sj, .int .i64 nj, .int .i64 pj], .bool true, .bool true, .agg #[.int .u8 sa, .int .i64 na, .int .i64 pa], .agg #[.int .u8 sb, .int .i64 nb, .int .i64 pb], .agg #[.int .u8 su, .int .i64 nu, .int .i64 pu], .agg #[.int .u8 sb, .int .i64 nb, .int .i64 pb], .agg #[.int .u8 sa, .int .i64 na, .int .i64 pa], .agg #[.int .u8 su, .int .i64 nu, .int .i64 pu], .bool true, .bool true, .bool true, .agg #[.int .u8 sj, .int .i64 nj, .int .i64 pj], .agg #[.int .u8 sj, .int .i64 nj, .int .i64 pj], .agg #[.int .u8 sj, .int .i64 nj, .int .i64 pj], .agg #[.int .u8 sj, .int .i64 nj, .int .i64 pj], .bool true, .bool true, .bool true, .agg #[.int .u8 sa, .int .i64 na, .int .i64 pa], .agg #[.int .u8 sc, .int .i64 nc, .int .i64 pc], .bool own, .bool false, .bool true, .bool true, undef, undef, undef, undef, undef, undef, undef, undef, undef, undef, undef, undef, undef, undef, undef, undef], []⟩) (by kernel_rfl)
  apply step_off (by kernel_rfl) rfl
  apply step_off (by kernel_rfl) rfl
  apply step_on (.bool true) (by kernel_rfl) rfl rfl
  · intro w' hw' hH
    clear hH
    simp [YieldsF, go_sem]
    exact Ext.refl _
  apply step_on (.bool true) (by kernel_rfl) rfl rfl
  · intro w' hw' hH
    clear hH
    simp [YieldsF, go_sem]
    exact Ext.refl _
  apply step_off (by kernel_rfl) rfl
  apply step_off (by kernel_rfl) rfl
  apply step_off (by kernel_rfl) rfl
  apply step_off (by kernel_rfl) rfl
  apply WalkF_at (a2 := ⟨#[.agg #[.int .u8 sa, .int .i64 na, .int .i64 pa], .agg #[.int .u8 sb, .int .i64 nb, .int .i64 pb], .agg #[.int .u8 sc, .int .i64 nc, .int .i64 pc], .bool own, .pointer (some ⟨ga, 0, none⟩), .pointer (some ⟨ga + 1, 0, none⟩), .pointer (some ⟨ga + 1 + 1, 0, none⟩), undef, .bool false, .pointer (some ⟨gj, 0, none⟩), .agg #[.int .u8 sa, .int .i64 na, .int .i64 pa], .agg #[.int .u8 sb, .int .i64 nb, .int .i64 pb], .agg #[.int .u8 su, .int .i64 nu, .int .i64 pu], .agg #[.int .u8 sc, .int .i64 nc, .int .i64 pc], .agg #[.int .u8 sj, .int .i64 nj, .int .i64 pj], .agg #[.int .u8 sj, .int .i64 nj, .int .i64 pj], .agg #[.int .u8 sa, .int .i64 na, .int .i64 pa], .agg #[.int .u8 sb, .int .i64 nb, .int .i64 pb], .agg #[.int .u8 sc, .int .i64 nc, .int .i64 pc], .agg #[.int .u8 sv, .int .i64 nv, .int .i64 pv], .agg #[.int .u8 sj, .int .i64 nj, .int .i64 pj], .bool true, .bool true, .agg #[.int .u8 sa, .int .i64 na, .int .i64 pa], .agg #[.int .u8 sb, .int .i64 nb, .int .i64 pb], .agg #[.int .u8 su, .int .i64 nu, .int .i64 pu], .agg #[.int .u8 sb, .int .i64 nb, .int .i64 pb], .agg #[.int .u8 sa, .int .i64 na, .int .i64 pa], .agg #[.int .u8 su, .int .i64 nu, .int .i64 pu], .bool true, .bool true, .bool true, .agg #[.int .u8 sj, .int .i64 nj, .int .i64 pj], .agg #[.int .u8 sj, .int .i64 nj, .int .i64 pj], .agg #[.int .u8 sj, .int .i64 nj, .int .i64 pj], .agg #[.int .u8 sj, .int .i64 nj, .int .i64 pj], .bool true, .bool true, .bool true, .agg #[.int .u8 sa, .int .i64 na, .int .i64 pa], .agg #[.int .u8 sc, .int .i64 nc, .int .i64 pc], .bool own, .bool false, .bool true, .bool true, undef, undef, undef, .bool true, .bool true, undef, undef, undef, undef, undef, undef, undef, undef, undef, undef, undef], []⟩) (by kernel_rfl)
  apply step_off (by kernel_rfl) rfl
  apply step_off (by kernel_rfl) rfl
  apply step_on (.bool true) (by kernel_rfl) rfl rfl
  · intro w' hw' hH
    clear hH
    simp [YieldsF, go_sem]
    exact Ext.refl _
  apply step_det (.bool true) rfl rfl rfl
  · intro w' hw' hH
    clear hH
    simp [YieldsF, go_sem]
    exact Ext.refl _
  apply step_det (.bool true) rfl rfl rfl
  · intro w' hw' hH
    clear hH
    simp [YieldsF, go_sem]
    exact Ext.refl _
  apply step_on (.bool true) (by kernel_rfl) rfl rfl
  · intro w' hw' hH
    clear hH
    simp [YieldsF, go_sem]
    refine (works_any w').mono ?_
    rintro e w2 ⟨rfl, hx⟩
    exact ⟨_, rfl, rfl, hx⟩
  apply step_det (.bool true) rfl rfl rfl
  · intro w' hw' hH
    clear hH
    simp [YieldsF, go_sem]
    exact Ext.refl _
  apply step_det (.bool true) rfl rfl rfl
  · intro w' hw' hH
    clear hH
    simp [YieldsF, go_sem]
    exact Ext.refl _
  apply WalkF_at (a2 := ⟨#[.agg #[.int .u8 sa, .int .i64 na, .int .i64 pa], .agg #[.int .u8 sb, .int .i64 nb, .int .i64 pb], .agg #[.int .u8 sc, .int .i64 nc, .int .i64 pc], .bool own, .pointer (some ⟨ga, 0, none⟩), .pointer (some ⟨ga + 1, 0, none⟩), .pointer (some ⟨ga + 1 + 1, 0, none⟩), undef, .bool true, .pointer (some ⟨gj, 0, none⟩), .agg #[.int .u8 sa, .int .i64 na, .int .i64 pa], .agg #[.int .u8 sb, .int .i64 nb, .int .i64 pb], .agg #[.int .u8 su, .int .i64 nu, .int .i64 pu], .agg #[.int .u8 sc, .int .i64 nc, .int .i64 pc], .agg #[.int .u8 sj, .int .i64 nj, .int .i64 pj], .agg #[.int .u8 sj, .int .i64 nj, .int .i64 pj], .agg #[.int .u8 sa, .int .i64 na, .int .i64 pa], .agg #[.int .u8 sb, .int .i64 nb, .int .i64 pb], .agg #[.int .u8 sc, .int .i64 nc, .int .i64 pc], .agg #[.int .u8 sv, .int .i64 nv, .int .i64 pv], .agg #[.int .u8 sj, .int .i64 nj, .int .i64 pj], .bool true, .bool true, .agg #[.int .u8 sa, .int .i64 na, .int .i64 pa], .agg #[.int .u8 sb, .int .i64 nb, .int .i64 pb], .agg #[.int .u8 su, .int .i64 nu, .int .i64 pu], .agg #[.int .u8 sb, .int .i64 nb, .int .i64 pb], .agg #[.int .u8 sa, .int .i64 na, .int .i64 pa], .agg #[.int .u8 su, .int .i64 nu, .int .i64 pu], .bool true, .bool true, .bool true, .agg #[.int .u8 sj, .int .i64 nj, .int .i64 pj], .agg #[.int .u8 sj, .int .i64 nj, .int .i64 pj], .agg #[.int .u8 sj, .int .i64 nj, .int .i64 pj], .agg #[.int .u8 sj, .int .i64 nj, .int .i64 pj], .bool true, .bool true, .bool true, .agg #[.int .u8 sa, .int .i64 na, .int .i64 pa], .agg #[.int .u8 sc, .int .i64 nc, .int .i64 pc], .bool own, .bool false, .bool true, .bool true, undef, undef, undef, .bool true, .bool true, undef, undef, undef, undef, undef, undef, .bool true, .bool true, .bool true, .bool true, .bool true], []⟩) (by kernel_rfl)
  apply WalkF_nil
  intro w4 hw4 hH
  clear hH
  have HEX4 : Hid (Ext w w4) := Ext.trans HEX.out hw4
  clear hw4
  simp only [Act.put]
  go_wp2_with fail
  go_ret
  exact ⟨rfl, HEX4.out⟩
set_option maxHeartbeats 8000000 in
theorem keyJoins_zero (na pa sb nb pb sc nc pc su nu pu sv nv pv sj nj pj : Int) (own : Bool) (w : World) (works_any : ∀ w, Calls Try.prog 16 #[] w fun e w' => e = .returned (.bool true) ∧ Ext w w')
    (HU : Hid (joinK (0, na, pa) (sb, nb, pb) = (su, nu, pu))) (HUC : Hid (joinK (sb, nb, pb) (0, na, pa) = (su, nu, pu))) (HV : Hid (joinK (sb, nb, pb) (sc, nc, pc) = (sv, nv, pv)))
    (HJ : Hid (joinK (su, nu, pu) (sc, nc, pc) = (sj, nj, pj))) (HAV : Hid (joinK (0, na, pa) (sv, nv, pv) = (sj, nj, pj))) (HJJ : Hid (joinK (sj, nj, pj) (sj, nj, pj) = (sj, nj, pj)))
    (HM1 : Hid (mayN (0, na, pa) (sc, nc, pc) own = true)) :
    Calls Try.prog 3 #[.agg #[.int .u8 0, .int .i64 na, .int .i64 pa], .agg #[.int .u8 sb, .int .i64 nb, .int .i64 pb], .agg #[.int .u8 sc, .int .i64 nc, .int .i64 pc], .bool own] w fun e w' => e = .returned (.bool true) ∧ Ext w w' := by
  go_enter Try.func3, Try.ntmps3
  go_wp2_with fail
  have hA : Blk (((w.alloc (.cells #[.int .u8 0, .int .i64 na, .int .i64 pa] 23)).alloc (.cells #[.int .u8 sb, .int .i64 nb, .int .i64 pb] 23)).alloc (.cells #[.int .u8 sc, .int .i64 nc, .int .i64 pc] 23)) w.heap.size 23 #[.int .u8 0, .int .i64 na, .int .i64 pa] := ((Blk.new w _ _).alloc _).alloc _
  have hB : Blk (((w.alloc (.cells #[.int .u8 0, .int .i64 na, .int .i64 pa] 23)).alloc (.cells #[.int .u8 sb, .int .i64 nb, .int .i64 pb] 23)).alloc (.cells #[.int .u8 sc, .int .i64 nc, .int .i64 pc] 23)) (w.heap.size + 1) 23 #[.int .u8 sb, .int .i64 nb, .int .i64 pb] := by
    have := (Blk.new (w.alloc (.cells #[.int .u8 0, .int .i64 na, .int .i64 pa] 23)) 23 #[.int .u8 sb, .int .i64 nb, .int .i64 pb]).alloc (.cells #[.int .u8 sc, .int .i64 nc, .int .i64 pc] 23)
    simpa using this
  have hC : Blk (((w.alloc (.cells #[.int .u8 0, .int .i64 na, .int .i64 pa] 23)).alloc (.cells #[.int .u8 sb, .int .i64 nb, .int .i64 pb] 23)).alloc (.cells #[.int .u8 sc, .int .i64 nc, .int .i64 pc] 23)) (w.heap.size + 1 + 1) 23 #[.int .u8 sc, .int .i64 nc, .int .i64 pc] := by
    have := Blk.new ((w.alloc (.cells #[.int .u8 0, .int .i64 na, .int .i64 pa] 23)).alloc (.cells #[.int .u8 sb, .int .i64 nb, .int .i64 pb] 23)) 23 #[.int .u8 sc, .int .i64 nc, .int .i64 pc]
    simpa using this
  have HEX : Hid (Ext w (((w.alloc (.cells #[.int .u8 0, .int .i64 na, .int .i64 pa] 23)).alloc (.cells #[.int .u8 sb, .int .i64 nb, .int .i64 pb] 23)).alloc (.cells #[.int .u8 sc, .int .i64 nc, .int .i64 pc] 23))) := Ext.trans (Ext.trans (Ext.alloc _ _) (Ext.alloc _ _)) (Ext.alloc _ _)
  generalize ((w.alloc (.cells #[.int .u8 0, .int .i64 na, .int .i64 pa] 23)).alloc (.cells #[.int .u8 sb, .int .i64 nb, .int .i64 pb] 23)).alloc (.cells #[.int .u8 sc, .int .i64 nc, .int .i64 pc] 23) = w1 at *
  have HAb := Lib.hid hA
  have HBb := Lib.hid hB
  have HCb := Lib.hid hC
  clear hA hB hC
  have HL : Hid (w.heap.size ≤ w1.heap.size) := HEX.out.size
  generalize hgad : w.heap.size = ga at *
  have HGA := Lib.hid hgad
  clear hgad
  apply wp_region_ext_tail 6 (by kernel_rfl) (by kernel_rfl) (by kernel_rfl)
  dsimp only [List.take_succ_cons, List.take_zero, List.drop_succ_cons, List.drop_zero]
  apply step_det (.agg #[.int .u8 0, .int .i64 na, .int .i64 pa]) rfl rfl rfl
  · intro w' hw' hH
    have hb := HAb.out.ext hw'
    have c0 := hb.cell 0
    have c1 := hb.cell 1
    have c2 := hb.cell 2
    clear hH
    simp [YieldsF, go_sem, c0, c1, c2]
    exact Ext.refl _
  apply step_det (.agg #[.int .u8 sb, .int .i64 nb, .int .i64 pb]) rfl rfl rfl
  · intro w' hw' hH
    have hb := HBb.out.ext hw'
    have c0 := hb.cell 0
    have c1 := hb.cell 1
    have c2 := hb.cell 2
    clear hH
    simp [YieldsF, go_sem, c0, c1, c2]
    exact Ext.refl _
  apply step_det (.agg #[.int .u8 su, .int .i64 nu, .int .i64 pu]) rfl rfl rfl
  · intro w' hw' hH
    clear hH
    simp [YieldsF, go_sem]
    refine (join_v (0, na, pa) (sb, nb, pb) (su, nu, pu) w' HU).mono ?_
    rintro e w2 ⟨rfl, hx⟩
    exact ⟨_, rfl, rfl, hx⟩
  apply step_det (.agg #[.int .u8 sc, .int .i64 nc, .int .i64 pc]) rfl rfl rfl
  · intro w' hw' hH
    have hb := HCb.out.ext hw'
    have c0 := hb.cell 0
    have c1 := hb.cell 1
    have c2 := hb.cell 2
    clear hH
    simp [YieldsF, go_sem, c0, c1, c2]
    exact Ext.refl _
  apply step_det (.agg #[.int .u8 sj, .int .i64 nj, .int .i64 pj]) rfl rfl rfl
  · intro w' hw' hH
    clear hH
    simp [YieldsF, go_sem]
    refine (join_v (su, nu, pu) (sc, nc, pc) (sj, nj, pj) w' HJ).mono ?_
    rintro e w2 ⟨rfl, hx⟩
    exact ⟨_, rfl, rfl, hx⟩
  apply step_fact (fun v w' => ∃ g, v = .pointer (some ⟨g, 0, none⟩) ∧ Blk w' g 23 #[.int .u8 0, .int .i64 0, .int .i64 0] ∧ w1.heap.size ≤ g) (by rintro v w w' ⟨g, h1, h2, h3⟩ hx; exact ⟨g, h1, h2.ext hx, h3⟩) rfl rfl rfl
  · intro w' hw' hH
    clear hH
    simp [YieldsF, go_sem]
    exact ⟨⟨Blk.new w' _ _, hw'.size⟩, Ext.alloc _ _⟩
  intro v9
  apply WalkF_nil
  intro w2 hw2 hH
  obtain ⟨gj, rfl, hJ2, hgj⟩ := hH _ (List.mem_cons_self ..)
  clear hH
  have HA2 := Lib.hid (HAb.out.ext hw2)
  have HB2 := Lib.hid (HBb.out.ext hw2)
  have HC2 := Lib.hid (HCb.out.ext hw2)
  have HEX2 : Hid (Ext w w2) := Ext.trans HEX.out hw2
  have HG : Hid (ga + 1 + 1 < gj ∧ w.heap.size ≤ gj) := Lib.hid ⟨by have := HCb.out.lt; omega, by have := HL.out; have := HGA.out; omega⟩
  clear HAb HBb HCb HEX HL hw2 hgj
  simp only [Act.put]
  simp
  refine wpList_put rfl 23 (.tmp 9) (.tmp 14) rfl gj #[.int .u8 sj, .int .i64 nj, .int .i64 pj] rfl rfl 23 _ hJ2 (by kernel_rfl) rfl rfl ?_
  intro w3 ht3 hJ3
  have HAb := Lib.hid (ht3.blk HA2.out (by have := HG.out; omega))
  have HBb := Lib.hid (ht3.blk HB2.out (by have := HG.out; omega))
  have HCb := Lib.hid (ht3.blk HC2.out (by have := HG.out; omega))
  have HJb := Lib.hid hJ3
  have HEX : Hid (Ext w w3) := ht3.ext HEX2.out HG.out.2
  clear ht3 hJ2 hJ3 HA2 HB2 HC2 HEX2 HG
  simp only [Act.put]
  go_wp2_with fail
  apply wp_region_ext (by kernel_rfl) (by kernel_rfl) (by kernel_rfl)
  apply step_det (.agg #[.int .u8 sj, .int .i64 nj, .int .i64 pj]) rfl rfl rfl
  · intro w' hw' hH
    have hb := HJb.out.ext hw'
    have c0 := hb.cell 0
    have c1 := hb.cell 1
    have c2 := hb.cell 2
    clear hH
    simp [YieldsF, go_sem, c0, c1, c2]
    exact Ext.refl _
  apply step_det (.agg #[.int .u8 0, .int .i64 na, .int .i64 pa]) rfl rfl rfl
  · intro w' hw' hH
    have hb := HAb.out.ext hw'
    have c0 := hb.cell 0
    have c1 := hb.cell 1
    have c2 := hb.cell 2
    clear hH
    simp [YieldsF, go_sem, c0, c1, c2]
    exact Ext.refl _
  apply step_det (.agg #[.int .u8 sb, .int .i64 nb, .int .i64 pb]) rfl rfl rfl
  · intro w' hw' hH
    have hb := HBb.out.ext hw'
    have c0 := hb.cell 0
    have c1 := hb.cell 1
    have c2 := hb.cell 2
    clear hH
    simp [YieldsF, go_sem, c0, c1, c2]
    exact Ext.refl _
  apply step_det (.agg #[.int .u8 sc, .int .i64 nc, .int .i64 pc]) rfl rfl rfl
  · intro w' hw' hH
    have hb := HCb.out.ext hw'
    have c0 := hb.cell 0
    have c1 := hb.cell 1
    have c2 := hb.cell 2
    clear hH
    simp [YieldsF, go_sem, c0, c1, c2]
    exact Ext.refl _
  apply step_det (.agg #[.int .u8 sv, .int .i64 nv, .int .i64 pv]) rfl rfl rfl
  · intro w' hw' hH
    clear hH
    simp [YieldsF, go_sem]
    refine (join_v (sb, nb, pb) (sc, nc, pc) (sv, nv, pv) w' HV).mono ?_
    rintro e w2 ⟨rfl, hx⟩
    exact ⟨_, rfl, rfl, hx⟩
  apply step_det (.agg #[.int .u8 sj, .int .i64 nj, .int .i64 pj]) rfl rfl rfl
  · intro w' hw' hH
    clear hH
    simp [YieldsF, go_sem]
    refine (join_v (0, na, pa) (sv, nv, pv) (sj, nj, pj) w' HAV).mono ?_
    rintro e w2 ⟨rfl, hx⟩
    exact ⟨_, rfl, rfl, hx⟩
  apply step_det (.bool true) rfl rfl rfl
  · intro w' hw' hH
    clear hH
    simp [YieldsF, go_sem]
    exact Ext.refl _
  apply WalkF_at (a2 := ⟨#[.agg #[.int .u8 0, .int .i64 na, .int .i64 pa], .agg #[.int .u8 sb, .int .i64 nb, .int .i64 pb], .agg #[.int .u8 sc, .int .i64 nc, .int .i64 pc], .bool own, .pointer (some ⟨ga, 0, none⟩), .pointer (some ⟨ga + 1, 0, none⟩), .pointer (some ⟨ga + 1 + 1, 0, none⟩), undef, .bool false, .pointer (some ⟨gj, 0, none⟩), .agg #[.int .u8 0, .int .i64 na, .int .i64 pa], .agg #[.int .u8 sb, .int .i64 nb, .int .i64 pb], .agg #[.int .u8 su, .int .i64 nu, .int .i64 pu], .agg #[.int .u8 sc, .int .i64 nc, .int .i64 pc], .agg #[.int .u8 sj, .int .i64 nj, .int .i64 pj], .agg #[.int .u8 sj, .int .i64 nj, .int .i64 pj], .agg #[.int .u8 0, .int .i64 na, .int .i64 pa], .agg #[.int .u8 sb, .int .i64 nb, .int .i64 pb], .agg #[.int .u8 sc, .int .i64 nc, .int .i64 pc], .agg #[.int .u8 sv, .int .i64 nv, .int .i64 pv], .agg #[.int .u8 sj, .int .i64 nj, .int .i64 pj], .bool true, undef, undef, undef, undef, undef, undef, undef, undef, undef, undef, undef, undef, undef, undef, undef, undef, undef, undef, undef, undef, undef, undef, undef, undef, undef, undef, undef, undef, undef, undef, undef, undef, undef, undef, undef, undef, undef, undef, undef], []⟩) (by kernel_rfl)
  apply step_det (.bool true) rfl rfl rfl
  · intro w' hw' hH
    clear hH
    simp [YieldsF, go_sem]
    exact Ext.refl _
  apply step_on (.agg #[.int .u8 0, .int .i64 na, .int .i64 pa]) (by kernel_rfl) rfl rfl
  · intro w' hw' hH
    have hb := HAb.out.ext hw'
    have c0 := hb.cell 0
    have c1 := hb.cell 1
    have c2 := hb.cell 2
    clear hH
    simp [YieldsF, go_sem, c0, c1, c2]
    exact Ext.refl _
  apply step_on (.agg #[.int .u8 sb, .int .i64 nb, .int .i64 pb]) (by kernel_rfl) rfl rfl
  · intro w' hw' hH
    have hb := HBb.out.ext hw'
    have c0 := hb.cell 0
    have c1 := hb.cell 1
    have c2 := hb.cell 2
    clear hH
    simp [YieldsF, go_sem, c0, c1, c2]
    exact Ext.refl _
  apply step_on (.agg #[.int .u8 su, .int .i64 nu, .int .i64 pu]) (by kernel_rfl) rfl rfl
  · intro w' hw' hH
    clear hH
    simp [YieldsF, go_sem]
    refine (join_v (0, na, pa) (sb, nb, pb) (su, nu, pu) w' HU).mono ?_
    rintro e w2 ⟨rfl, hx⟩
    exact ⟨_, rfl, rfl, hx⟩
  apply step_on (.agg #[.int .u8 sb, .int .i64 nb, .int .i64 pb]) (by kernel_rfl) rfl rfl
  · intro w' hw' hH
    have hb := HBb.out.ext hw'
    have c0 := hb.cell 0
    have c1 := hb.cell 1
    have c2 := hb.cell 2
    clear hH
    simp [YieldsF, go_sem, c0, c1, c2]
    exact Ext.refl _
  apply step_on (.agg #[.int .u8 0, .int .i64 na, .int .i64 pa]) (by kernel_rfl) rfl rfl
  · intro w' hw' hH
    have hb := HAb.out.ext hw'
    have c0 := hb.cell 0
    have c1 := hb.cell 1
    have c2 := hb.cell 2
    clear hH
    simp [YieldsF, go_sem, c0, c1, c2]
    exact Ext.refl _
  apply step_on (.agg #[.int .u8 su, .int .i64 nu, .int .i64 pu]) (by kernel_rfl) rfl rfl
  · intro w' hw' hH
    clear hH
    simp [YieldsF, go_sem]
    refine (join_v (sb, nb, pb) (0, na, pa) (su, nu, pu) w' HUC).mono ?_
    rintro e w2 ⟨rfl, hx⟩
    exact ⟨_, rfl, rfl, hx⟩
  apply step_on (.bool true) (by kernel_rfl) rfl rfl
  · intro w' hw' hH
    clear hH
    simp [YieldsF, go_sem]
    exact Ext.refl _
  apply WalkF_at (a2 := ⟨#[.agg #[.int .u8 0, .int .i64 na, .int .i64 pa], .agg #[.int .u8 sb, .int .i64 nb, .int .i64 pb], .agg #[.int .u8 sc, .int .i64 nc, .int .i64 pc], .bool own, .pointer (some ⟨ga, 0, none⟩), .pointer (some ⟨ga + 1, 0, none⟩), .pointer (some ⟨ga + 1 + 1, 0, none⟩), undef, .bool false, .pointer (some ⟨gj, 0, none⟩), .agg #[.int .u8 0, .int .i64 na, .int .i64 pa], .agg #[.int .u8 sb, .int .i64 nb, .int .i64 pb], .agg #[.int .u8 su, .int .i64 nu, .int .i64 pu], .agg #[.int .u8 sc, .int .i64 nc, .int .i64 pc], .agg #[.int .u8 sj, .int .i64 nj, .int .i64 pj], .agg #[.int .u8 sj, .int .i64 nj, .int .i64 pj], .agg #[.int .u8 0, .int .i64 na, .int .i64 pa], .agg #[.int .u8 sb, .int .i64 nb, .int .i64 pb], .agg #[.int .u8 sc, .int .i64 nc, .int .i64 pc], .agg #[.int .u8 sv, .int .i64 nv, .int .i64 pv], .agg #[.int .u8 sj, .int .i64 nj, .int .i64 pj], .bool true, .bool true, .agg #[.int .u8 0, .int .i64 na, .int .i64 pa], .agg #[.int .u8 sb, .int .i64 nb, .int .i64 pb], .agg #[.int .u8 su, .int .i64 nu, .int .i64 pu], .agg #[.int .u8 sb, .int .i64 nb, .int .i64 pb], .agg #[.int .u8 0, .int .i64 na, .int .i64 pa], .agg #[.int .u8 su, .int .i64 nu, .int .i64 pu], .bool true, undef, undef, undef, undef, undef, undef, undef, undef, undef, undef, undef, undef, undef, undef, undef, undef, undef, undef, undef, undef, undef, undef, undef, undef, undef, undef, undef, undef, undef, undef, undef], []⟩) (by kernel_rfl)
  apply step_det (.bool true) rfl rfl rfl
  · intro w' hw' hH
    clear hH
    simp [YieldsF, go_sem]
    exact Ext.refl _
  apply step_det (.bool true) rfl rfl rfl
  · intro w' hw' hH
    clear hH
    simp [YieldsF, go_sem]
    exact Ext.refl _
  apply step_on (.agg #[.int .u8 sj, .int .i64 nj, .int .i64 pj]) (by kernel_rfl) rfl rfl
  · intro w' hw' hH
    have hb := HJb.out.ext hw'
    have c0 := hb.cell 0
    have c1 := hb.cell 1
    have c2 := hb.cell 2
    clear hH
    simp [YieldsF, go_sem, c0, c1, c2]
    exact Ext.refl _
  apply step_on (.agg #[.int .u8 sj, .int .i64 nj, .int .i64 pj]) (by kernel_rfl) rfl rfl
  · intro w' hw' hH
    have hb := HJb.out.ext hw'
    have c0 := hb.cell 0
    have c1 := hb.cell 1
    have c2 := hb.cell 2
    clear hH
    simp [YieldsF, go_sem, c0, c1, c2]
    exact Ext.refl _
  apply step_on (.agg #[.int .u8 sj, .int .i64 nj, .int .i64 pj]) (by kernel_rfl) rfl rfl
  · intro w' hw' hH
    clear hH
    simp [YieldsF, go_sem]
    refine (join_v (sj, nj, pj) (sj, nj, pj) (sj, nj, pj) w' HJJ).mono ?_
    rintro e w2 ⟨rfl, hx⟩
    exact ⟨_, rfl, rfl, hx⟩
  apply step_on (.agg #[.int .u8 sj, .int .i64 nj, .int .i64 pj]) (by kernel_rfl) rfl rfl
  · intro w' hw' hH
    have hb := HJb.out.ext hw'
    have c0 := hb.cell 0
    have c1 := hb.cell 1
    have c2 := hb.cell 2
    clear hH
    simp [YieldsF, go_sem, c0, c1, c2]
    exact Ext.refl _
  apply step_on (.bool true) (by kernel_rfl) rfl rfl
  · intro w' hw' hH
    clear hH
    simp [YieldsF, go_sem]
    exact Ext.refl _
  apply step_det (.bool true) rfl rfl rfl
  · intro w' hw' hH
    clear hH
    simp [YieldsF, go_sem]
    exact Ext.refl _
  apply WalkF_at (a2 := ⟨#[.agg #[.int .u8 0, .int .i64 na, .int .i64 pa], .agg #[.int .u8 sb, .int .i64 nb, .int .i64 pb], .agg #[.int .u8 sc, .int .i64 nc, .int .i64 pc], .bool own, .pointer (some ⟨ga, 0, none⟩), .pointer (some ⟨ga + 1, 0, none⟩), .pointer (some ⟨ga + 1 + 1, 0, none⟩), undef, .bool false, .pointer (some ⟨gj, 0, none⟩), .agg #[.int .u8 0, .int .i64 na, .int .i64 pa], .agg #[.int .u8 sb, .int .i64 nb, .int .i64 pb], .agg #[.int .u8 su, .int .i64 nu, .int .i64 pu], .agg #[.int .u8 sc, .int .i64 nc, .int .i64 pc], .agg #[.int .u8 sj, .int .i64 nj, .int .i64 pj], .agg #[.int .u8 sj, .int .i64 nj, .int .i64 pj], .agg #[.int .u8 0, .int .i64 na, .int .i64 pa], .agg #[.int .u8 sb, .int .i64 nb, .int .i64 pb], .agg #[.int .u8 sc, .int .i64 nc, .int .i64 pc], .agg #[.int .u8 sv, .int .i64 nv, .int .i64 pv], .agg #[.int .u8 sj, .int .i64 nj, .int .i64 pj], .bool true, .bool true, .agg #[.int .u8 0, .int .i64 na, .int .i64 pa], .agg #[.int .u8 sb, .int .i64 nb, .int .i64 pb], .agg #[.int .u8 su, .int .i64 nu, .int .i64 pu], .agg #[.int .u8 sb, .int .i64 nb, .int .i64 pb], .agg #[.int .u8 0, .int .i64 na, .int .i64 pa], .agg #[.int .u8 su, .int .i64 nu, .int .i64 pu], .bool true, .bool true, .bool true, .agg #[.int .u8 sj, .int .i64 nj, .int .i64 pj], .agg #[.int .u8 sj, .int .i64 nj, .int .i64 pj], .agg #[.int .u8 sj, .int .i64 nj, .int .i64 pj], .agg #[.int .u8 sj, .int .i64 nj, .int .i64 pj], .bool true, .bool true, undef, undef, undef, undef, undef, undef, undef, undef, undef, undef, undef, undef, undef, undef, undef, undef, undef, undef, undef, undef, undef, undef, undef], []⟩) (by kernel_rfl)
  apply step_det (.bool true) rfl rfl rfl
  · intro w' hw' hH
    clear hH
    simp [YieldsF, go_sem]
    exact Ext.refl _
  apply step_on (.agg #[.int .u8 0, .int .i64 na, .int .i64 pa]) (by kernel_rfl) rfl rfl
  · intro w' hw' hH
    have hb := HAb.out.ext hw'
    have c0 := hb.cell 0
    have c1 := hb.cell 1
    have c2 := hb.cell 2
    clear hH
    simp [YieldsF, go_sem, c0, c1, c2]
    exact Ext.refl _
  apply step_on (.agg #[.int .u8 sc, .int .i64 nc, .int .i64 pc]) (by kernel_rfl) rfl rfl
  · intro w' hw' hH
    have hb := HCb.out.ext hw'
    have c0 := hb.cell 0
    have c1 := hb.cell 1
    have c2 := hb.cell 2
    clear hH
    simp [YieldsF, go_sem, c0, c1, c2]
    exact Ext.refl _
  apply step_on (.bool own) (by kernel_rfl) rfl rfl
  · intro w' hw' hH
    clear hH
    simp [YieldsF, go_sem]
    exact Ext.refl _
  apply step_on (.bool true) (by kernel_rfl) rfl rfl
  · intro w' hw' hH
    clear hH
    simp [YieldsF, go_sem]
    refine (may_v (0, na, pa) (sc, nc, pc) own true w' HM1).mono ?_
    rintro e w2 ⟨rfl, hx⟩
    exact ⟨_, rfl, rfl, hx⟩
  apply step_on (.bool false) (by kernel_rfl) rfl rfl
  · intro w' hw' hH
    clear hH
    simp [YieldsF, go_sem]
    exact Ext.refl _
  apply step_on (.bool false) (by kernel_rfl) rfl rfl
  · intro w' hw' hH
    clear hH
    simp [YieldsF, go_sem]
    exact Ext.refl _
  apply step_on (.pointer (some ⟨ga, 0, none⟩)) (by kernel_rfl) rfl rfl
  · intro w' hw' hH
    clear hH
    simp [YieldsF, go_sem]
    exact Ext.refl _
  apply WalkF_at (a2 := ⟨#[.agg #[.int .u8 0, .int .i64 na, .int .i64 pa], .agg #[.int .u8 sb, .int .i64 nb, .int .i64 pb], .agg #[.int .u8 sc, .int .i64 nc, .int .i64 pc], .bool own, .pointer (some ⟨ga, 0, none⟩), .pointer (some ⟨ga + 1, 0, none⟩), .pointer (some ⟨ga + 1 + 1, 0, none⟩), undef, .bool false, .pointer (some ⟨gj, 0, none⟩), .agg #[.int .u8 0, .int .i64 na, .int .i64 pa], .agg #[.int .u8 sb, .int .i64 nb, .int .i64 pb], .agg #[.int .u8 su, .int .i64 nu, .int .i64 pu], .agg #[.int .u8 sc, .int .i64 nc, .int .i64 pc], .agg #[.int .u8 sj, .int .i64 nj, .int .i64 pj], .agg #[.int .u8 sj, .int .i64 nj, .int .i64 pj], .agg #[.int .u8 0, .int .i64 na, .int .i64 pa], .agg #[.int .u8 sb, .int .i64 nb, .int .i64 pb], .agg #[.int .u8 sc, .int .i64 nc, .int .i64 pc], .agg #[.int .u8 sv, .int .i64 nv, .int .i64 pv], .agg #[.int .u8 sj, .int .i64 nj, .int .i64 pj], .bool true, .bool true, .agg #[.int .u8 0, .int .i64 na, .int .i64 pa], .agg #[.int .u8 sb, .int .i64 nb, .int .i64 pb], .agg #[.int .u8 su, .int .i64 nu, .int .i64 pu], .agg #[.int .u8 sb, .int .i64 nb, .int .i64 pb], .agg #[.int .u8 0, .int .i64 na, .int .i64 pa], .agg #[.int .u8 su, .int .i64 nu, .int .i64 pu], .bool true, .bool true, .bool true, .agg #[.int .u8 sj, .int .i64 nj, .int .i64 pj], .agg #[.int .u8 sj, .int .i64 nj, .int .i64 pj], .agg #[.int .u8 sj, .int .i64 nj, .int .i64 pj], .agg #[.int .u8 sj, .int .i64 nj, .int .i64 pj], .bool true, .bool true, .bool true, .agg #[.int .u8 0, .int .i64 na, .int .i64 pa], .agg #[.int .u8 sc, .int .i64 nc, .int .i64 pc], .bool own, .bool true, .bool false, .bool false, .pointer (some ⟨ga, 0, none⟩), undef, undef, undef, undef, undef, undef, undef, undef, undef, undef, undef, undef, undef, undef, undef], []⟩) (by kernel_rfl)
  apply step_on (.int .u8 0) (by kernel_rfl) rfl rfl
  · intro w' hw' hH
    have hb := HAb.out.ext hw'
    have c0 := hb.cell 0
    clear hH
    simp [YieldsF, go_sem, c0]
    exact Ext.refl _
  apply step_on (.bool true) (by kernel_rfl) rfl rfl
  · intro w' hw' hH
    clear hH
    simp [YieldsF, go_sem, *]
    exact Ext.refl _
  apply step_on (.bool true) (by kernel_rfl) rfl rfl
  · intro w' hw' hH
    clear hH
    simp [YieldsF, go_sem]
    exact Ext.refl _
  apply step_on (.bool true) (by kernel_rfl) rfl rfl
  · intro w' hw' hH
    clear hH
    simp [YieldsF, go_sem]
    exact Ext.refl _
  apply step_off (by kernel_rfl) rfl
  apply step_off (by kernel_rfl) rfl
  apply step_off (by kernel_rfl) rfl
  apply step_off (by kernel_rfl) rfl
  apply WalkF_at (a2 := ⟨#[.agg #[.int .u8 0, .int .i64 na, .int .i64 pa], .agg #[.int .u8 sb, .int .i64 nb, .int .i64 pb], .agg #[.int .u8 sc, .int .i64 nc, .int .i64 pc], .bool own, .pointer (some ⟨ga, 0, none⟩), .pointer (some ⟨ga + 1, 0, none⟩), .pointer (some ⟨ga + 1 + 1, 0, none⟩), undef, .bool false, .pointer (some ⟨gj, 0, none⟩), .agg #[.int .u8 0, .int .i64 na, .int .i64 pa], .agg #[.int .u8 sb, .int .i64 nb, .int .i64 pb], .agg #[.int .u8 su, .int .i64 nu, .int .i64 pu], .agg #[.int .u8 sc, .int .i64 nc, .int .i64 pc], .agg #[.int .u8 sj, .int .i64 nj, .int .i64 pj], .agg #[.int .u8 sj, .int .i64 nj, .int .i64 pj], .agg #[.int .u8 0, .int .i64 na, .int .i64 pa], .agg #[.int .u8 sb, .int .i64 nb, .int .i64 pb], .agg #[.int .u8 sc, .int .i64 nc, .int .i64 pc], .agg #[.int .u8 sv, .int .i64 nv, .int .i64 pv], .agg #[.int .u8 sj, .int .i64 nj, .int .i64 pj], .bool true, .bool true, .agg #[.int .u8 0, .int .i64 na, .int .i64 pa], .agg #[.int .u8 sb, .int .i64 nb, .int .i64 pb], .agg #[.int .u8 su, .int .i64 nu, .int .i64 pu], .agg #[.int .u8 sb, .int .i64 nb, .int .i64 pb], .agg #[.int .u8 0, .int .i64 na, .int .i64 pa], .agg #[.int .u8 su, .int .i64 nu, .int .i64 pu], .bool true, .bool true, .bool true, .agg #[.int .u8 sj, .int .i64 nj, .int .i64 pj], .agg #[.int .u8 sj, .int .i64 nj, .int .i64 pj], .agg #[.int .u8 sj, .int .i64 nj, .int .i64 pj], .agg #[.int .u8 sj, .int .i64 nj, .int .i64 pj], .bool true, .bool true, .bool true, .agg #[.int .u8 0, .int .i64 na, .int .i64 pa], .agg #[.int .u8 sc, .int .i64 nc, .int .i64 pc], .bool own, .bool true, .bool false, .bool false, .pointer (some ⟨ga, 0, none⟩), .int .u8 0, .bool true, .bool true, .bool true, undef, undef, undef, undef, undef, undef, undef, undef, undef, undef, undef], []⟩) (by kernel_rfl)
  apply step_off (by kernel_rfl) rfl
  apply step_off (by kernel_rfl) rfl
  apply step_on (.bool true) (by kernel_rfl) rfl rfl
  · intro w' hw' hH
    clear hH
    simp [YieldsF, go_sem]
    exact Ext.refl _
  apply step_det (.bool true) rfl rfl rfl
  · intro w' hw' hH
    clear hH
    simp [YieldsF, go_sem]
    exact Ext.refl _
  apply step_det (.bool true) rfl rfl rfl
  · intro w' hw' hH
    clear hH
    simp [YieldsF, go_sem]
    exact Ext.refl _
  apply step_on (.bool true) (by kernel_rfl) rfl rfl
  · intro w' hw' hH
    clear hH
    simp [YieldsF, go_sem]
    refine (works_any w').mono ?_
    rintro e w2 ⟨rfl, hx⟩
    exact ⟨_, rfl, rfl, hx⟩
  apply step_det (.bool true) rfl rfl rfl
  · intro w' hw' hH
    clear hH
    simp [YieldsF, go_sem]
    exact Ext.refl _
  apply step_det (.bool true) rfl rfl rfl
  · intro w' hw' hH
    clear hH
    simp [YieldsF, go_sem]
    exact Ext.refl _
  apply WalkF_at (a2 := ⟨#[.agg #[.int .u8 0, .int .i64 na, .int .i64 pa], .agg #[.int .u8 sb, .int .i64 nb, .int .i64 pb], .agg #[.int .u8 sc, .int .i64 nc, .int .i64 pc], .bool own, .pointer (some ⟨ga, 0, none⟩), .pointer (some ⟨ga + 1, 0, none⟩), .pointer (some ⟨ga + 1 + 1, 0, none⟩), undef, .bool true, .pointer (some ⟨gj, 0, none⟩), .agg #[.int .u8 0, .int .i64 na, .int .i64 pa], .agg #[.int .u8 sb, .int .i64 nb, .int .i64 pb], .agg #[.int .u8 su, .int .i64 nu, .int .i64 pu], .agg #[.int .u8 sc, .int .i64 nc, .int .i64 pc], .agg #[.int .u8 sj, .int .i64 nj, .int .i64 pj], .agg #[.int .u8 sj, .int .i64 nj, .int .i64 pj], .agg #[.int .u8 0, .int .i64 na, .int .i64 pa], .agg #[.int .u8 sb, .int .i64 nb, .int .i64 pb], .agg #[.int .u8 sc, .int .i64 nc, .int .i64 pc], .agg #[.int .u8 sv, .int .i64 nv, .int .i64 pv], .agg #[.int .u8 sj, .int .i64 nj, .int .i64 pj], .bool true, .bool true, .agg #[.int .u8 0, .int .i64 na, .int .i64 pa], .agg #[.int .u8 sb, .int .i64 nb, .int .i64 pb], .agg #[.int .u8 su, .int .i64 nu, .int .i64 pu], .agg #[.int .u8 sb, .int .i64 nb, .int .i64 pb], .agg #[.int .u8 0, .int .i64 na, .int .i64 pa], .agg #[.int .u8 su, .int .i64 nu, .int .i64 pu], .bool true, .bool true, .bool true, .agg #[.int .u8 sj, .int .i64 nj, .int .i64 pj], .agg #[.int .u8 sj, .int .i64 nj, .int .i64 pj], .agg #[.int .u8 sj, .int .i64 nj, .int .i64 pj], .agg #[.int .u8 sj, .int .i64 nj, .int .i64 pj], .bool true, .bool true, .bool true, .agg #[.int .u8 0, .int .i64 na, .int .i64 pa], .agg #[.int .u8 sc, .int .i64 nc, .int .i64 pc], .bool own, .bool true, .bool false, .bool false, .pointer (some ⟨ga, 0, none⟩), .int .u8 0, .bool true, .bool true, .bool true, undef, undef, undef, undef, undef, undef, .bool true, .bool true, .bool true, .bool true, .bool true], []⟩) (by kernel_rfl)
  apply WalkF_nil
  intro w4 hw4 hH
  clear hH
  have HEX4 : Hid (Ext w w4) := Ext.trans HEX.out hw4
  clear hw4
  simp only [Act.put]
  go_wp2_with fail
  go_ret
  exact ⟨rfl, HEX4.out⟩
def jX (x y : KindD) : KindD := if x.1 = 0 then y else if y.1 = 0 ∨ x = y then x else (3, 0, 0)
theorem joinK_eq (a b : KindD) : joinK a b = jX (plainN a) (plainN b) := rfl
theorem plain_zero (k : KindD) (h : (plainN k).1 = 0) : plainN k = (0, 0, 0) := by
  obtain ⟨s, n, p⟩ := k
  rw [plainN_eq] at h ⊢
  split at h
  · rename_i h1
    rw [if_pos h1]
    simp only at h
    subst h
    rcases h1 with ⟨_, rfl, rfl⟩ | ⟨h2, _⟩ | ⟨h2, _⟩
    · rfl
    · cases h2
    · cases h2
  · cases h
theorem plain_idem (k : KindD) : plainN (plainN k) = plainN k := by
  obtain ⟨s, n, p⟩ := k
  by_cases h : (s = 0 ∧ n = 0 ∧ p = 0) ∨ (s = 1 ∧ p = 0) ∨ (s = 2 ∧ 0 ≤ p)
  · have e : plainN (s, n, p) = (s, n, p) := by rw [plainN_eq, if_pos h]
    rw [e, e]
  · have e : plainN (s, n, p) = (3, 0, 0) := by rw [plainN_eq, if_neg h]
    rw [e]
    rfl
theorem plain_ne (k : KindD) (h : k.1 ≠ 0) : (plainN k).1 ≠ 0 := by
  obtain ⟨s, n, p⟩ := k
  rw [plainN_eq]
  split
  · exact h
  · decide
theorem jX_cases (x y : KindD) : jX x y = x ∨ jX x y = y ∨ jX x y = (3, 0, 0) := by
  unfold jX
  split
  · exact .inr (.inl rfl)
  · split
    · exact .inl rfl
    · exact .inr (.inr rfl)
theorem plain_join (a b : KindD) : plainN (joinK a b) = joinK a b := by
  rw [joinK_eq]
  rcases jX_cases (plainN a) (plainN b) with h | h | h <;> rw [h]
  · exact plain_idem a
  · exact plain_idem b
  · rfl
theorem jX_comm (a b : KindD) : jX (plainN a) (plainN b) = jX (plainN b) (plainN a) := by
  have ha := plain_zero a
  have hb := plain_zero b
  generalize plainN a = x at *
  generalize plainN b = y at *
  unfold jX
  by_cases h1 : x.1 = 0 <;> by_cases h2 : y.1 = 0 <;> simp only [h1, h2, if_true, if_false, true_or, false_or]
  · rw [ha h1, hb h2]
  · by_cases h : x = y
    · rw [if_pos h, if_pos h.symm]; exact h
    · rw [if_neg h, if_neg (fun e => h e.symm)]
theorem jX_top (x : KindD) (h : x.1 ≠ 0) : jX x (3, 0, 0) = (3, 0, 0) := by
  unfold jX
  rw [if_neg h]
  split
  · rename_i h1
    rcases h1 with h1 | h1
    · cases h1
    · exact h1
  · rfl
theorem jX_ftop (x : KindD) : jX (3, 0, 0) x = (3, 0, 0) := by
  unfold jX
  rw [if_neg (by decide)]
  split <;> rfl
theorem jX_self (x : KindD) : jX x x = x := by unfold jX; split <;> simp
theorem jX_zero (x y : KindD) (h : x.1 = 0) : jX x y = y := by unfold jX; rw [if_pos h]
theorem jX_zero' (x y : KindD) (hx : x.1 ≠ 0) (h : y.1 = 0) : jX x y = x := by unfold jX; rw [if_neg hx, if_pos (.inl h)]
theorem jX_ne (x y : KindD) (hx : x.1 ≠ 0) (hy : y.1 ≠ 0) (h : x ≠ y) : jX x y = (3, 0, 0) := by unfold jX; rw [if_neg hx, if_neg (by rintro (h1 | h1); exact hy h1; exact h h1)]
theorem jX_assoc (x y z : KindD) : jX (jX x y) z = jX x (jX y z) := by
  by_cases hx : x.1 = 0
  · rw [jX_zero x y hx, jX_zero x _ hx]
  by_cases hy : y.1 = 0
  · rw [jX_zero' x y hx hy, jX_zero y z hy]
  by_cases hxy : x = y
  · subst hxy
    rw [jX_self]
    by_cases hz : z.1 = 0
    · rw [jX_zero' x z hx hz, jX_self]
    · by_cases hxz : x = z
      · subst hxz; rw [jX_self, jX_self]
      · rw [jX_ne x z hx hz hxz, jX_top x hx]
  · rw [jX_ne x y hx hy hxy, jX_ftop]
    by_cases hz : z.1 = 0
    · rw [jX_zero' y z hy hz, jX_ne x y hx hy hxy]
    · by_cases hyz : y = z
      · subst hyz; rw [jX_self, jX_ne x y hx hy hxy]
      · rw [jX_ne y z hy hz hyz, jX_top x hx]
theorem join_assoc (a b c : KindD) : joinK (joinK a b) c = joinK a (joinK b c) := by
  rw [joinK_eq (joinK a b) c, joinK_eq a (joinK b c), plain_join, plain_join, joinK_eq, joinK_eq, jX_assoc]
theorem join_comm (a b : KindD) : joinK b a = joinK a b := by rw [joinK_eq, joinK_eq, jX_comm]
theorem join_self (a b : KindD) : joinK (joinK a b) (joinK a b) = joinK a b := by rw [joinK_eq (joinK a b), plain_join, jX_self]
theorem may_join (a b c : KindD) (own : Bool) (ha : a.1 ≠ 0) (h : mayN a c own = true) : mayN (joinK a b) c own = true := by
  unfold mayN at *
  rw [plain_join, joinK_eq]
  have hx := plain_ne a ha
  generalize plainN a = x at *
  unfold jX
  rw [if_neg hx]
  split
  · exact h
  · simp [mayX]
theorem keyJoins_any (works_any : ∀ w, Calls Try.prog 16 #[] w fun e w' => e = .returned (.bool true) ∧ Ext w w') (a b c : KindD) (own : Bool) (w : World) :
    Calls Try.prog 3 #[a.val, b.val, c.val, .bool own] w fun e w' => e = .returned (.bool true) ∧ Ext w w' := by
  have hm := may_join a b c own
  obtain ⟨u, hu⟩ : ∃ u, joinK a b = u := ⟨_, rfl⟩
  obtain ⟨v, hv⟩ : ∃ v, joinK b c = v := ⟨_, rfl⟩
  obtain ⟨j, hj⟩ : ∃ j, joinK u c = j := ⟨_, rfl⟩
  have h1 : joinK b a = u := by rw [join_comm, hu]
  have h2 : joinK a v = j := by rw [← hv, ← join_assoc, hu, hj]
  have h3 : joinK j j = j := by rw [← hj, join_self]
  rw [hu] at hm
  obtain ⟨m, hm1⟩ : ∃ m, mayN a c own = m := ⟨_, rfl⟩
  obtain ⟨sa, na, pa⟩ := a
  obtain ⟨sb, nb, pb⟩ := b
  obtain ⟨sc, nc, pc⟩ := c
  obtain ⟨su, nu, pu⟩ := u
  obtain ⟨sv, nv, pv⟩ := v
  obtain ⟨sj, nj, pj⟩ := j
  cases m
  · exact keyJoins_no sa na pa sb nb pb sc nc pc su nu pu sv nv pv sj nj pj own w works_any (Lib.hid hu) (Lib.hid h1) (Lib.hid hv) (Lib.hid hj) (Lib.hid h2) (Lib.hid h3) (Lib.hid hm1)
  · by_cases h0 : sa = 0
    · subst h0
      exact keyJoins_zero na pa sb nb pb sc nc pc su nu pu sv nv pv sj nj pj own w works_any (Lib.hid hu) (Lib.hid h1) (Lib.hid hv) (Lib.hid hj) (Lib.hid h2) (Lib.hid h3) (Lib.hid hm1)
    · exact keyJoins_yes sa na pa sb nb pb sc nc pc su nu pu sv nv pv sj nj pj own w works_any (Lib.hid hu) (Lib.hid h1) (Lib.hid hv) (Lib.hid hj) (Lib.hid h2) (Lib.hid h3) (Lib.hid hm1) (beq_eq_false_iff_ne.2 h0) (Lib.hid (hm h0 hm1))
end Go.Proofs.Ythofccoefiogiaa
