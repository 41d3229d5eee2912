/- interlockkit.PlainCode, walked, for instructions without keys and values. -/
import Derived.Test.YthofccoefiogiaaRefW
namespace Go.Proofs.Ythofccoefiogiaa
open Go Go.RowKit
set_option linter.unusedVariables false
set_option linter.unusedSimpArgs false
theorem plainTerms_nil (w : World) : Calls Try.prog 50 #[.slice none 0 0] w fun e w' => e = .returned (.slice none 0 0) ∧ w = w' := by
  go_enter Try.func50, Try.ntmps50
  go_wp2_with fail
  go_loop [3, 4] (fun out i => out = .slice none 0 0 ∧ i = .int .i64 0) (fun _ _ => 0)
  case atStart => exact ⟨rfl, rfl⟩
  case round =>
    obtain ⟨rfl, rfl⟩ := hrel
    go_wp2_with fail
    go_ret
    exact ⟨rfl, rfl⟩
theorem icells_take (l : List InstrD) (k : Nat) (h : k < l.length) : icells (l.take (k + 1)) = icells (l.take k) ++ l[k].cells := by
  rw [List.take_succ_eq_append_getElem h]
  unfold icells
  rw [List.flatMap_append]
  simp
set_option maxHeartbeats 8000000 in
set_option maxRecDepth 4000 in
theorem plainCode_bare (A : Option Addr) (is : List InstrD) (n c : Nat) (w : World) (hn : n = is.length) (hlen : is.length ≤ 1000) (hA : Cells w A (icells is)) (hbare : ∀ x ∈ is, bareI x) :
    Calls Try.prog 19 #[.slice A n c] w fun e w' => ∃ A' c', e = .returned (.slice A' is.length c') ∧ (A' = none → c' = 0) ∧ Cells w' A' (icells is) ∧ Ext w w' := by
  subst hn
  obtain ⟨i0, hi, hz0, hz1, hz2⟩ := info_parts infoInstrR
  have HC := Lib.hid hA
  have HBA := Lib.hid hbare
  clear hA hbare
  go_enter Try.func19, Try.ntmps19
  go_wp2_with fail
  go_loopw [3, 4] (fun out i wr => ∃ (k : Nat) (A' : Option Addr) (c' : Nat), k ≤ is.length ∧ i = .int .i64 k ∧ out = .slice A' k c' ∧ (A' = none → c' = 0) ∧ Hid (wr.ownsRow w.heap.size 92 13 (.slice A' k c') k (icells (is.take k))) ∧ Hid (Ext w wr)) (fun _ i _ => is.length - (intOf i).toNat)
  case atStart => exact ⟨0, none, 0, Nat.zero_le _, rfl, rfl, fun _ => rfl, World.ownsRow_nil _ _ _ _, Ext.refl _⟩
  case round =>
    obtain ⟨k, A', c', hk, rfl, rfl, hz, HO, HX⟩ := hrel
    obtain ⟨wa, rfl⟩ : ∃ wa : World, wa = wr := ⟨_, rfl⟩
    by_cases hlt : k < is.length
    · have d0 : decide ((k : Int) < (is.length : Int)) = true := decide_eq_true (by omega)
      obtain ⟨b, off, rfl, hb, hcc⟩ := (HC.out.ext HX.out).at_ (by rw [icells_len]; omega)
      have hx : ∀ j, j < 13 → wa.cell? ⟨b, off + k * 13 + j, none⟩ = (is[k].cells)[j]? := fun j hj => by
        rw [Nat.add_assoc, hcc _ (by rw [icells_len]; omega)]
        exact icells_at is k j hlt hj
      have hbk := HBA.out _ (List.getElem_mem hlt)
      have htk := icells_take is k hlt
      generalize is[k] = x at *
      obtain ⟨op, node, mode, table, row, col, var, goes, eq, frm, upto, ⟨ka, kl, kc⟩, ⟨va, vl, vc⟩⟩ := x
      obtain ⟨hb1, hb2⟩ := hbk
      simp only at hb1 hb2
      cases hb1
      cases hb2
      have HT := Lib.hid htk
      have x0 : wa.cell? ⟨b, off + k * 13, none⟩ = some (.int .u8 op) := hx 0 (by omega)
      have x1 : wa.cell? ⟨b, off + k * 13 + 1, none⟩ = some (.int .i64 node) := hx 1 (by omega)
      have x2 : wa.cell? ⟨b, off + k * 13 + 2, none⟩ = some (.int .u8 mode) := hx 2 (by omega)
      have x3 : wa.cell? ⟨b, off + k * 13 + 3, none⟩ = some (.int .i64 table) := hx 3 (by omega)
      have x4 : wa.cell? ⟨b, off + k * 13 + 4, none⟩ = some (.bool row) := hx 4 (by omega)
      have x5 : wa.cell? ⟨b, off + k * 13 + 5, none⟩ = some (.int .i64 col) := hx 5 (by omega)
      have x6 : wa.cell? ⟨b, off + k * 13 + 6, none⟩ = some (.int .i64 var) := hx 6 (by omega)
      have x7 : wa.cell? ⟨b, off + k * 13 + 7, none⟩ = some (.int .i64 goes) := hx 7 (by omega)
      have x8 : wa.cell? ⟨b, off + k * 13 + 8, none⟩ = some (.bool eq) := hx 8 (by omega)
      have x9 : wa.cell? ⟨b, off + k * 13 + 9, none⟩ = some (.int .i64 frm) := hx 9 (by omega)
      have x10 : wa.cell? ⟨b, off + k * 13 + 10, none⟩ = some (.int .i64 upto) := hx 10 (by omega)
      have x11 : wa.cell? ⟨b, off + k * 13 + 11, none⟩ = some (.slice none 0 0) := hx 11 (by omega)
      have x12 : wa.cell? ⟨b, off + k * 13 + 12, none⟩ = some (.slice none 0 0) := hx 12 (by omega)
      clear hx hcc htk
      go_upto_region 6 with fail
      have HOA := Lib.hid (HO.out.alloc (.cells #[.int .u8 op, .int .i64 node, .int .u8 mode, .int .i64 table, .bool row, .int .i64 col, .int .i64 var, .int .i64 goes, .bool eq, .int .i64 frm, .int .i64 upto, .slice none 0 0, .slice none 0 0] 50))
      have HXA : Hid (Ext w (wa.alloc (.cells #[.int .u8 op, .int .i64 node, .int .u8 mode, .int .i64 table, .bool row, .int .i64 col, .int .i64 var, .int .i64 goes, .bool eq, .int .i64 frm, .int .i64 upto, .slice none 0 0, .slice none 0 0] 50))) := Ext.trans HX.out (Ext.alloc _ _)
      have HY : Hid (Blk (wa.alloc (.cells #[.int .u8 op, .int .i64 node, .int .u8 mode, .int .i64 table, .bool row, .int .i64 col, .int .i64 var, .int .i64 goes, .bool eq, .int .i64 frm, .int .i64 upto, .slice none 0 0, .slice none 0 0] 50)) wa.heap.size 50 #[.int .u8 op, .int .i64 node, .int .u8 mode, .int .i64 table, .bool row, .int .i64 col, .int .i64 var, .int .i64 goes, .bool eq, .int .i64 frm, .int .i64 upto, .slice none 0 0, .slice none 0 0]) := Blk.new _ _ _
      clear HO HX x0 x1 x2 x3 x4 x5 x6 x7 x8 x9 x10 x11 x12
      generalize wa.alloc (.cells #[.int .u8 op, .int .i64 node, .int .u8 mode, .int .i64 table, .bool row, .int .i64 col, .int .i64 var, .int .i64 goes, .bool eq, .int .i64 frm, .int .i64 upto, .slice none 0 0, .slice none 0 0] 50) = wd at *
      generalize wa.heap.size = gt at *
      apply wp_region_ext_tail 27 (by kernel_rfl) (by kernel_rfl) (by kernel_rfl)
      dsimp only [List.take_succ_cons, List.take_zero, List.drop_succ_cons, List.drop_zero]
      apply step_det (.pointer (some ⟨gt, 0, none⟩)) rfl rfl rfl
      · intro w' hw' hH
        clear hH
        simp [YieldsF, go_sem]
        exact Ext.refl _
      apply step_det (.int .u8 op) rfl rfl rfl
      · intro w' hw' hH
        clear hH
        have cc := (HY.out.ext hw').cell 0
        simp [YieldsF, go_sem, cc]
        exact Ext.refl _
      apply step_det (.pointer (some ⟨gt, 1, none⟩)) rfl rfl rfl
      · intro w' hw' hH
        clear hH
        simp [YieldsF, go_sem]
        exact Ext.refl _
      apply step_det (.int .i64 node) rfl rfl rfl
      · intro w' hw' hH
        clear hH
        have cc := (HY.out.ext hw').cell 1
        simp [YieldsF, go_sem, cc]
        exact Ext.refl _
      apply step_det (.pointer (some ⟨gt, 2, none⟩)) rfl rfl rfl
      · intro w' hw' hH
        clear hH
        simp [YieldsF, go_sem]
        exact Ext.refl _
      simp only [Act.put, List.setIfInBounds_toArray, List.set_cons_succ, List.set_cons_zero]
      apply step_det (.int .u8 mode) rfl rfl rfl
      · intro w' hw' hH
        clear hH
        have cc := (HY.out.ext hw').cell 2
        simp [YieldsF, go_sem, cc]
        exact Ext.refl _
      apply step_det (.pointer (some ⟨gt, 3, none⟩)) rfl rfl rfl
      · intro w' hw' hH
        clear hH
        simp [YieldsF, go_sem]
        exact Ext.refl _
      apply step_det (.int .i64 table) rfl rfl rfl
      · intro w' hw' hH
        clear hH
        have cc := (HY.out.ext hw').cell 3
        simp [YieldsF, go_sem, cc]
        exact Ext.refl _
      apply step_det (.pointer (some ⟨gt, 4, none⟩)) rfl rfl rfl
      · intro w' hw' hH
        clear hH
        simp [YieldsF, go_sem]
        exact Ext.refl _
      apply step_det (.bool row) rfl rfl rfl
      · intro w' hw' hH
        clear hH
        have cc := (HY.out.ext hw').cell 4
        simp [YieldsF, go_sem, cc]
        exact Ext.refl _
      apply step_det (.pointer (some ⟨gt, 5, none⟩)) rfl rfl rfl
      · intro w' hw' hH
        clear hH
        simp [YieldsF, go_sem]
        exact Ext.refl _
      simp only [Act.put, List.setIfInBounds_toArray, List.set_cons_succ, List.set_cons_zero]
      apply step_det (.int .i64 col) rfl rfl rfl
      · intro w' hw' hH
        clear hH
        have cc := (HY.out.ext hw').cell 5
        simp [YieldsF, go_sem, cc]
        exact Ext.refl _
      apply step_det (.pointer (some ⟨gt, 6, none⟩)) rfl rfl rfl
      · intro w' hw' hH
        clear hH
        simp [YieldsF, go_sem]
        exact Ext.refl _
      apply step_det (.int .i64 var) rfl rfl rfl
      · intro w' hw' hH
        clear hH
        have cc := (HY.out.ext hw').cell 6
        simp [YieldsF, go_sem, cc]
        exact Ext.refl _
      apply step_det (.pointer (some ⟨gt, 7, none⟩)) rfl rfl rfl
      · intro w' hw' hH
        clear hH
        simp [YieldsF, go_sem]
        exact Ext.refl _
      apply step_det (.int .i64 goes) rfl rfl rfl
      · intro w' hw' hH
        clear hH
        have cc := (HY.out.ext hw').cell 7
        simp [YieldsF, go_sem, cc]
        exact Ext.refl _
      apply step_det (.pointer (some ⟨gt, 8, none⟩)) rfl rfl rfl
      · intro w' hw' hH
        clear hH
        simp [YieldsF, go_sem]
        exact Ext.refl _
      simp only [Act.put, List.setIfInBounds_toArray, List.set_cons_succ, List.set_cons_zero]
      apply step_det (.bool eq) rfl rfl rfl
      · intro w' hw' hH
        clear hH
        have cc := (HY.out.ext hw').cell 8
        simp [YieldsF, go_sem, cc]
        exact Ext.refl _
      apply step_det (.pointer (some ⟨gt, 9, none⟩)) rfl rfl rfl
      · intro w' hw' hH
        clear hH
        simp [YieldsF, go_sem]
        exact Ext.refl _
      apply step_det (.int .i64 frm) rfl rfl rfl
      · intro w' hw' hH
        clear hH
        have cc := (HY.out.ext hw').cell 9
        simp [YieldsF, go_sem, cc]
        exact Ext.refl _
      apply step_det (.pointer (some ⟨gt, 10, none⟩)) rfl rfl rfl
      · intro w' hw' hH
        clear hH
        simp [YieldsF, go_sem]
        exact Ext.refl _
      apply step_det (.int .i64 upto) rfl rfl rfl
      · intro w' hw' hH
        clear hH
        have cc := (HY.out.ext hw').cell 10
        simp [YieldsF, go_sem, cc]
        exact Ext.refl _
      apply step_det (.pointer (some ⟨gt, 11, none⟩)) rfl rfl rfl
      · intro w' hw' hH
        clear hH
        simp [YieldsF, go_sem]
        exact Ext.refl _
      simp only [Act.put, List.setIfInBounds_toArray, List.set_cons_succ, List.set_cons_zero]
      apply step_det (.slice none 0 0) rfl rfl rfl
      · intro w' hw' hH
        clear hH
        have cc := (HY.out.ext hw').cell 11
        simp [YieldsF, go_sem, cc]
        exact Ext.refl _
      apply step_det (.slice none 0 0) rfl rfl rfl
      · intro w' hw' hH
        clear hH
        simp [YieldsF, go_sem]
        refine (plainTerms_nil w').mono ?_
        rintro e w2 ⟨rfl, rfl⟩
        exact ⟨_, rfl, rfl, Ext.refl _⟩
      apply step_det (.agg #[.int .u8 op, .int .i64 node, .int .u8 mode, .int .i64 table, .bool row, .int .i64 col, .int .i64 var, .int .i64 goes, .bool eq, .int .i64 frm, .int .i64 upto, .slice none 0 0, .slice none 0 0]) rfl rfl rfl
      · intro w' hw' hH
        clear hH
        simp [YieldsF, go_sem]
        exact Ext.refl _
      apply step_fact (fun v w' => ∃ g', v = .pointer (some ⟨g', 0, none⟩) ∧ Blk w' g' 92 #[.int .u8 0, .int .i64 0, .int .u8 0, .int .i64 0, .bool false, .int .i64 0, .int .i64 0, .int .i64 0, .bool false, .int .i64 0, .int .i64 0, .slice none 0 0, .slice none 0 0] ∧ wd.heap.size ≤ g') (by rintro v w w' ⟨g, h1, h2, h3⟩ hx; exact ⟨g, h1, h2.ext hx, h3⟩) rfl rfl rfl
      · intro w' hw' hH
        clear hH
        simp [YieldsF, go_sem]
        exact ⟨⟨Blk.new w' _ _, hw'.size⟩, Ext.alloc _ _⟩
      intro v6
      apply WalkF_nil
      intro w2 hw2 hH
      obtain ⟨gp, rfl, hP, hgp⟩ := hH _ (List.mem_cons_self ..)
      clear hH
      have hown := own_ext HOA.out hw2
      have HXL : Hid (Ext w w2) := Ext.trans HXA.out hw2
      have hwg : w.heap.size ≤ gp := Nat.le_trans HXA.out.size hgp
      have HY2 := Lib.hid (HY.out.ext hw2)
      have hdf : wd.heap.size ≤ gp := hgp
      have HOLT := Lib.hid (HOA.out.lt)
      clear hw2
      simp only [Act.put]
      simp
      refine wpList_put rfl 92 (.tmp 6) (.tmp 43) rfl gp #[.int .u8 op, .int .i64 node, .int .u8 mode, .int .i64 table, .bool row, .int .i64 col, .int .i64 var, .int .i64 goes, .bool eq, .int .i64 frm, .int .i64 upto, .slice none 0 0, .slice none 0 0] rfl rfl 92 _ hP (by kernel_rfl) rfl rfl ?_
      intro w3 ht3 hC3
      have hne : (Value.slice A' k c').ownBlock ≠ some gp := fun e => by have := (HOLT.out gp e).2; omega
      have HO3 := Lib.hid (ht3.own hown hne)
      have HX3 : Hid (Ext w w3) := ht3.ext HXL.out hwg
      have hgt : gt < wd.heap.size := HY.out.lt
      have HY3 := Lib.hid (ht3.blk HY2.out (by omega))
      have HC3 := Lib.hid hC3
      clear ht3 hC3 hP hown hne
      simp only [Act.put]
      have y12 := HY3.out.cell 12
      go_wp2_with fail
      go_loopw [7] (fun i w4 => i = .int .i64 0 ∧ w4 = w3) (fun _ _ => 0)
      case atStart => exact ⟨rfl, rfl⟩
      case round =>
        obtain ⟨rfl, hw4⟩ := hrel
        subst hw4
        clear y12
        have y12 := HY3.out.cell 12
        have z0 := HC3.out.cell 0
        have z1 := HC3.out.cell 1
        have z2 := HC3.out.cell 2
        have z3 := HC3.out.cell 3
        have z4 := HC3.out.cell 4
        have z5 := HC3.out.cell 5
        have z6 := HC3.out.cell 6
        have z7 := HC3.out.cell 7
        have z8 := HC3.out.cell 8
        have z9 := HC3.out.cell 9
        have z10 := HC3.out.cell 10
        have z11 := HC3.out.cell 11
        have z12 := HC3.out.cell 12
        have hown := HO3.out.alloc (.cells #[.int .u8 op, .int .i64 node, .int .u8 mode, .int .i64 table, .bool row, .int .i64 col, .int .i64 var, .int .i64 goes, .bool eq, .int .i64 frm, .int .i64 upto, .slice none 0 0, .slice none 0 0] 92)
        have HXF : Hid (Ext w (wr.alloc (.cells #[.int .u8 op, .int .i64 node, .int .u8 mode, .int .i64 table, .bool row, .int .i64 col, .int .i64 var, .int .i64 goes, .bool eq, .int .i64 frm, .int .i64 upto, .slice none 0 0, .slice none 0 0] 92))) := Ext.trans HX3.out (Ext.alloc _ _)
        go_wp2_with (at_builtin; refine wpList_grow rfl _ _ 31 rfl w.heap.size 92 i0 _ 13 136 Try.underlying31 hi hz0 hz1 hz2 rfl (by decide) _ _ _ rfl hown _ 1 1 [.int .u8 op, .int .i64 node, .int .u8 mode, .int .i64 table, .bool row, .int .i64 col, .int .i64 var, .int .i64 goes, .bool eq, .int .i64 frm, .int .i64 upto, .slice none 0 0, .slice none 0 0] rfl (by simp) rfl ?c1 ?c2 ?c3 ?c4 HXF.out.size ?_)
        case c1 => exact Cells.new _ 92 #[.int .u8 op, .int .i64 node, .int .u8 mode, .int .i64 table, .bool row, .int .i64 col, .int .i64 var, .int .i64 goes, .bool eq, .int .i64 frm, .int .i64 upto, .slice none 0 0, .slice none 0 0]
        case c2 => first | exact ⟨rfl, rfl, rfl, rfl, rfl, rfl, rfl, rfl, rfl, rfl, rfl⟩ | exact ⟨rfl, rfl, rfl, rfl, rfl, rfl, rfl, rfl, rfl, rfl, rfl, rfl, rfl⟩ | (intro u hu; simp only [List.mem_cons, List.not_mem_nil, or_false] at hu; rcases hu with rfl | rfl | rfl | rfl | rfl | rfl | rfl | rfl | rfl | rfl | rfl | rfl | rfl <;> rfl)
        case c3 => unfold maxLen; omega
        case c4 => omega
        intro A2 c2 w5 z5 hown5 hg5
        have HO5 : Hid (w5.ownsRow w.heap.size 92 13 (.slice A2 (k + 1) c2) (k + 1) (icells (is.take (k + 1)))) := Lib.hid (by rw [HT.out]; exact hown5)
        have HX5 : Hid (Ext w w5) := Below.grown HXF.out hg5 HXF.out.size (fun k hk => (hown.lt k hk).1)
        clear hown hown5 hg5
        go_wp2_with fail
        exact ⟨⟨k + 1, A2, c2, by omega, by go_num, by first | trivial | rfl, z5, HO5, HX5⟩, by simp [intOf]; omega⟩
    · obtain rfl : k = is.length := by omega
      have d0 : decide ((is.length : Int) < (is.length : Int)) = false := by simp
      have hre := HO.out
      rw [List.take_length] at hre
      have HRE := Lib.hid hre
      clear hre
      go_wp2_with fail
      go_ret
      exact ⟨A', c', rfl, hz, Cells.own HRE.out, HX.out⟩
end Go.Proofs.Ythofccoefiogiaa
