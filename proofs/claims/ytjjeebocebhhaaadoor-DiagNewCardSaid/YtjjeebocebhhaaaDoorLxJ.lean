/- interlocklaw03.plain, same, interlockkit.SameBytes, walked. Condition: plain and same: of rows of the same tokens. -/
import Derived.Test.YtjjeebocebhhaaaDoorLxI
import Derived.Deep.Cut
namespace Go.Proofs.YtjjeebocebhhaaaDoor
open Go Go.RowKit
set_option linter.unusedVariables false
set_option linter.unusedSimpArgs false
theorem kcells_at (l : List Tok) (k : Nat) (h : k < l.length) : ∀ j, j < 5 → (kcells l)[k * 5 + j]? = (kcell l[k])[j]? := by
  induction l generalizing k with
  | nil => simp at h
  | cons t l ih =>
    intro j hj
    show (kcell t ++ kcells l)[k * 5 + j]? = _
    cases k with
    | zero => rw [List.getElem?_append_left (by show 0 * 5 + j < 5; omega)]; simp
    | succ k =>
      rw [List.getElem?_append_right (by show 5 ≤ _; omega)]
      have := ih k (by simpa using h) j hj
      rw [show (k + 1) * 5 + j - (kcell t).length = k * 5 + j from by show _ - 5 = _; omega]
      simpa using this
theorem kcells_take (l : List Tok) (k : Nat) (h : k < l.length) : kcells (l.take (k + 1)) = kcells (l.take k) ++ kcell l[k] := by
  rw [List.take_succ_eq_append_getElem h, kcells_snoc]
theorem sameBytes_any (A B : Option Addr) (a b : Bs) (n m c d : Nat) (w : World) (hn : n = a.length) (hm : m = b.length) (hA : Cells w A (bcells a)) (hB : Cells w B (bcells b)) :
    Calls Tryd.prog 21 #[.slice A n c, .slice B m d] w fun e w' => e = .returned (.bool (a == b)) ∧ w = w' := by
  have h1 := run_bytes_str (P := Tryd.prog) (n := n) (c := c) Tryd.underlying22 Tryd.underlying5 Tryd.underlying9 hn hA
  have h2 := run_bytes_str (P := Tryd.prog) (n := m) (c := d) Tryd.underlying22 Tryd.underlying5 Tryd.underlying9 hm hB
  have HE := Lib.hid (show ((bstr a).toList == (bstr b).toList) = (a == b) by rw [bstr_toList, bstr_toList])
  clear hA hB hn hm
  go_enter Tryd.func21, Tryd.ntmps21
  go_wp2_with fail
  go_ret
  exact ⟨ret_bool HE.out, rfl⟩
theorem infoRTok' : (Tryd.prog.info? 70).map (fun i => (i.zero, i.size, i.bytes)) = some (some (.agg #[.int .u8 0, .int .i64 0, .int .i64 0, .string ⟨#[]⟩, .int .i64 0]), 5, 48) := infoRTok
set_option maxHeartbeats 8000000 in
set_option maxRecDepth 4000 in
theorem plain_any (A : Option Addr) (l : List Tok) (n c : Nat) (w : World) (hn : n = l.length) (hlen : l.length ≤ 100000) (hA : Cells w A (kcells l)) :
    Calls Tryd.prog 20 #[.slice A n c] w fun e w' => ∃ A' c', e = .returned (.slice A' l.length c') ∧ (A' = none → c' = 0) ∧ w'.ownsRow w.heap.size 70 5 (.slice A' l.length c') l.length (kcells l) ∧ Ext w w' := by
  subst hn
  obtain ⟨i0, hi, hz0, hz1, hz2⟩ := info_parts infoRTok
  have HC := Lib.hid hA
  clear hA
  go_enter Tryd.func20, Tryd.ntmps20
  go_wp2_with fail
  go_loopw [3, 4] (fun out i wr => ∃ (k : Nat) (A' : Option Addr) (c' : Nat), k ≤ l.length ∧ i = .int .i64 k ∧ out = .slice A' k c' ∧ (A' = none → c' = 0) ∧ Hid (wr.ownsRow w.heap.size 70 5 (.slice A' k c') k (kcells (l.take k))) ∧ Hid (Ext w wr)) (fun _ i _ => l.length - (intOf i).toNat)
  case atStart => exact ⟨0, none, 0, Nat.zero_le _, rfl, rfl, fun _ => rfl, Lib.hid (World.ownsRow_nil _ _ _ _), Lib.hid (Ext.refl _)⟩
  case round =>
    obtain ⟨k, A', c', hk, rfl, rfl, hz, HO, HX⟩ := hrel
    obtain ⟨wa, rfl⟩ : ∃ wa : World, wa = wr := ⟨_, rfl⟩
    by_cases hlt : k < l.length
    · have d0 : decide ((k : Int) < (l.length : Int)) = true := decide_eq_true (by omega)
      obtain ⟨b, off, hA, hbs, hc⟩ := (HC.out.ext HX.out).at_ (by rw [kcells_len]; omega)
      subst hA
      have hcl : ∀ j, j < 5 → wa.cell? ⟨b, off + k * 5 + j, none⟩ = (kcell l[k])[j]? := fun j hj => by
        rw [Nat.add_assoc, hc _ (by rw [kcells_len]; omega)]
        exact kcells_at l k hlt j hj
      have HT : Hid (kcells (l.take (k + 1)) = kcells (l.take k) ++ kcell l[k]) := Lib.hid (kcells_take l k hlt)
      generalize l[k] = t at *
      obtain ⟨kd, ta, te, tx, tn⟩ := t
      have c0 : wa.cell? ⟨b, off + k * 5, none⟩ = some (.int .u8 (kd : Int)) := hcl 0 (by omega)
      have c1 : wa.cell? ⟨b, off + k * 5 + 1, none⟩ = some (.int .i64 (ta : Int)) := hcl 1 (by omega)
      have c2 : wa.cell? ⟨b, off + k * 5 + 2, none⟩ = some (.int .i64 (te : Int)) := hcl 2 (by omega)
      have c3 : wa.cell? ⟨b, off + k * 5 + 3, none⟩ = some (.string (bstr tx)) := hcl 3 (by omega)
      have c4 : wa.cell? ⟨b, off + k * 5 + 4, none⟩ = some (.int .i64 tn) := hcl 4 (by omega)
      have q0 : (k : Int) < (l.length : Int) := by omega
      clear hcl hc
      go_upto_region 5 with fail
      apply wp_region_ext_tail 28 (by kernel_rfl) (by kernel_rfl) (by kernel_rfl)
      dsimp only [List.take_succ_cons, List.take_zero, List.drop_succ_cons, List.drop_zero]
      apply step_det (.slice A' k c') rfl rfl rfl
      · intro w' hw' hH
        clear hH
        simp [YieldsF, go_sem, q0]
        exact Ext.refl _
      apply step_det (.slice (some ⟨b, off, none⟩) l.length c) rfl rfl rfl
      · intro w' hw' hH
        clear hH
        simp [YieldsF, go_sem, q0]
        exact Ext.refl _
      apply step_det (.int .i64 (k : Int)) rfl rfl rfl
      · intro w' hw' hH
        clear hH
        simp [YieldsF, go_sem, q0]
        exact Ext.refl _
      apply step_det (.pointer (some ⟨b, off + k * 5, none⟩)) rfl rfl rfl
      · intro w' hw' hH
        clear hH
        simp [YieldsF, go_sem, q0]
        exact Ext.refl _
      apply step_det (.pointer (some ⟨b, off + k * 5, none⟩)) rfl rfl rfl
      · intro w' hw' hH
        clear hH
        simp [YieldsF, go_sem, q0]
        exact Ext.refl _
      apply step_det (.int .u8 (kd : Int)) rfl rfl rfl
      · intro w' hw' hH
        clear hH
        have z0 := (hw'.cell (p := ⟨b, off + k * 5, none⟩) hbs).trans c0
        simp [YieldsF, go_sem, z0, q0]
        exact Ext.refl _
      apply step_det (.slice (some ⟨b, off, none⟩) l.length c) rfl rfl rfl
      · intro w' hw' hH
        clear hH
        simp [YieldsF, go_sem, q0]
        exact Ext.refl _
      apply step_det (.int .i64 (k : Int)) rfl rfl rfl
      · intro w' hw' hH
        clear hH
        simp [YieldsF, go_sem, q0]
        exact Ext.refl _
      apply step_det (.pointer (some ⟨b, off + k * 5, none⟩)) rfl rfl rfl
      · intro w' hw' hH
        clear hH
        simp [YieldsF, go_sem, q0]
        exact Ext.refl _
      apply step_det (.pointer (some ⟨b, off + k * 5 + 1, none⟩)) rfl rfl rfl
      · intro w' hw' hH
        clear hH
        simp [YieldsF, go_sem, q0]
        exact Ext.refl _
      apply step_det (.int .i64 (ta : Int)) rfl rfl rfl
      · intro w' hw' hH
        clear hH
        have z0 := (hw'.cell (p := ⟨b, off + k * 5 + 1, none⟩) hbs).trans c1
        simp [YieldsF, go_sem, z0, q0]
        exact Ext.refl _
      apply step_det (.slice (some ⟨b, off, none⟩) l.length c) rfl rfl rfl
      · intro w' hw' hH
        clear hH
        simp [YieldsF, go_sem, q0]
        exact Ext.refl _
      apply step_det (.int .i64 (k : Int)) rfl rfl rfl
      · intro w' hw' hH
        clear hH
        simp [YieldsF, go_sem, q0]
        exact Ext.refl _
      apply step_det (.pointer (some ⟨b, off + k * 5, none⟩)) rfl rfl rfl
      · intro w' hw' hH
        clear hH
        simp [YieldsF, go_sem, q0]
        exact Ext.refl _
      apply step_det (.pointer (some ⟨b, off + k * 5 + 2, none⟩)) rfl rfl rfl
      · intro w' hw' hH
        clear hH
        simp [YieldsF, go_sem, q0]
        exact Ext.refl _
      apply step_det (.int .i64 (te : Int)) rfl rfl rfl
      · intro w' hw' hH
        clear hH
        have z0 := (hw'.cell (p := ⟨b, off + k * 5 + 2, none⟩) hbs).trans c2
        simp [YieldsF, go_sem, z0, q0]
        exact Ext.refl _
      apply step_det (.slice (some ⟨b, off, none⟩) l.length c) rfl rfl rfl
      · intro w' hw' hH
        clear hH
        simp [YieldsF, go_sem, q0]
        exact Ext.refl _
      apply step_det (.int .i64 (k : Int)) rfl rfl rfl
      · intro w' hw' hH
        clear hH
        simp [YieldsF, go_sem, q0]
        exact Ext.refl _
      apply step_det (.pointer (some ⟨b, off + k * 5, none⟩)) rfl rfl rfl
      · intro w' hw' hH
        clear hH
        simp [YieldsF, go_sem, q0]
        exact Ext.refl _
      apply step_det (.pointer (some ⟨b, off + k * 5 + 3, none⟩)) rfl rfl rfl
      · intro w' hw' hH
        clear hH
        simp [YieldsF, go_sem, q0]
        exact Ext.refl _
      apply step_det (.string (bstr tx)) rfl rfl rfl
      · intro w' hw' hH
        clear hH
        have z0 := (hw'.cell (p := ⟨b, off + k * 5 + 3, none⟩) hbs).trans c3
        simp [YieldsF, go_sem, z0, q0]
        exact Ext.refl _
      apply step_det (.slice (some ⟨b, off, none⟩) l.length c) rfl rfl rfl
      · intro w' hw' hH
        clear hH
        simp [YieldsF, go_sem, q0]
        exact Ext.refl _
      apply step_det (.int .i64 (k : Int)) rfl rfl rfl
      · intro w' hw' hH
        clear hH
        simp [YieldsF, go_sem, q0]
        exact Ext.refl _
      apply step_det (.pointer (some ⟨b, off + k * 5, none⟩)) rfl rfl rfl
      · intro w' hw' hH
        clear hH
        simp [YieldsF, go_sem, q0]
        exact Ext.refl _
      apply step_det (.pointer (some ⟨b, off + k * 5 + 4, none⟩)) rfl rfl rfl
      · intro w' hw' hH
        clear hH
        simp [YieldsF, go_sem, q0]
        exact Ext.refl _
      apply step_det (.int .i64 tn) rfl rfl rfl
      · intro w' hw' hH
        clear hH
        have z0 := (hw'.cell (p := ⟨b, off + k * 5 + 4, none⟩) hbs).trans c4
        simp [YieldsF, go_sem, z0, q0]
        exact Ext.refl _
      apply step_det (.agg #[.int .u8 (kd : Int), .int .i64 (ta : Int), .int .i64 (te : Int), .string (bstr tx), .int .i64 tn]) rfl rfl rfl
      · intro w' hw' hH
        clear hH
        simp [YieldsF, go_sem]
        exact Ext.refl _
      apply step_fact (fun v w' => ∃ g', v = .slice (some ⟨g', 0, none⟩) 1 1 ∧ Blk w' g' 70 #[.int .u8 (kd : Int), .int .i64 (ta : Int), .int .i64 (te : Int), .string (bstr tx), .int .i64 tn]) (by rintro v w w' ⟨g, h1, h2⟩ hx; exact ⟨g, h1, h2.ext hx⟩) rfl rfl rfl
      · intro w' hw' hH
        clear hH
        simp [YieldsF, go_sem]
        exact ⟨Blk.new w' _ _, Ext.alloc _ _⟩
      intro v38
      apply WalkF_nil
      intro w2 hw2 hH
      have hy : ∃ g', v38 = .slice (some ⟨g', 0, none⟩) 1 1 ∧ Blk w2 g' 70 #[.int .u8 (kd : Int), .int .i64 (ta : Int), .int .i64 (te : Int), .string (bstr tx), .int .i64 tn] := hH _ (List.mem_cons_self ..)
      clear hH
      obtain ⟨gp, rfl, hP⟩ := hy
      have hown := own_ext HO.out hw2
      have HXL : Hid (Ext w w2) := Ext.trans HX.out hw2
      have hcp : Cells w2 (some ⟨gp, 0, none⟩) (kcell ⟨kd, ta, te, tx, tn⟩) := blkCells hP
      clear hw2 hP c0 c1 c2 c3 c4
      simp only [Act.put, List.setIfInBounds_toArray, List.set_cons_zero, List.set_cons_succ]
      refine wpList_grow rfl (.tmp 11) (.tmp 38) 34 rfl w.heap.size 70 i0 _ 5 48 Tryd.underlying34 hi hz0 hz1 hz2 rfl (by decide) _ _ _ (by kernel_rfl) hown _ 1 1 (kcell ⟨kd, ta, te, tx, tn⟩) (by kernel_rfl) (by simp) rfl hcp ends5 (by unfold maxLen; omega) (by omega) HXL.out.size ?_
      intro A2 c2 w4 z4 hown4 hg4
      have HO4 : Hid (w4.ownsRow w.heap.size 70 5 (.slice A2 (k + 1) c2) (k + 1) (kcells (l.take (k + 1)))) := Lib.hid (by rw [HT.out]; exact hown4)
      have HX4 : Hid (Ext w w4) := Below.grown HXL.out hg4 HXL.out.size (fun k hk => (hown.lt k hk).1)
      clear hown hown4 hg4 hcp
      go_wp2_with fail
      go_roundw
      case rel => exact ⟨k + 1, A2, c2, by omega, by go_num, rfl, z4, HO4, HX4⟩
      case measure => simp [intOf]; omega
    · obtain rfl : k = l.length := by omega
      have d0 : decide ((l.length : Int) < (l.length : Int)) = false := by simp
      have hre := HO.out
      rw [List.take_length] at hre
      have HRE := Lib.hid hre
      clear hre
      go_wp2_with fail
      go_ret
      exact ⟨A', c', rfl, hz, HRE.out, HX.out⟩
set_option maxHeartbeats 4000000 in
set_option maxRecDepth 4000 in
theorem same_any (A B : Option Addr) (l : List Tok) (n m c d : Nat) (w : World) (hn : n = l.length) (hm : m = l.length) (hlen : l.length ≤ 100000) (hA : Cells w A (kcells l)) (hB : Cells w B (kcells l)) :
    Calls Tryd.prog 19 #[.slice A n c, .slice B m d] w fun e w' => e = .returned (.bool true) ∧ Ext w w' := by
  subst hn hm
  have HA := Lib.hid hA
  have HB := Lib.hid hB
  clear hA hB
  have e0 : ((l.length : Int) == (l.length : Int)) = true := by simp
  have e1 : ((l.length : Int) != (l.length : Int)) = false := by simp
  go_enter Tryd.func19, Tryd.ntmps19
  go_wp2_with fail
  go_loopw [5] (fun i wr => ∃ k : Nat, k ≤ l.length ∧ i = .int .i64 k ∧ Hid (Ext w wr)) (fun i _ => l.length - (intOf i).toNat)
  case atStart => exact ⟨0, Nat.zero_le _, rfl, Lib.hid (Ext.refl _)⟩
  case round =>
    obtain ⟨k, hk, rfl, HX⟩ := hrel
    obtain ⟨wa, rfl⟩ : ∃ wa : World, wa = wr := ⟨_, rfl⟩
    by_cases hlt : k < l.length
    · have d0 : decide ((k : Int) < (l.length : Int)) = true := decide_eq_true (by omega)
      obtain ⟨b, off, hA, hbs, hc⟩ := (HA.out.ext HX.out).at_ (by rw [kcells_len]; omega)
      subst hA
      obtain ⟨b2, off2, hB, hbs2, hc2⟩ := (HB.out.ext HX.out).at_ (by rw [kcells_len]; omega)
      subst hB
      have hcl : ∀ j, j < 5 → wa.cell? ⟨b, off + k * 5 + j, none⟩ = (kcell l[k])[j]? := fun j hj => by
        rw [Nat.add_assoc, hc _ (by rw [kcells_len]; omega)]
        exact kcells_at l k hlt j hj
      have hcl2 : ∀ j, j < 5 → wa.cell? ⟨b2, off2 + k * 5 + j, none⟩ = (kcell l[k])[j]? := fun j hj => by
        rw [Nat.add_assoc, hc2 _ (by rw [kcells_len]; omega)]
        exact kcells_at l k hlt j hj
      generalize l[k] = t at *
      obtain ⟨kd, ta, te, tx, tn⟩ := t
      have c0' : wa.cell? ⟨b, off + k * 5, none⟩ = some (.int .u8 (kd : Int)) := hcl 0 (by omega)
      have c1' : wa.cell? ⟨b, off + k * 5 + 1, none⟩ = some (.int .i64 (ta : Int)) := hcl 1 (by omega)
      have c2' : wa.cell? ⟨b, off + k * 5 + 2, none⟩ = some (.int .i64 (te : Int)) := hcl 2 (by omega)
      have c3' : wa.cell? ⟨b, off + k * 5 + 3, none⟩ = some (.string (bstr tx)) := hcl 3 (by omega)
      have c4' : wa.cell? ⟨b, off + k * 5 + 4, none⟩ = some (.int .i64 tn) := hcl 4 (by omega)
      have e0' : wa.cell? ⟨b2, off2 + k * 5, none⟩ = some (.int .u8 (kd : Int)) := hcl2 0 (by omega)
      have e1' : wa.cell? ⟨b2, off2 + k * 5 + 1, none⟩ = some (.int .i64 (ta : Int)) := hcl2 1 (by omega)
      have e2' : wa.cell? ⟨b2, off2 + k * 5 + 2, none⟩ = some (.int .i64 (te : Int)) := hcl2 2 (by omega)
      have e3' : wa.cell? ⟨b2, off2 + k * 5 + 3, none⟩ = some (.string (bstr tx)) := hcl2 3 (by omega)
      have e4' : wa.cell? ⟨b2, off2 + k * 5 + 4, none⟩ = some (.int .i64 tn) := hcl2 4 (by omega)
      have q0 : (k : Int) < (l.length : Int) := by omega
      clear hcl hc hcl2 hc2 e0 e1
      go_wp2_with fail
      go_quiet (fail)
      go_wp2_with fail
      go_roundw
      case rel => exact ⟨k + 1, by omega, by go_num, Lib.hid (Below.trans HX.out ⟨rfl, rfl, rfl, Nat.le_refl _, fun _ _ => rfl⟩)⟩
      case measure => simp [intOf]; omega
    · obtain rfl : k = l.length := by omega
      have d0 : decide ((l.length : Int) < (l.length : Int)) = false := by simp
      go_wp2_with fail
      go_ret
      exact ⟨rfl, HX.out⟩
end Go.Proofs.YtjjeebocebhhaaaDoor
