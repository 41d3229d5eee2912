/- interlockref08.SameTerms, walked, of two rows of the same terms. -/
import Derived.Test.YtngbpaiohfokbaaPlainT
namespace Go.Proofs.Ytngbpaiohfokbaa
open Go Go.RowKit
set_option linter.unusedVariables false
set_option linter.unusedSimpArgs false
set_option maxHeartbeats 8000000 in
set_option maxRecDepth 4000 in
theorem sameTerms_yes (A B : Option Addr) (l : List TermD) (n m c d : Nat) (w : World) (hn : n = l.length) (hm : m = l.length) (hbig : l.length * 24 ≤ 140737488355000) (hA : Cells w A (tcells l)) (hB : Cells w B (tcells l)) :
    Calls Try.prog 24 #[.slice A n c, .slice B m d] w fun e w' => e = .returned (.bool true) ∧ Ext w w' := by
  subst hn hm
  have HA := Lib.hid hA
  have HB := Lib.hid hB
  clear hA hB
  go_enter Try.func24, Try.ntmps24
  go_wp2_with fail
  go_loopw [5] (fun i wr => ∃ k : Nat, k ≤ l.length ∧ i = .int .i64 k ∧ Hid (Ext w wr)) (fun i _ => l.length - (intOf i).toNat)
  case atStart => exact ⟨0, Nat.zero_le _, rfl, Ext.refl _⟩
  case round =>
    obtain ⟨k, hk, rfl, HX⟩ := hrel
    obtain ⟨wa, rfl⟩ : ∃ wa : World, wa = wr := ⟨_, rfl⟩
    by_cases hlt : k < l.length
    · have d0 : decide ((k : Int) < (l.length : Int)) = true := decide_eq_true (by omega)
      obtain ⟨b, off, rfl, hb, hc⟩ := (HA.out.ext HX.out).at_ (by rw [tcells_len]; omega)
      obtain ⟨b2, off2, rfl, hb2, hc2⟩ := (HB.out.ext HX.out).at_ (by rw [tcells_len]; omega)
      obtain ⟨t1, t2, t3⟩ := tcells_at l k hlt
      have c1 := (hc _ (by rw [tcells_len]; omega)).trans t1
      have c2 : wa.cell? ⟨b, off + k * 3 + 1, none⟩ = some (.int .i64 (l[k]).2.1) := by rw [Nat.add_assoc]; exact (hc _ (by rw [tcells_len]; omega)).trans t2
      have c3 : wa.cell? ⟨b, off + k * 3 + 2, none⟩ = some (.int .i64 (l[k]).2.2) := by rw [Nat.add_assoc]; exact (hc _ (by rw [tcells_len]; omega)).trans t3
      have e1 := (hc2 _ (by rw [tcells_len]; omega)).trans t1
      have e2 : wa.cell? ⟨b2, off2 + k * 3 + 1, none⟩ = some (.int .i64 (l[k]).2.1) := by rw [Nat.add_assoc]; exact (hc2 _ (by rw [tcells_len]; omega)).trans t2
      have e3 : wa.cell? ⟨b2, off2 + k * 3 + 2, none⟩ = some (.int .i64 (l[k]).2.2) := by rw [Nat.add_assoc]; exact (hc2 _ (by rw [tcells_len]; omega)).trans t3
      clear hc hc2 t1 t2 t3
      generalize l[k] = t at *
      obtain ⟨kd, nn, vv⟩ := t
      dsimp only at c1 c2 c3 e1 e2 e3
      have q0 : (k : Int) < (l.length : Int) := by omega
      go_wp2_with fail
      apply wp_region_ext (by kernel_rfl) (by kernel_rfl) (by kernel_rfl)
      apply step_det (.slice (some ⟨b, off, none⟩) l.length c) rfl rfl rfl
      · intro w' hw' hH
        clear hH
        simp [YieldsF, go_sem]
        exact Ext.refl _
      apply step_det (.int .i64 (k : Int)) rfl rfl rfl
      · intro w' hw' hH
        clear hH
        simp [YieldsF, go_sem]
        exact Ext.refl _
      apply step_det (.pointer (some ⟨b, off + k * 3, none⟩)) rfl rfl rfl
      · intro w' hw' hH
        clear hH
        simp [YieldsF, go_sem, q0]
        exact Ext.refl _
      apply step_det (.agg #[.int .u8 kd, .int .i64 nn, .int .i64 vv]) rfl rfl rfl
      · intro w' hw' hH
        clear hH
        have c1' := (hw'.cell (p := ⟨b, _, none⟩) hb).trans c1
        have c2' := (hw'.cell (p := ⟨b, _, none⟩) hb).trans c2
        have c3' := (hw'.cell (p := ⟨b, _, none⟩) hb).trans c3
        simp [YieldsF, go_sem, c1', c2', c3']
        exact Ext.refl _
      apply step_det (.slice (some ⟨b2, off2, none⟩) l.length d) rfl rfl rfl
      · intro w' hw' hH
        clear hH
        simp [YieldsF, go_sem]
        exact Ext.refl _
      apply step_det (.int .i64 (k : Int)) rfl rfl rfl
      · intro w' hw' hH
        clear hH
        simp [YieldsF, go_sem]
        exact Ext.refl _
      apply step_det (.pointer (some ⟨b2, off2 + k * 3, none⟩)) rfl rfl rfl
      · intro w' hw' hH
        clear hH
        simp [YieldsF, go_sem, q0]
        exact Ext.refl _
      apply step_det (.agg #[.int .u8 kd, .int .i64 nn, .int .i64 vv]) rfl rfl rfl
      · intro w' hw' hH
        clear hH
        have e1' := (hw'.cell (p := ⟨b2, _, none⟩) hb2).trans e1
        have e2' := (hw'.cell (p := ⟨b2, _, none⟩) hb2).trans e2
        have e3' := (hw'.cell (p := ⟨b2, _, none⟩) hb2).trans e3
        simp [YieldsF, go_sem, e1', e2', e3']
        exact Ext.refl _
      apply step_det (.bool false) rfl rfl rfl
      · intro w' hw' hH
        clear hH
        simp [YieldsF, go_sem]
        exact Ext.refl _
      apply WalkF_nil
      intro w2 hw2 hH
      clear hH
      have HX2 : Hid (Ext w w2) := Ext.trans HX.out hw2
      clear hw2 c1 c2 c3 e1 e2 e3
      simp only [Act.put]
      simp
      go_wp2_with fail
      go_roundw
      case rel => exact ⟨k + 1, by omega, by go_num, HX2⟩
      case measure => simp [intOf]; omega
    · obtain rfl : k = l.length := by omega
      have d0 : decide ((l.length : Int) < (l.length : Int)) = false := by simp
      go_wp2_with fail
      go_ret
      exact ⟨rfl, HX.out⟩
end Go.Proofs.Ytngbpaiohfokbaa
