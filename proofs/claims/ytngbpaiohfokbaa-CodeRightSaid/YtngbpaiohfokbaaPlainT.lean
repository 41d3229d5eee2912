/- interlockkit.PlainTerms, walked: the same terms, in a row of its own. No condition but that they are not too many for memory. -/
import Derived.Test.YtngbpaiohfokbaaRefU
import Derived.Test.YtngbpaiohfokbaaEvalB
namespace Go.Proofs.Ytngbpaiohfokbaa
open Go Go.RowKit
set_option linter.unusedVariables false
set_option linter.unusedSimpArgs false
theorem infoTermR : (Try.prog.info? 82).map (fun i => (i.zero, i.size, i.bytes)) = some (some (.agg #[.int .u8 0, .int .i64 0, .int .i64 0]), 3, 24) := by kernel_rfl
theorem blkCells {w : World} {g : Nat} {t : TypeId} {cs : Array Value} (h : Blk w g t cs) : Cells w (some ⟨g, 0, none⟩) cs.toList := by
  refine .inr ⟨g, 0, rfl, h.lt, fun k hk => ?_⟩
  rw [Nat.zero_add, h.cell]
  simp
theorem tcells_take (l : List TermD) (k : Nat) (h : k < l.length) : tcells (l.take (k + 1)) = tcells (l.take k) ++ [.int .u8 (l[k]).1, .int .i64 (l[k]).2.1, .int .i64 (l[k]).2.2] := by
  rw [List.take_succ_eq_append_getElem h]
  unfold tcells
  rw [List.flatMap_append]
  rfl
set_option maxHeartbeats 8000000 in
set_option maxRecDepth 4000 in
theorem plainTerms_own (A : Option Addr) (l : List TermD) (n c : Nat) (w : World) (hn : n = l.length) (hbig : l.length * 24 ≤ 140737488355000) (hA : Cells w A (tcells l)) :
    Calls Try.prog 20 #[.slice A n c] w fun e w' => ∃ A' c', e = .returned (.slice A' l.length c') ∧ (A' = none → c' = 0) ∧ w'.ownsRow w.heap.size 82 3 (.slice A' l.length c') l.length (tcells l) ∧ Ext w w' := by
  subst hn
  obtain ⟨i0, hi, hz0, hz1, hz2⟩ := info_parts infoTermR
  have HC := Lib.hid hA
  clear hA
  go_enter Try.func20, Try.ntmps20
  go_wp2_with fail
  go_loopw [3, 4] (fun out i wr => ∃ (k : Nat) (A' : Option Addr) (c' : Nat), k ≤ l.length ∧ i = .int .i64 k ∧ out = .slice A' k c' ∧ (A' = none → c' = 0) ∧ Hid (wr.ownsRow w.heap.size 82 3 (.slice A' k c') k (tcells (l.take k))) ∧ Hid (Ext w wr)) (fun _ i _ => l.length - (intOf i).toNat)
  case atStart => exact ⟨0, none, 0, Nat.zero_le _, rfl, rfl, fun _ => rfl, World.ownsRow_nil _ _ _ _, Ext.refl _⟩
  case round =>
    obtain ⟨k, A', c', hk, rfl, rfl, hz, HO, HX⟩ := hrel
    obtain ⟨wa, rfl⟩ : ∃ wa : World, wa = wr := ⟨_, rfl⟩
    by_cases hlt : k < l.length
    · have d0 : decide ((k : Int) < (l.length : Int)) = true := decide_eq_true (by omega)
      obtain ⟨b, off, rfl, hb, hc⟩ := HC.out.at_ (by rw [tcells_len]; omega)
      have hbw : b < w.heap.size := hb
      obtain ⟨t1, t2, t3⟩ := tcells_at l k hlt
      have c1 : wa.cell? ⟨b, off + k * 3, none⟩ = some (.int .u8 (l[k]).1) := ((HX.out.cell (p := ⟨b, _, none⟩) hbw).trans (hc _ (by rw [tcells_len]; omega))).trans t1
      have c2 : wa.cell? ⟨b, off + k * 3 + 1, none⟩ = some (.int .i64 (l[k]).2.1) := ((HX.out.cell (p := ⟨b, _, none⟩) hbw).trans (by rw [Nat.add_assoc]; exact hc _ (by rw [tcells_len]; omega))).trans t2
      have c3 : wa.cell? ⟨b, off + k * 3 + 2, none⟩ = some (.int .i64 (l[k]).2.2) := ((HX.out.cell (p := ⟨b, _, none⟩) hbw).trans (by rw [Nat.add_assoc]; exact hc _ (by rw [tcells_len]; omega))).trans t3
      have hbs : b < wa.heap.size := Nat.lt_of_lt_of_le hbw HX.out.size
      have HT := Lib.hid (tcells_take l k hlt)
      clear hc t1 t2 t3
      generalize l[k] = t at *
      obtain ⟨kd, nn, vv⟩ := t
      dsimp only at c1 c2 c3
      have q0 : (k : Int) < (l.length : Int) := by omega
      go_wp2_with fail
      apply wp_region_ext_tail 18 (by kernel_rfl) (by kernel_rfl) (by kernel_rfl)
      dsimp only [List.take_succ_cons, List.take_zero, List.drop_succ_cons, List.drop_zero]
      apply step_det (.slice A' k c') rfl rfl rfl
      · intro w' hw' hH
        clear hH
        simp [YieldsF, go_sem]
        exact Ext.refl _
      apply step_det (.slice (some ⟨b, off, none⟩) l.length c) rfl rfl rfl
      · intro w' hw' hH
        clear hH
        simp [YieldsF, go_sem]
        exact Ext.refl _
      apply step_det (.int .i64 (k : Int)) rfl rfl rfl
      · intro w' hw' hH
        clear hH
        simp [YieldsF, go_sem]
        exact Ext.refl _
      apply step_det (.pointer (some ⟨b, off + k * 3, none⟩)) rfl rfl rfl
      · intro w' hw' hH
        clear hH
        simp [YieldsF, go_sem, q0]
        exact Ext.refl _
      apply step_det (.pointer (some ⟨b, off + k * 3, none⟩)) rfl rfl rfl
      · intro w' hw' hH
        clear hH
        simp [YieldsF, go_sem]
        exact Ext.refl _
      apply step_det (.int .u8 kd) rfl rfl rfl
      · intro w' hw' hH
        clear hH
        have c1' := (hw'.cell (p := ⟨b, _, none⟩) hbs).trans c1
        simp [YieldsF, go_sem, c1']
        exact Ext.refl _
      apply step_det (.slice (some ⟨b, off, none⟩) l.length c) rfl rfl rfl
      · intro w' hw' hH
        clear hH
        simp [YieldsF, go_sem]
        exact Ext.refl _
      apply step_det (.int .i64 (k : Int)) rfl rfl rfl
      · intro w' hw' hH
        clear hH
        simp [YieldsF, go_sem]
        exact Ext.refl _
      apply step_det (.pointer (some ⟨b, off + k * 3, none⟩)) rfl rfl rfl
      · intro w' hw' hH
        clear hH
        simp [YieldsF, go_sem, q0]
        exact Ext.refl _
      apply step_det (.pointer (some ⟨b, off + k * 3 + 1, none⟩)) rfl rfl rfl
      · intro w' hw' hH
        clear hH
        simp [YieldsF, go_sem]
        exact Ext.refl _
      apply step_det (.int .i64 nn) rfl rfl rfl
      · intro w' hw' hH
        clear hH
        have c2' := (hw'.cell (p := ⟨b, _, none⟩) hbs).trans c2
        simp [YieldsF, go_sem, c2']
        exact Ext.refl _
      apply step_det (.slice (some ⟨b, off, none⟩) l.length c) rfl rfl rfl
      · intro w' hw' hH
        clear hH
        simp [YieldsF, go_sem]
        exact Ext.refl _
      apply step_det (.int .i64 (k : Int)) rfl rfl rfl
      · intro w' hw' hH
        clear hH
        simp [YieldsF, go_sem]
        exact Ext.refl _
      apply step_det (.pointer (some ⟨b, off + k * 3, none⟩)) rfl rfl rfl
      · intro w' hw' hH
        clear hH
        simp [YieldsF, go_sem, q0]
        exact Ext.refl _
      apply step_det (.pointer (some ⟨b, off + k * 3 + 2, none⟩)) rfl rfl rfl
      · intro w' hw' hH
        clear hH
        simp [YieldsF, go_sem]
        exact Ext.refl _
      apply step_det (.int .i64 vv) rfl rfl rfl
      · intro w' hw' hH
        clear hH
        have c3' := (hw'.cell (p := ⟨b, _, none⟩) hbs).trans c3
        simp [YieldsF, go_sem, c3']
        exact Ext.refl _
      apply step_det (.agg #[.int .u8 kd, .int .i64 nn, .int .i64 vv]) rfl rfl rfl
      · intro w' hw' hH
        clear hH
        simp [YieldsF, go_sem]
        exact Ext.refl _
      apply step_fact (fun v w' => ∃ g', v = .slice (some ⟨g', 0, none⟩) 1 1 ∧ Blk w' g' 82 #[.int .u8 kd, .int .i64 nn, .int .i64 vv]) (by rintro v w w' ⟨g, h1, h2⟩ hx; exact ⟨g, h1, h2.ext hx⟩) rfl rfl rfl
      · intro w' hw' hH
        clear hH
        simp [YieldsF, go_sem]
        exact ⟨Blk.new w' _ _, Ext.alloc _ _⟩
      intro v28
      apply WalkF_nil
      intro w2 hw2 hH
      obtain ⟨gp, rfl, hP⟩ := hH _ (List.mem_cons_self ..)
      clear hH
      have hown := own_ext HO.out hw2
      have HXL : Hid (Ext w w2) := Ext.trans HX.out hw2
      have hcp := blkCells hP
      clear hw2 hP c1 c2 c3
      simp only [Act.put]
      simp
      refine wpList_grow rfl (.tmp 11) (.tmp 28) 50 rfl w.heap.size 82 i0 _ 3 24 Try.underlying50 hi hz0 hz1 hz2 rfl (by decide) _ _ _ rfl hown _ 1 1 [.int .u8 kd, .int .i64 nn, .int .i64 vv] rfl (by simp) rfl hcp ?c2 ?c3 ?c4 HXL.out.size ?_
      case c2 => first | (intro u hu; simp at hu; rcases hu with rfl | rfl | rfl <;> rfl) | exact ⟨rfl, rfl⟩ | exact ⟨rfl, rfl, rfl⟩
      case c3 => unfold maxLen; omega
      case c4 => omega
      intro A2 c2 w4 z4 hown4 hg4
      have HO4 : Hid (w4.ownsRow w.heap.size 82 3 (.slice A2 (k + 1) c2) (k + 1) (tcells (l.take (k + 1)))) := Lib.hid (by rw [HT.out]; exact hown4)
      have HX4 : Hid (Ext w w4) := Below.grown HXL.out hg4 HXL.out.size (fun k hk => (hown.lt k hk).1)
      clear hown hown4 hg4 hcp
      go_wp2_with fail
      go_roundw
      case rel => exact ⟨k + 1, A2, c2, by omega, by go_num, rfl, z4, HO4, HX4⟩
      case measure => simp [intOf]; omega
    · obtain rfl : k = l.length := by omega
      have d0 : decide ((l.length : Int) < (l.length : Int)) = false := by simp
      have hre := HO.out
      rw [List.take_length] at hre
      have HRE := Lib.hid hre
      clear hre
      go_wp2_with fail
      go_ret
      exact ⟨A', c', rfl, hz, HRE.out, HX.out⟩
theorem plainTerms_any (A : Option Addr) (l : List TermD) (n c : Nat) (w : World) (hn : n = l.length) (hbig : l.length * 24 ≤ 140737488355000) (hA : Cells w A (tcells l)) :
    Calls Try.prog 20 #[.slice A n c] w fun e w' => ∃ A' c', e = .returned (.slice A' l.length c') ∧ (A' = none → c' = 0) ∧ Cells w' A' (tcells l) ∧ Ext w w' := by
  refine (plainTerms_own A l n c w hn hbig hA).mono ?_
  rintro e w' ⟨A', c', h1, h2, h3, h4⟩
  exact ⟨A', c', h1, h2, Cells.own h3, h4⟩
end Go.Proofs.Ytngbpaiohfokbaa
