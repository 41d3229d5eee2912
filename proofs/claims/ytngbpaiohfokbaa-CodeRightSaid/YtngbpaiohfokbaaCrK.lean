/- slices.Equal of terms, walked, of any two rows of terms. -/
import Derived.Test.YtngbpaiohfokbaaPlainT
namespace Go.Proofs.Ytngbpaiohfokbaa
open Go Go.RowKit
set_option linter.unusedVariables false
set_option linter.unusedSimpArgs false
set_option maxHeartbeats 8000000 in
set_option maxRecDepth 100000 in
theorem equalT_any (A B : Option Addr) (l m : List TermD) (n n2 c d : Nat) (w : World) (hn : n = l.length) (hm : n2 = m.length) (hbig : l.length * 24 ≤ 140737488355000) (hA : Cells w A (tcells l)) (hB : Cells w B (tcells m)) (b : Bool) (hb : Hid (decide (l = m) = b)) :
    Calls Try.prog 37 #[.slice A n c, .slice B n2 d] w fun e w' => e = .returned (.bool b) ∧ Ext w w' := by
  subst hn hm
  have HA := Lib.hid hA
  have HB := Lib.hid hB
  clear hA hB
  by_cases hlw : l.length = m.length
  · have e0 : ((l.length : Int) == (m.length : Int)) = true := by rw [hlw]; simp
    have e1 : ((l.length : Int) != (m.length : Int)) = false := by rw [hlw]; simp
    have HLW := Lib.hid hlw
    clear hlw
    go_enter Try.func37, Try.ntmps37
    go_wp2_with fail
    go_loopw [13] (fun i wr => ∃ k : Nat, k ≤ l.length ∧ i = .int .i64 k ∧ Hid (Ext w wr) ∧ Hid (∀ j (h1 : j < l.length) (h2 : j < m.length), j < k → l[j] = m[j])) (fun i _ => l.length - (intOf i).toNat)
    case atStart => exact ⟨0, Nat.zero_le _, rfl, Lib.hid (Ext.refl _), Lib.hid fun j h1 h2 hj => by omega⟩
    case round =>
      obtain ⟨k, hk, rfl, HX, HR⟩ := hrel
      obtain ⟨wa, rfl⟩ : ∃ wa : World, wa = wr := ⟨_, rfl⟩
      by_cases hlt : k < l.length
      · have d0 : decide ((k : Int) < (l.length : Int)) = true := decide_eq_true (by omega)
        have hlt2 : k < m.length := by have := HLW.out; omega
        obtain ⟨b1, off1, rfl, hb1, hc⟩ := (HA.out.ext HX.out).at_ (by rw [tcells_len]; omega)
        obtain ⟨b2, off2, rfl, hb2, hc2⟩ := (HB.out.ext HX.out).at_ (by rw [tcells_len]; omega)
        obtain ⟨t1, t2, t3⟩ := tcells_at l k hlt
        obtain ⟨s1, s2, s3⟩ := tcells_at m k hlt2
        have c0 := (hc _ (by rw [tcells_len]; omega)).trans t1
        have c1 : wa.cell? ⟨b1, off1 + k * 3 + 1, none⟩ = some (.int .i64 (l[k]).2.1) := by rw [Nat.add_assoc]; exact (hc _ (by rw [tcells_len]; omega)).trans t2
        have c2 : wa.cell? ⟨b1, off1 + k * 3 + 2, none⟩ = some (.int .i64 (l[k]).2.2) := by rw [Nat.add_assoc]; exact (hc _ (by rw [tcells_len]; omega)).trans t3
        have f0 := (hc2 _ (by rw [tcells_len]; omega)).trans s1
        have f1 : wa.cell? ⟨b2, off2 + k * 3 + 1, none⟩ = some (.int .i64 (m[k]).2.1) := by rw [Nat.add_assoc]; exact (hc2 _ (by rw [tcells_len]; omega)).trans s2
        have f2 : wa.cell? ⟨b2, off2 + k * 3 + 2, none⟩ = some (.int .i64 (m[k]).2.2) := by rw [Nat.add_assoc]; exact (hc2 _ (by rw [tcells_len]; omega)).trans s3
        have HYES : Hid (l[k] = m[k] → ∀ j (h1 : j < l.length) (h2 : j < m.length), j < k + 1 → l[j] = m[j]) := Lib.hid (by
          intro h j h1 h2 h3
          by_cases hj : j = k
          · subst hj; exact h
          · exact HR.out j h1 h2 (by omega))
        have HNO : Hid (l[k] ≠ m[k] → b = false) := Lib.hid (by
          intro h
          rw [← hb.out]
          apply decide_eq_false
          rintro rfl
          exact h rfl)
        clear hc hc2 t1 t2 t3 s1 s2 s3
        generalize l[k] = t at *
        generalize m[k] = s at *
        obtain ⟨kd, nn, vv⟩ := t
        obtain ⟨kd2, nn2, vv2⟩ := s
        dsimp only at c0 c1 c2 f0 f1 f2
        have q0 : (k : Int) < (l.length : Int) := by omega
        have q1 : (k : Int) < (m.length : Int) := by omega
        by_cases h0 : kd = kd2
        · subst h0
          have g0 : (kd == kd) = true := by simp
          by_cases h1 : nn = nn2
          · subst h1
            have g1 : (nn == nn) = true := by simp
            by_cases h2 : vv = vv2
            · subst h2
              have g2 : (vv == vv) = true := by simp
              have HY := Lib.hid (HYES.out rfl)
              go_upto_region 6 with fail
              apply wp_region_ext (by kernel_rfl) (by kernel_rfl) (by kernel_rfl)
              apply step_det (.slice (some ⟨b1, off1, none⟩) l.length c) rfl rfl rfl
              · intro w' hw' hH
                clear hH
                simp [YieldsF, go_sem, q0, q1]
                exact Ext.refl _
              apply step_det (.int .i64 (k : Int)) rfl rfl rfl
              · intro w' hw' hH
                clear hH
                simp [YieldsF, go_sem, q0, q1]
                exact Ext.refl _
              apply step_det (.pointer (some ⟨b1, off1 + k * 3, none⟩)) rfl rfl rfl
              · intro w' hw' hH
                clear hH
                simp [YieldsF, go_sem, q0, q1]
                exact Ext.refl _
              apply step_det (.agg #[.int .u8 kd, .int .i64 nn, .int .i64 vv]) rfl rfl rfl
              · intro w' hw' hH
                clear hH
                have z0 := (hw'.cell (p := ⟨b1, off1 + k * 3, none⟩) hb1).trans c0
                have z1 := (hw'.cell (p := ⟨b1, off1 + k * 3 + 1, none⟩) hb1).trans c1
                have z2 := (hw'.cell (p := ⟨b1, off1 + k * 3 + 2, none⟩) hb1).trans c2
                simp [YieldsF, go_sem, z0, z1, z2, q0, q1]
                exact Ext.refl _
              apply step_det (.slice (some ⟨b2, off2, none⟩) m.length d) rfl rfl rfl
              · intro w' hw' hH
                clear hH
                simp [YieldsF, go_sem, q0, q1]
                exact Ext.refl _
              apply step_det (.int .i64 (k : Int)) rfl rfl rfl
              · intro w' hw' hH
                clear hH
                simp [YieldsF, go_sem, q0, q1]
                exact Ext.refl _
              apply step_det (.pointer (some ⟨b2, off2 + k * 3, none⟩)) rfl rfl rfl
              · intro w' hw' hH
                clear hH
                simp [YieldsF, go_sem, q0, q1]
                exact Ext.refl _
              apply step_det (.agg #[.int .u8 kd, .int .i64 nn, .int .i64 vv]) rfl rfl rfl
              · intro w' hw' hH
                clear hH
                have z0 := (hw'.cell (p := ⟨b2, off2 + k * 3, none⟩) hb2).trans f0
                have z1 := (hw'.cell (p := ⟨b2, off2 + k * 3 + 1, none⟩) hb2).trans f1
                have z2 := (hw'.cell (p := ⟨b2, off2 + k * 3 + 2, none⟩) hb2).trans f2
                simp [YieldsF, go_sem, z0, z1, z2, q0, q1]
                exact Ext.refl _
              apply step_det (.bool false) rfl rfl rfl
              · intro w' hw' hH
                clear hH
                simp [YieldsF, go_sem, g0, g1, g2]
                exact Ext.refl _
              apply WalkF_nil
              intro w2 hw2 hH
              clear hH
              have HX2 : Hid (Ext w w2) := Lib.hid (HX.out.trans hw2)
              clear hw2 c0 c1 c2 f0 f1 f2
              try simp only [Act.put, List.setIfInBounds_toArray, List.set_cons_zero, List.set_cons_succ]
              go_wp2_with fail
              go_roundw
              case rel => exact ⟨k + 1, by omega, by go_num, HX2, HY⟩
              case measure => simp [intOf]; omega
            · have HN := Lib.hid (HNO.out (by intro h; simp only [Prod.mk.injEq] at h; exact h2 h.2.2))
              have g2 : (vv == vv2) = false := beq_eq_false_iff_ne.2 h2
              go_upto_region 6 with fail
              apply wp_region_ext (by kernel_rfl) (by kernel_rfl) (by kernel_rfl)
              apply step_det (.slice (some ⟨b1, off1, none⟩) l.length c) rfl rfl rfl
              · intro w' hw' hH
                clear hH
                simp [YieldsF, go_sem, q0, q1]
                exact Ext.refl _
              apply step_det (.int .i64 (k : Int)) rfl rfl rfl
              · intro w' hw' hH
                clear hH
                simp [YieldsF, go_sem, q0, q1]
                exact Ext.refl _
              apply step_det (.pointer (some ⟨b1, off1 + k * 3, none⟩)) rfl rfl rfl
              · intro w' hw' hH
                clear hH
                simp [YieldsF, go_sem, q0, q1]
                exact Ext.refl _
              apply step_det (.agg #[.int .u8 kd, .int .i64 nn, .int .i64 vv]) rfl rfl rfl
              · intro w' hw' hH
                clear hH
                have z0 := (hw'.cell (p := ⟨b1, off1 + k * 3, none⟩) hb1).trans c0
                have z1 := (hw'.cell (p := ⟨b1, off1 + k * 3 + 1, none⟩) hb1).trans c1
                have z2 := (hw'.cell (p := ⟨b1, off1 + k * 3 + 2, none⟩) hb1).trans c2
                simp [YieldsF, go_sem, z0, z1, z2, q0, q1]
                exact Ext.refl _
              apply step_det (.slice (some ⟨b2, off2, none⟩) m.length d) rfl rfl rfl
              · intro w' hw' hH
                clear hH
                simp [YieldsF, go_sem, q0, q1]
                exact Ext.refl _
              apply step_det (.int .i64 (k : Int)) rfl rfl rfl
              · intro w' hw' hH
                clear hH
                simp [YieldsF, go_sem, q0, q1]
                exact Ext.refl _
              apply step_det (.pointer (some ⟨b2, off2 + k * 3, none⟩)) rfl rfl rfl
              · intro w' hw' hH
                clear hH
                simp [YieldsF, go_sem, q0, q1]
                exact Ext.refl _
              apply step_det (.agg #[.int .u8 kd, .int .i64 nn, .int .i64 vv2]) rfl rfl rfl
              · intro w' hw' hH
                clear hH
                have z0 := (hw'.cell (p := ⟨b2, off2 + k * 3, none⟩) hb2).trans f0
                have z1 := (hw'.cell (p := ⟨b2, off2 + k * 3 + 1, none⟩) hb2).trans f1
                have z2 := (hw'.cell (p := ⟨b2, off2 + k * 3 + 2, none⟩) hb2).trans f2
                simp [YieldsF, go_sem, z0, z1, z2, q0, q1]
                exact Ext.refl _
              apply step_det (.bool true) rfl rfl rfl
              · intro w' hw' hH
                clear hH
                simp [YieldsF, go_sem, g0, g1, g2]
                exact Ext.refl _
              apply WalkF_nil
              intro w2 hw2 hH
              clear hH
              have HX2 : Hid (Ext w w2) := Lib.hid (HX.out.trans hw2)
              clear hw2 c0 c1 c2 f0 f1 f2
              try simp only [Act.put, List.setIfInBounds_toArray, List.set_cons_zero, List.set_cons_succ]
              go_wp2_with fail
              go_ret
              exact ⟨ret_bool HN.out.symm, HX2.out⟩
          · have HN := Lib.hid (HNO.out (by intro h; simp only [Prod.mk.injEq] at h; exact h1 h.2.1))
            have g1 : (nn == nn2) = false := beq_eq_false_iff_ne.2 h1
            go_upto_region 6 with fail
            apply wp_region_ext (by kernel_rfl) (by kernel_rfl) (by kernel_rfl)
            apply step_det (.slice (some ⟨b1, off1, none⟩) l.length c) rfl rfl rfl
            · intro w' hw' hH
              clear hH
              simp [YieldsF, go_sem, q0, q1]
              exact Ext.refl _
            apply step_det (.int .i64 (k : Int)) rfl rfl rfl
            · intro w' hw' hH
              clear hH
              simp [YieldsF, go_sem, q0, q1]
              exact Ext.refl _
            apply step_det (.pointer (some ⟨b1, off1 + k * 3, none⟩)) rfl rfl rfl
            · intro w' hw' hH
              clear hH
              simp [YieldsF, go_sem, q0, q1]
              exact Ext.refl _
            apply step_det (.agg #[.int .u8 kd, .int .i64 nn, .int .i64 vv]) rfl rfl rfl
            · intro w' hw' hH
              clear hH
              have z0 := (hw'.cell (p := ⟨b1, off1 + k * 3, none⟩) hb1).trans c0
              have z1 := (hw'.cell (p := ⟨b1, off1 + k * 3 + 1, none⟩) hb1).trans c1
              have z2 := (hw'.cell (p := ⟨b1, off1 + k * 3 + 2, none⟩) hb1).trans c2
              simp [YieldsF, go_sem, z0, z1, z2, q0, q1]
              exact Ext.refl _
            apply step_det (.slice (some ⟨b2, off2, none⟩) m.length d) rfl rfl rfl
            · intro w' hw' hH
              clear hH
              simp [YieldsF, go_sem, q0, q1]
              exact Ext.refl _
            apply step_det (.int .i64 (k : Int)) rfl rfl rfl
            · intro w' hw' hH
              clear hH
              simp [YieldsF, go_sem, q0, q1]
              exact Ext.refl _
            apply step_det (.pointer (some ⟨b2, off2 + k * 3, none⟩)) rfl rfl rfl
            · intro w' hw' hH
              clear hH
              simp [YieldsF, go_sem, q0, q1]
              exact Ext.refl _
            apply step_det (.agg #[.int .u8 kd, .int .i64 nn2, .int .i64 vv2]) rfl rfl rfl
            · intro w' hw' hH
              clear hH
              have z0 := (hw'.cell (p := ⟨b2, off2 + k * 3, none⟩) hb2).trans f0
              have z1 := (hw'.cell (p := ⟨b2, off2 + k * 3 + 1, none⟩) hb2).trans f1
              have z2 := (hw'.cell (p := ⟨b2, off2 + k * 3 + 2, none⟩) hb2).trans f2
              simp [YieldsF, go_sem, z0, z1, z2, q0, q1]
              exact Ext.refl _
            apply step_det (.bool true) rfl rfl rfl
            · intro w' hw' hH
              clear hH
              simp [YieldsF, go_sem, g0, g1]
              exact Ext.refl _
            apply WalkF_nil
            intro w2 hw2 hH
            clear hH
            have HX2 : Hid (Ext w w2) := Lib.hid (HX.out.trans hw2)
            clear hw2 c0 c1 c2 f0 f1 f2
            try simp only [Act.put, List.setIfInBounds_toArray, List.set_cons_zero, List.set_cons_succ]
            go_wp2_with fail
            go_ret
            exact ⟨ret_bool HN.out.symm, HX2.out⟩
        · have HN := Lib.hid (HNO.out (by intro h; simp only [Prod.mk.injEq] at h; exact h0 h.1))
          have g0 : (kd == kd2) = false := beq_eq_false_iff_ne.2 h0
          go_upto_region 6 with fail
          apply wp_region_ext (by kernel_rfl) (by kernel_rfl) (by kernel_rfl)
          apply step_det (.slice (some ⟨b1, off1, none⟩) l.length c) rfl rfl rfl
          · intro w' hw' hH
            clear hH
            simp [YieldsF, go_sem, q0, q1]
            exact Ext.refl _
          apply step_det (.int .i64 (k : Int)) rfl rfl rfl
          · intro w' hw' hH
            clear hH
            simp [YieldsF, go_sem, q0, q1]
            exact Ext.refl _
          apply step_det (.pointer (some ⟨b1, off1 + k * 3, none⟩)) rfl rfl rfl
          · intro w' hw' hH
            clear hH
            simp [YieldsF, go_sem, q0, q1]
            exact Ext.refl _
          apply step_det (.agg #[.int .u8 kd, .int .i64 nn, .int .i64 vv]) rfl rfl rfl
          · intro w' hw' hH
            clear hH
            have z0 := (hw'.cell (p := ⟨b1, off1 + k * 3, none⟩) hb1).trans c0
            have z1 := (hw'.cell (p := ⟨b1, off1 + k * 3 + 1, none⟩) hb1).trans c1
            have z2 := (hw'.cell (p := ⟨b1, off1 + k * 3 + 2, none⟩) hb1).trans c2
            simp [YieldsF, go_sem, z0, z1, z2, q0, q1]
            exact Ext.refl _
          apply step_det (.slice (some ⟨b2, off2, none⟩) m.length d) rfl rfl rfl
          · intro w' hw' hH
            clear hH
            simp [YieldsF, go_sem, q0, q1]
            exact Ext.refl _
          apply step_det (.int .i64 (k : Int)) rfl rfl rfl
          · intro w' hw' hH
            clear hH
            simp [YieldsF, go_sem, q0, q1]
            exact Ext.refl _
          apply step_det (.pointer (some ⟨b2, off2 + k * 3, none⟩)) rfl rfl rfl
          · intro w' hw' hH
            clear hH
            simp [YieldsF, go_sem, q0, q1]
            exact Ext.refl _
          apply step_det (.agg #[.int .u8 kd2, .int .i64 nn2, .int .i64 vv2]) rfl rfl rfl
          · intro w' hw' hH
            clear hH
            have z0 := (hw'.cell (p := ⟨b2, off2 + k * 3, none⟩) hb2).trans f0
            have z1 := (hw'.cell (p := ⟨b2, off2 + k * 3 + 1, none⟩) hb2).trans f1
            have z2 := (hw'.cell (p := ⟨b2, off2 + k * 3 + 2, none⟩) hb2).trans f2
            simp [YieldsF, go_sem, z0, z1, z2, q0, q1]
            exact Ext.refl _
          apply step_det (.bool true) rfl rfl rfl
          · intro w' hw' hH
            clear hH
            simp [YieldsF, go_sem, g0]
            exact Ext.refl _
          apply WalkF_nil
          intro w2 hw2 hH
          clear hH
          have HX2 : Hid (Ext w w2) := Lib.hid (HX.out.trans hw2)
          clear hw2 c0 c1 c2 f0 f1 f2
          try simp only [Act.put, List.setIfInBounds_toArray, List.set_cons_zero, List.set_cons_succ]
          go_wp2_with fail
          go_ret
          exact ⟨ret_bool HN.out.symm, HX2.out⟩
      · obtain rfl : k = l.length := by omega
        have d0 : decide ((l.length : Int) < (l.length : Int)) = false := by simp
        have HBT : Hid (b = true) := Lib.hid (by
          rw [← hb.out]
          exact decide_eq_true (List.ext_getElem HLW.out (fun j h1 h2 => HR.out j h1 h2 h1)))
        go_wp2_with fail
        go_ret
        exact ⟨ret_bool HBT.out.symm, HX.out⟩
  · have e0 : ((l.length : Int) == (m.length : Int)) = false := by rw [beq_eq_false_iff_ne]; omega
    have e1 : ((l.length : Int) != (m.length : Int)) = true := by rw [bne, e0]; rfl
    have HBF : Hid (b = false) := Lib.hid (by rw [← hb.out]; apply decide_eq_false; rintro rfl; exact hlw rfl)
    go_enter Try.func37, Try.ntmps37
    go_wp2_with fail
    go_ret
    exact ⟨ret_bool HBF.out.symm, Ext.refl _⟩
end Go.Proofs.Ytngbpaiohfokbaa
