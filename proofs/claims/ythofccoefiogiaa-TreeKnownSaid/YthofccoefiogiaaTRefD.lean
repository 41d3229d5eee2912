/- The document's deep, walked. -/
import Derived.Test.YthofccoefiogiaaTRefB
namespace Go.Proofs.Ythofccoefiogiaa
open Go Go.RowKit
set_option linter.unusedVariables false
set_option linter.unusedSimpArgs false
theorem ownU_b (k u : Int) : 0 ≤ ownU k u ∧ ownU k u ≤ 1 := by unfold ownU; split <;> omega
theorem fold_le (g : Int → Int) (c : Int) (h : ∀ k, g k ≤ c) : ∀ (l : List Int) (m : Int), m ≤ c → l.foldl (fun m k => max m (g k)) m ≤ c := by
  intro l
  induction l with
  | nil => intro m hm; exact hm
  | cons k r ih => intro m hm; rw [List.foldl_cons]; exact ih _ (by have := h k; omega)
theorem deepF_le (kd : List Int) (ks : List (List Int)) : ∀ (f i : Nat) (u : Int), deepF kd ks f i u ≤ (f : Int) := by
  intro f
  induction f with
  | zero => intro i u; exact Int.le_refl _
  | succ f ih =>
    intro i u
    unfold deepF
    have h1 := (ownU_b (kd.getD i 0) u).2
    have h2 := fold_le (fun k => deepF kd ks f k.toNat (kd.getD i 0)) (f : Int) (fun k => ih k.toNat _) (ks.getD i []) 0 (by omega)
    omega
theorem deepF_succ (kd : List Int) (ks : List (List Int)) (f i : Nat) (u : Int) : deepF kd ks (f + 1) i u = ownU (kd.getD i 0) u + (ks.getD i []).foldl (fun m k => max m (deepF kd ks f k.toNat (kd.getD i 0))) 0 := rfl
theorem ownU_6 {k u : Int} (h : k = 6 ∨ k = 20) : ownU k u = 1 := by unfold ownU; rw [if_pos (.inl h)]
theorem ownU_yes {k u : Int} (h1 : exprB k = true) (h2 : exprB u = true) : ownU k u = 1 := by unfold ownU; rw [if_pos (.inr ⟨h1, h2⟩)]
theorem ownU_no {k u : Int} (h : ¬ (k = 6 ∨ k = 20)) (h1 : exprB k = false ∨ exprB u = false) : ownU k u = 0 := by
  unfold ownU
  rw [if_neg]
  rintro (hh | hh)
  · exact h hh
  · rcases h1 with h1 | h1
    · rw [h1] at hh; exact absurd hh.1 (by decide)
    · rw [h1] at hh; exact absurd hh.2 (by decide)
theorem expr_v (k : Int) (b : Bool) (h : Hid (exprB k = b)) (w : World) : Calls Try.prog 106 #[.int .u8 k] w fun e w' => e = .returned (.bool b) ∧ w = w' := by
  rw [← h.out]; exact Expr_any k w
set_option maxRecDepth 100000 in
set_option maxHeartbeats 16000000 in
theorem deep_any (l : List NodeM) (A : Option Addr) (n c : Nat) (hn : n = l.length) (hlen : l.length ≤ 1000) (hkl : ∀ x ∈ l, x.kids.length ≤ 1000) (hr : rangeB l = true) : ∀ (f i : Nat) (x u v : Int) (w : World), TreeM w A l → f ≤ 1000 → l.length - i ≤ f → x = (i : Int) → i < l.length → Hid (deepF (kdOf l) (ksOf l) f i u = v) →
    Calls Try.prog 73 #[.slice A n c, .int .i64 x, .int .u8 u] w fun e w' => e = .returned (.int .i64 v) ∧ Ext w w' := by
  subst hn
  have HKL := Lib.hid hkl
  have HRB := Lib.hid ((rangeB_iff l).1 hr)
  clear hkl hr
  intro f
  induction f with
  | zero => intro i x u v w ht hf0 hf hx hi hv; omega
  | succ f ih =>
    intro i x u v w ht hf0 hf hx hi hv
    subst hx
    have HT := Lib.hid ht
    have IH := Lib.hid ih
    clear ih ht
    have q0 : (i : Int) < (l.length : Int) := by omega
    obtain ⟨b, off, rfl, hb, hcell⟩ := HT.out.at_ i hi
    have HNO : Hid (NodeOk w l[i]) := Lib.hid (HT.out.ok _ (List.getElem_mem hi))
    have HKN : l[i].kids.length ≤ 1000 := HKL.out _ (List.getElem_mem hi)
    have HRG : Hid (∀ y ∈ l[i].kids, (i : Int) < y ∧ y < (l.length : Int)) := Lib.hid (by have := HRB.out i hi; rw [ksOf_getD l i hi] at this; exact this)
    have HV : Hid (v = ownU l[i].kind u + l[i].kids.foldl (fun m k => max m (deepF (kdOf l) (ksOf l) f k.toNat l[i].kind)) 0) := Lib.hid (by
      rw [← hv.out, deepF_succ, kdOf_getD l i hi, ksOf_getD l i hi])
    generalize l[i] = x at *
    obtain ⟨kind, pos, text, num, kA, kc, kids⟩ := x
    have c0 : w.cell? ⟨b, off + i * 5, none⟩ = some (.int .u8 kind) := hcell 0 (by omega)
    have c4 : w.cell? ⟨b, off + i * 5 + 4, none⟩ = some (.slice kA kids.length kc) := hcell 4 (by omega)
    simp only at HKN HV HRG
    clear hcell
    have HGL : Hid (∀ k, deepF (kdOf l) (ksOf l) f k kind ≤ (f : Int)) := Lib.hid (fun k => deepF_le _ _ f k kind)
    have HGG : Hid (∀ k, 0 ≤ deepF (kdOf l) (ksOf l) f k kind) := Lib.hid (fun k => deepF_ge _ _ f k kind)
    obtain ⟨G, HG⟩ : ∃ G : Nat → Int, Hid ((fun k => deepF (kdOf l) (ksOf l) f k kind) = G) := ⟨_, Lib.hid rfl⟩
    have hga : ∀ k, deepF (kdOf l) (ksOf l) f k kind = G k := fun k => congrFun HG.out k
    have HGA := Lib.hid hga
    simp only [hga] at HV HGL HGG
    clear hga
    by_cases h6 : kind = 6
    · have HOV : Hid (ownU kind u = 1) := Lib.hid (ownU_6 (.inl h6))
      have e6 : (kind == 6) = true := by rw [h6]; rfl
      clear h6
      have CF0 := Lib.hid c0
      have CF4 := Lib.hid c4
      go_enter Try.func73, Try.ntmps73
      go_wp2_with fail
      clear c0 c4
      go_loopw [8, 9] (fun mo i_ wr => ∃ (k : Nat) (m : Int), k ≤ kids.length ∧ i_ = .int .i64 k ∧ mo = .int .i64 m ∧ 0 ≤ m ∧ m ≤ 1000 ∧ Hid (m = (kids.take k).foldl (fun m k => max m (G k.toNat)) 0) ∧ Hid (Ext w wr)) (fun _ i_ _ => kids.length - (intOf i_).toNat)
      case atStart => exact ⟨0, 0, Nat.zero_le _, rfl, rfl, by omega, by omega, Lib.hid rfl, Lib.hid (Ext.refl _)⟩
      case round =>
        obtain ⟨k, m, hk, rfl, rfl, hm0, hm1, HM, HX⟩ := hrel
        obtain ⟨wa, rfl⟩ : ∃ wa : World, wa = wr := ⟨_, rfl⟩
        have HBL : Hid (b < wa.heap.size) := Lib.hid (Nat.lt_of_lt_of_le hb HX.out.size)
        have c0 : wa.cell? ⟨b, off + i * 5, none⟩ = some (.int .u8 kind) := (HX.out.cell (p := ⟨b, off + i * 5, none⟩) hb).trans CF0.out
        have c4 : wa.cell? ⟨b, off + i * 5 + 4, none⟩ = some (.slice kA kids.length kc) := (HX.out.cell (p := ⟨b, off + i * 5 + 4, none⟩) hb).trans CF4.out
        by_cases hlt : k < kids.length
        · have d1 : decide ((k : Int) < (kids.length : Int)) = true := decide_eq_true (by omega)
          have q1 : (k : Int) < (kids.length : Int) := by omega
          obtain ⟨b2, off2, rfl, hb2, hk2⟩ := kids_at (HNO.out.kids.ext HX.out) k hlt
          simp only at hk2 hb2
          have hy := HRG.out kids[k] (List.getElem_mem hlt)
          have HM2 : Hid ((kids.take (k + 1)).foldl (fun m k => max m (G k.toNat)) 0 = max m (G (kids[k]).toNat)) := Lib.hid (by rw [List.take_succ_eq_append_getElem hlt, List.foldl_append, ← HM.out]; rfl)
          generalize kids[k] = y at *
          obtain ⟨a, rfl⟩ : ∃ a : Nat, y = (a : Int) := ⟨y.toNat, by omega⟩
          rw [Int.toNat_natCast] at HM2
          have hg1 := HGL.out a
          have hg2 := HGG.out a
          have HGE := Lib.hid (HGA.out a)
          generalize G a = ga at *
          have HT1 := Lib.hid (HT.out.ext HX.out)
          go_upto_region 8 with fail
          apply wp_region_ext (by kernel_rfl) (by kernel_rfl) (by kernel_rfl)
          apply step_det (.int .i64 m) rfl rfl rfl
          · intro w' hw' hH
            clear hH
            simp [YieldsF, go_sem, q0, q1]
            exact Ext.refl _
          apply step_det (.slice (some ⟨b, off, none⟩) l.length c) rfl rfl rfl
          · intro w' hw' hH
            clear hH
            simp [YieldsF, go_sem, q0, q1]
            exact Ext.refl _
          apply step_det (.slice (some ⟨b, off, none⟩) l.length c) rfl rfl rfl
          · intro w' hw' hH
            clear hH
            simp [YieldsF, go_sem, q0, q1]
            exact Ext.refl _
          apply step_det (.int .i64 (i : Int)) rfl rfl rfl
          · intro w' hw' hH
            clear hH
            simp [YieldsF, go_sem, q0, q1]
            exact Ext.refl _
          apply step_det (.pointer (some ⟨b, off + i * 5, none⟩)) rfl rfl rfl
          · intro w' hw' hH
            clear hH
            simp [YieldsF, go_sem, q0, q1]
            exact Ext.refl _
          apply step_det (.pointer (some ⟨b, off + i * 5 + 4, none⟩)) rfl rfl rfl
          · intro w' hw' hH
            clear hH
            simp [YieldsF, go_sem, q0, q1]
            exact Ext.refl _
          apply step_det (.slice (some ⟨b2, off2, none⟩) kids.length kc) rfl rfl rfl
          · intro w' hw' hH
            clear hH
            have z0 := (hw'.cell (p := ⟨b, off + i * 5 + 4, none⟩) HBL.out).trans c4
            simp [YieldsF, go_sem, z0, q0, q1]
            exact Ext.refl _
          apply step_det (.int .i64 (k : Int)) rfl rfl rfl
          · intro w' hw' hH
            clear hH
            simp [YieldsF, go_sem, q0, q1]
            exact Ext.refl _
          apply step_det (.pointer (some ⟨b2, off2 + k, none⟩)) rfl rfl rfl
          · intro w' hw' hH
            clear hH
            simp [YieldsF, go_sem, q0, q1]
            exact Ext.refl _
          apply step_det (.int .i64 (a : Int)) rfl rfl rfl
          · intro w' hw' hH
            clear hH
            have z0 := (hw'.cell (p := ⟨b2, off2 + k, none⟩) hb2).trans hk2
            simp [YieldsF, go_sem, z0, q0, q1]
            exact Ext.refl _
          apply step_det (.slice (some ⟨b, off, none⟩) l.length c) rfl rfl rfl
          · intro w' hw' hH
            clear hH
            simp [YieldsF, go_sem, q0, q1]
            exact Ext.refl _
          apply step_det (.int .i64 (i : Int)) rfl rfl rfl
          · intro w' hw' hH
            clear hH
            simp [YieldsF, go_sem, q0, q1]
            exact Ext.refl _
          apply step_det (.pointer (some ⟨b, off + i * 5, none⟩)) rfl rfl rfl
          · intro w' hw' hH
            clear hH
            simp [YieldsF, go_sem, q0, q1]
            exact Ext.refl _
          apply step_det (.pointer (some ⟨b, off + i * 5, none⟩)) rfl rfl rfl
          · intro w' hw' hH
            clear hH
            simp [YieldsF, go_sem, q0, q1]
            exact Ext.refl _
          apply step_det (.int .u8 kind) rfl rfl rfl
          · intro w' hw' hH
            clear hH
            have z0 := (hw'.cell (p := ⟨b, off + i * 5, none⟩) HBL.out).trans c0
            simp [YieldsF, go_sem, z0, q0, q1]
            exact Ext.refl _
          apply step_det (.int .i64 ga) rfl rfl rfl
          · intro w' hw' hH
            clear hH
            simp [YieldsF, go_sem]
            refine (IH.out a (a : Int) kind ga w' (HT1.out.ext hw') (by omega) (by omega) rfl (by omega) HGE).mono ?_
            rintro e w2 ⟨rfl, hx⟩
            exact ⟨_, rfl, rfl, hx⟩
          apply step_det (.int .i64 (max m ga)) rfl rfl rfl
          · intro w' hw' hH
            clear hH
            simp [YieldsF, go_sem]
            exact ⟨by split <;> omega, Ext.refl _⟩
          apply step_det (.int .i64 (max m ga)) rfl rfl rfl
          · intro w' hw' hH
            clear hH
            simp [YieldsF, go_sem, q0, q1]
            exact Ext.refl _
          apply WalkF_nil
          intro w2 hw2 hH
          clear hH
          have HX2 : Hid (Ext w w2) := Lib.hid (HX.out.trans hw2)
          clear hw2
          try simp only [Act.put, List.setIfInBounds_toArray, List.set_cons_zero, List.set_cons_succ]
          go_wp2_with fail
          go_roundw
          case rel => exact ⟨k + 1, max m ga, by omega, by go_num, rfl, by omega, by omega, Lib.hid HM2.out.symm, HX2⟩
          case measure => simp [intOf]; omega
        · obtain rfl : k = kids.length := by omega
          have d1 : decide ((kids.length : Int) < (kids.length : Int)) = false := by simp
          have HZ : Hid (v = 1 + m) := Lib.hid (by have h1 := HM.out; rw [List.take_length] at h1; rw [HV.out, HOV.out, h1])
          go_wp2_with fail
          go_ret
          exact ⟨by rw [HZ.out]; first | rfl | (go_num), HX.out⟩
    · have e6 : (kind == 6) = false := beq_eq_false_iff_ne.2 h6
      by_cases h20 : kind = 20
      · have HOV : Hid (ownU kind u = 1) := Lib.hid (ownU_6 (.inr h20))
        have e20 : (kind == 20) = true := by rw [h20]; rfl
        clear h20
        have CF0 := Lib.hid c0
        have CF4 := Lib.hid c4
        go_enter Try.func73, Try.ntmps73
        go_wp2_with fail
        clear c0 c4
        go_loopw [8, 9] (fun mo i_ wr => ∃ (k : Nat) (m : Int), k ≤ kids.length ∧ i_ = .int .i64 k ∧ mo = .int .i64 m ∧ 0 ≤ m ∧ m ≤ 1000 ∧ Hid (m = (kids.take k).foldl (fun m k => max m (G k.toNat)) 0) ∧ Hid (Ext w wr)) (fun _ i_ _ => kids.length - (intOf i_).toNat)
        case atStart => exact ⟨0, 0, Nat.zero_le _, rfl, rfl, by omega, by omega, Lib.hid rfl, Lib.hid (Ext.refl _)⟩
        case round =>
          obtain ⟨k, m, hk, rfl, rfl, hm0, hm1, HM, HX⟩ := hrel
          obtain ⟨wa, rfl⟩ : ∃ wa : World, wa = wr := ⟨_, rfl⟩
          have HBL : Hid (b < wa.heap.size) := Lib.hid (Nat.lt_of_lt_of_le hb HX.out.size)
          have c0 : wa.cell? ⟨b, off + i * 5, none⟩ = some (.int .u8 kind) := (HX.out.cell (p := ⟨b, off + i * 5, none⟩) hb).trans CF0.out
          have c4 : wa.cell? ⟨b, off + i * 5 + 4, none⟩ = some (.slice kA kids.length kc) := (HX.out.cell (p := ⟨b, off + i * 5 + 4, none⟩) hb).trans CF4.out
          by_cases hlt : k < kids.length
          · have d1 : decide ((k : Int) < (kids.length : Int)) = true := decide_eq_true (by omega)
            have q1 : (k : Int) < (kids.length : Int) := by omega
            obtain ⟨b2, off2, rfl, hb2, hk2⟩ := kids_at (HNO.out.kids.ext HX.out) k hlt
            simp only at hk2 hb2
            have hy := HRG.out kids[k] (List.getElem_mem hlt)
            have HM2 : Hid ((kids.take (k + 1)).foldl (fun m k => max m (G k.toNat)) 0 = max m (G (kids[k]).toNat)) := Lib.hid (by rw [List.take_succ_eq_append_getElem hlt, List.foldl_append, ← HM.out]; rfl)
            generalize kids[k] = y at *
            obtain ⟨a, rfl⟩ : ∃ a : Nat, y = (a : Int) := ⟨y.toNat, by omega⟩
            rw [Int.toNat_natCast] at HM2
            have hg1 := HGL.out a
            have hg2 := HGG.out a
            have HGE := Lib.hid (HGA.out a)
            generalize G a = ga at *
            have HT1 := Lib.hid (HT.out.ext HX.out)
            go_upto_region 8 with fail
            apply wp_region_ext (by kernel_rfl) (by kernel_rfl) (by kernel_rfl)
            apply step_det (.int .i64 m) rfl rfl rfl
            · intro w' hw' hH
              clear hH
              simp [YieldsF, go_sem, q0, q1]
              exact Ext.refl _
            apply step_det (.slice (some ⟨b, off, none⟩) l.length c) rfl rfl rfl
            · intro w' hw' hH
              clear hH
              simp [YieldsF, go_sem, q0, q1]
              exact Ext.refl _
            apply step_det (.slice (some ⟨b, off, none⟩) l.length c) rfl rfl rfl
            · intro w' hw' hH
              clear hH
              simp [YieldsF, go_sem, q0, q1]
              exact Ext.refl _
            apply step_det (.int .i64 (i : Int)) rfl rfl rfl
            · intro w' hw' hH
              clear hH
              simp [YieldsF, go_sem, q0, q1]
              exact Ext.refl _
            apply step_det (.pointer (some ⟨b, off + i * 5, none⟩)) rfl rfl rfl
            · intro w' hw' hH
              clear hH
              simp [YieldsF, go_sem, q0, q1]
              exact Ext.refl _
            apply step_det (.pointer (some ⟨b, off + i * 5 + 4, none⟩)) rfl rfl rfl
            · intro w' hw' hH
              clear hH
              simp [YieldsF, go_sem, q0, q1]
              exact Ext.refl _
            apply step_det (.slice (some ⟨b2, off2, none⟩) kids.length kc) rfl rfl rfl
            · intro w' hw' hH
              clear hH
              have z0 := (hw'.cell (p := ⟨b, off + i * 5 + 4, none⟩) HBL.out).trans c4
              simp [YieldsF, go_sem, z0, q0, q1]
              exact Ext.refl _
            apply step_det (.int .i64 (k : Int)) rfl rfl rfl
            · intro w' hw' hH
              clear hH
              simp [YieldsF, go_sem, q0, q1]
              exact Ext.refl _
            apply step_det (.pointer (some ⟨b2, off2 + k, none⟩)) rfl rfl rfl
            · intro w' hw' hH
              clear hH
              simp [YieldsF, go_sem, q0, q1]
              exact Ext.refl _
            apply step_det (.int .i64 (a : Int)) rfl rfl rfl
            · intro w' hw' hH
              clear hH
              have z0 := (hw'.cell (p := ⟨b2, off2 + k, none⟩) hb2).trans hk2
              simp [YieldsF, go_sem, z0, q0, q1]
              exact Ext.refl _
            apply step_det (.slice (some ⟨b, off, none⟩) l.length c) rfl rfl rfl
            · intro w' hw' hH
              clear hH
              simp [YieldsF, go_sem, q0, q1]
              exact Ext.refl _
            apply step_det (.int .i64 (i : Int)) rfl rfl rfl
            · intro w' hw' hH
              clear hH
              simp [YieldsF, go_sem, q0, q1]
              exact Ext.refl _
            apply step_det (.pointer (some ⟨b, off + i * 5, none⟩)) rfl rfl rfl
            · intro w' hw' hH
              clear hH
              simp [YieldsF, go_sem, q0, q1]
              exact Ext.refl _
            apply step_det (.pointer (some ⟨b, off + i * 5, none⟩)) rfl rfl rfl
            · intro w' hw' hH
              clear hH
              simp [YieldsF, go_sem, q0, q1]
              exact Ext.refl _
            apply step_det (.int .u8 kind) rfl rfl rfl
            · intro w' hw' hH
              clear hH
              have z0 := (hw'.cell (p := ⟨b, off + i * 5, none⟩) HBL.out).trans c0
              simp [YieldsF, go_sem, z0, q0, q1]
              exact Ext.refl _
            apply step_det (.int .i64 ga) rfl rfl rfl
            · intro w' hw' hH
              clear hH
              simp [YieldsF, go_sem]
              refine (IH.out a (a : Int) kind ga w' (HT1.out.ext hw') (by omega) (by omega) rfl (by omega) HGE).mono ?_
              rintro e w2 ⟨rfl, hx⟩
              exact ⟨_, rfl, rfl, hx⟩
            apply step_det (.int .i64 (max m ga)) rfl rfl rfl
            · intro w' hw' hH
              clear hH
              simp [YieldsF, go_sem]
              exact ⟨by split <;> omega, Ext.refl _⟩
            apply step_det (.int .i64 (max m ga)) rfl rfl rfl
            · intro w' hw' hH
              clear hH
              simp [YieldsF, go_sem, q0, q1]
              exact Ext.refl _
            apply WalkF_nil
            intro w2 hw2 hH
            clear hH
            have HX2 : Hid (Ext w w2) := Lib.hid (HX.out.trans hw2)
            clear hw2
            try simp only [Act.put, List.setIfInBounds_toArray, List.set_cons_zero, List.set_cons_succ]
            go_wp2_with fail
            go_roundw
            case rel => exact ⟨k + 1, max m ga, by omega, by go_num, rfl, by omega, by omega, Lib.hid HM2.out.symm, HX2⟩
            case measure => simp [intOf]; omega
          · obtain rfl : k = kids.length := by omega
            have d1 : decide ((kids.length : Int) < (kids.length : Int)) = false := by simp
            have HZ : Hid (v = 1 + m) := Lib.hid (by have h1 := HM.out; rw [List.take_length] at h1; rw [HV.out, HOV.out, h1])
            go_wp2_with fail
            go_ret
            exact ⟨by rw [HZ.out]; first | rfl | (go_num), HX.out⟩
      · have e20 : (kind == 20) = false := beq_eq_false_iff_ne.2 h20
        have HN6 : Hid (¬ (kind = 6 ∨ kind = 20)) := Lib.hid (fun h => h.elim h6 h20)
        clear h6 h20
        obtain ⟨t1, HE1⟩ : ∃ t, Hid (exprB kind = t) := ⟨_, Lib.hid rfl⟩
        obtain ⟨t2, HE2⟩ : ∃ t, Hid (exprB u = t) := ⟨_, Lib.hid rfl⟩
        cases t1 with
        | false =>
          have HOV : Hid (ownU kind u = 0) := Lib.hid (ownU_no HN6.out (.inl HE1.out))
          have CF0 := Lib.hid c0
          have CF4 := Lib.hid c4
          go_enter Try.func73, Try.ntmps73
          go_wp2_with (go_at_call 106; first | (refine (expr_v kind _ HE1 _).mono ?_; rintro e w2 ⟨rfl, rfl⟩) | (refine (expr_v u _ HE2 _).mono ?_; rintro e w2 ⟨rfl, rfl⟩))
          clear c0 c4
          go_loopw [8, 9] (fun mo i_ wr => ∃ (k : Nat) (m : Int), k ≤ kids.length ∧ i_ = .int .i64 k ∧ mo = .int .i64 m ∧ 0 ≤ m ∧ m ≤ 1000 ∧ Hid (m = (kids.take k).foldl (fun m k => max m (G k.toNat)) 0) ∧ Hid (Ext w wr)) (fun _ i_ _ => kids.length - (intOf i_).toNat)
          case atStart => exact ⟨0, 0, Nat.zero_le _, rfl, rfl, by omega, by omega, Lib.hid rfl, Lib.hid (Ext.refl _)⟩
          case round =>
            obtain ⟨k, m, hk, rfl, rfl, hm0, hm1, HM, HX⟩ := hrel
            obtain ⟨wa, rfl⟩ : ∃ wa : World, wa = wr := ⟨_, rfl⟩
            have HBL : Hid (b < wa.heap.size) := Lib.hid (Nat.lt_of_lt_of_le hb HX.out.size)
            have c0 : wa.cell? ⟨b, off + i * 5, none⟩ = some (.int .u8 kind) := (HX.out.cell (p := ⟨b, off + i * 5, none⟩) hb).trans CF0.out
            have c4 : wa.cell? ⟨b, off + i * 5 + 4, none⟩ = some (.slice kA kids.length kc) := (HX.out.cell (p := ⟨b, off + i * 5 + 4, none⟩) hb).trans CF4.out
            by_cases hlt : k < kids.length
            · have d1 : decide ((k : Int) < (kids.length : Int)) = true := decide_eq_true (by omega)
              have q1 : (k : Int) < (kids.length : Int) := by omega
              obtain ⟨b2, off2, rfl, hb2, hk2⟩ := kids_at (HNO.out.kids.ext HX.out) k hlt
              simp only at hk2 hb2
              have hy := HRG.out kids[k] (List.getElem_mem hlt)
              have HM2 : Hid ((kids.take (k + 1)).foldl (fun m k => max m (G k.toNat)) 0 = max m (G (kids[k]).toNat)) := Lib.hid (by rw [List.take_succ_eq_append_getElem hlt, List.foldl_append, ← HM.out]; rfl)
              generalize kids[k] = y at *
              obtain ⟨a, rfl⟩ : ∃ a : Nat, y = (a : Int) := ⟨y.toNat, by omega⟩
              rw [Int.toNat_natCast] at HM2
              have hg1 := HGL.out a
              have hg2 := HGG.out a
              have HGE := Lib.hid (HGA.out a)
              generalize G a = ga at *
              have HT1 := Lib.hid (HT.out.ext HX.out)
              go_upto_region 8 with fail
              apply wp_region_ext (by kernel_rfl) (by kernel_rfl) (by kernel_rfl)
              apply step_det (.int .i64 m) rfl rfl rfl
              · intro w' hw' hH
                clear hH
                simp [YieldsF, go_sem, q0, q1]
                exact Ext.refl _
              apply step_det (.slice (some ⟨b, off, none⟩) l.length c) rfl rfl rfl
              · intro w' hw' hH
                clear hH
                simp [YieldsF, go_sem, q0, q1]
                exact Ext.refl _
              apply step_det (.slice (some ⟨b, off, none⟩) l.length c) rfl rfl rfl
              · intro w' hw' hH
                clear hH
                simp [YieldsF, go_sem, q0, q1]
                exact Ext.refl _
              apply step_det (.int .i64 (i : Int)) rfl rfl rfl
              · intro w' hw' hH
                clear hH
                simp [YieldsF, go_sem, q0, q1]
                exact Ext.refl _
              apply step_det (.pointer (some ⟨b, off + i * 5, none⟩)) rfl rfl rfl
              · intro w' hw' hH
                clear hH
                simp [YieldsF, go_sem, q0, q1]
                exact Ext.refl _
              apply step_det (.pointer (some ⟨b, off + i * 5 + 4, none⟩)) rfl rfl rfl
              · intro w' hw' hH
                clear hH
                simp [YieldsF, go_sem, q0, q1]
                exact Ext.refl _
              apply step_det (.slice (some ⟨b2, off2, none⟩) kids.length kc) rfl rfl rfl
              · intro w' hw' hH
                clear hH
                have z0 := (hw'.cell (p := ⟨b, off + i * 5 + 4, none⟩) HBL.out).trans c4
                simp [YieldsF, go_sem, z0, q0, q1]
                exact Ext.refl _
              apply step_det (.int .i64 (k : Int)) rfl rfl rfl
              · intro w' hw' hH
                clear hH
                simp [YieldsF, go_sem, q0, q1]
                exact Ext.refl _
              apply step_det (.pointer (some ⟨b2, off2 + k, none⟩)) rfl rfl rfl
              · intro w' hw' hH
                clear hH
                simp [YieldsF, go_sem, q0, q1]
                exact Ext.refl _
              apply step_det (.int .i64 (a : Int)) rfl rfl rfl
              · intro w' hw' hH
                clear hH
                have z0 := (hw'.cell (p := ⟨b2, off2 + k, none⟩) hb2).trans hk2
                simp [YieldsF, go_sem, z0, q0, q1]
                exact Ext.refl _
              apply step_det (.slice (some ⟨b, off, none⟩) l.length c) rfl rfl rfl
              · intro w' hw' hH
                clear hH
                simp [YieldsF, go_sem, q0, q1]
                exact Ext.refl _
              apply step_det (.int .i64 (i : Int)) rfl rfl rfl
              · intro w' hw' hH
                clear hH
                simp [YieldsF, go_sem, q0, q1]
                exact Ext.refl _
              apply step_det (.pointer (some ⟨b, off + i * 5, none⟩)) rfl rfl rfl
              · intro w' hw' hH
                clear hH
                simp [YieldsF, go_sem, q0, q1]
                exact Ext.refl _
              apply step_det (.pointer (some ⟨b, off + i * 5, none⟩)) rfl rfl rfl
              · intro w' hw' hH
                clear hH
                simp [YieldsF, go_sem, q0, q1]
                exact Ext.refl _
              apply step_det (.int .u8 kind) rfl rfl rfl
              · intro w' hw' hH
                clear hH
                have z0 := (hw'.cell (p := ⟨b, off + i * 5, none⟩) HBL.out).trans c0
                simp [YieldsF, go_sem, z0, q0, q1]
                exact Ext.refl _
              apply step_det (.int .i64 ga) rfl rfl rfl
              · intro w' hw' hH
                clear hH
                simp [YieldsF, go_sem]
                refine (IH.out a (a : Int) kind ga w' (HT1.out.ext hw') (by omega) (by omega) rfl (by omega) HGE).mono ?_
                rintro e w2 ⟨rfl, hx⟩
                exact ⟨_, rfl, rfl, hx⟩
              apply step_det (.int .i64 (max m ga)) rfl rfl rfl
              · intro w' hw' hH
                clear hH
                simp [YieldsF, go_sem]
                exact ⟨by split <;> omega, Ext.refl _⟩
              apply step_det (.int .i64 (max m ga)) rfl rfl rfl
              · intro w' hw' hH
                clear hH
                simp [YieldsF, go_sem, q0, q1]
                exact Ext.refl _
              apply WalkF_nil
              intro w2 hw2 hH
              clear hH
              have HX2 : Hid (Ext w w2) := Lib.hid (HX.out.trans hw2)
              clear hw2
              try simp only [Act.put, List.setIfInBounds_toArray, List.set_cons_zero, List.set_cons_succ]
              go_wp2_with fail
              go_roundw
              case rel => exact ⟨k + 1, max m ga, by omega, by go_num, rfl, by omega, by omega, Lib.hid HM2.out.symm, HX2⟩
              case measure => simp [intOf]; omega
            · obtain rfl : k = kids.length := by omega
              have d1 : decide ((kids.length : Int) < (kids.length : Int)) = false := by simp
              have HZ : Hid (v = 0 + m) := Lib.hid (by have h1 := HM.out; rw [List.take_length] at h1; rw [HV.out, HOV.out, h1])
              go_wp2_with fail
              go_ret
              exact ⟨by rw [HZ.out, Int.zero_add]; rfl, HX.out⟩
        | true =>
          cases t2 with
          | false =>
            have HOV : Hid (ownU kind u = 0) := Lib.hid (ownU_no HN6.out (.inr HE2.out))
            have CF0 := Lib.hid c0
            have CF4 := Lib.hid c4
            go_enter Try.func73, Try.ntmps73
            go_wp2_with (go_at_call 106; first | (refine (expr_v kind _ HE1 _).mono ?_; rintro e w2 ⟨rfl, rfl⟩) | (refine (expr_v u _ HE2 _).mono ?_; rintro e w2 ⟨rfl, rfl⟩))
            clear c0 c4
            go_loopw [8, 9] (fun mo i_ wr => ∃ (k : Nat) (m : Int), k ≤ kids.length ∧ i_ = .int .i64 k ∧ mo = .int .i64 m ∧ 0 ≤ m ∧ m ≤ 1000 ∧ Hid (m = (kids.take k).foldl (fun m k => max m (G k.toNat)) 0) ∧ Hid (Ext w wr)) (fun _ i_ _ => kids.length - (intOf i_).toNat)
            case atStart => exact ⟨0, 0, Nat.zero_le _, rfl, rfl, by omega, by omega, Lib.hid rfl, Lib.hid (Ext.refl _)⟩
            case round =>
              obtain ⟨k, m, hk, rfl, rfl, hm0, hm1, HM, HX⟩ := hrel
              obtain ⟨wa, rfl⟩ : ∃ wa : World, wa = wr := ⟨_, rfl⟩
              have HBL : Hid (b < wa.heap.size) := Lib.hid (Nat.lt_of_lt_of_le hb HX.out.size)
              have c0 : wa.cell? ⟨b, off + i * 5, none⟩ = some (.int .u8 kind) := (HX.out.cell (p := ⟨b, off + i * 5, none⟩) hb).trans CF0.out
              have c4 : wa.cell? ⟨b, off + i * 5 + 4, none⟩ = some (.slice kA kids.length kc) := (HX.out.cell (p := ⟨b, off + i * 5 + 4, none⟩) hb).trans CF4.out
              by_cases hlt : k < kids.length
              · have d1 : decide ((k : Int) < (kids.length : Int)) = true := decide_eq_true (by omega)
                have q1 : (k : Int) < (kids.length : Int) := by omega
                obtain ⟨b2, off2, rfl, hb2, hk2⟩ := kids_at (HNO.out.kids.ext HX.out) k hlt
                simp only at hk2 hb2
                have hy := HRG.out kids[k] (List.getElem_mem hlt)
                have HM2 : Hid ((kids.take (k + 1)).foldl (fun m k => max m (G k.toNat)) 0 = max m (G (kids[k]).toNat)) := Lib.hid (by rw [List.take_succ_eq_append_getElem hlt, List.foldl_append, ← HM.out]; rfl)
                generalize kids[k] = y at *
                obtain ⟨a, rfl⟩ : ∃ a : Nat, y = (a : Int) := ⟨y.toNat, by omega⟩
                rw [Int.toNat_natCast] at HM2
                have hg1 := HGL.out a
                have hg2 := HGG.out a
                have HGE := Lib.hid (HGA.out a)
                generalize G a = ga at *
                have HT1 := Lib.hid (HT.out.ext HX.out)
                go_upto_region 8 with fail
                apply wp_region_ext (by kernel_rfl) (by kernel_rfl) (by kernel_rfl)
                apply step_det (.int .i64 m) rfl rfl rfl
                · intro w' hw' hH
                  clear hH
                  simp [YieldsF, go_sem, q0, q1]
                  exact Ext.refl _
                apply step_det (.slice (some ⟨b, off, none⟩) l.length c) rfl rfl rfl
                · intro w' hw' hH
                  clear hH
                  simp [YieldsF, go_sem, q0, q1]
                  exact Ext.refl _
                apply step_det (.slice (some ⟨b, off, none⟩) l.length c) rfl rfl rfl
                · intro w' hw' hH
                  clear hH
                  simp [YieldsF, go_sem, q0, q1]
                  exact Ext.refl _
                apply step_det (.int .i64 (i : Int)) rfl rfl rfl
                · intro w' hw' hH
                  clear hH
                  simp [YieldsF, go_sem, q0, q1]
                  exact Ext.refl _
                apply step_det (.pointer (some ⟨b, off + i * 5, none⟩)) rfl rfl rfl
                · intro w' hw' hH
                  clear hH
                  simp [YieldsF, go_sem, q0, q1]
                  exact Ext.refl _
                apply step_det (.pointer (some ⟨b, off + i * 5 + 4, none⟩)) rfl rfl rfl
                · intro w' hw' hH
                  clear hH
                  simp [YieldsF, go_sem, q0, q1]
                  exact Ext.refl _
                apply step_det (.slice (some ⟨b2, off2, none⟩) kids.length kc) rfl rfl rfl
                · intro w' hw' hH
                  clear hH
                  have z0 := (hw'.cell (p := ⟨b, off + i * 5 + 4, none⟩) HBL.out).trans c4
                  simp [YieldsF, go_sem, z0, q0, q1]
                  exact Ext.refl _
                apply step_det (.int .i64 (k : Int)) rfl rfl rfl
                · intro w' hw' hH
                  clear hH
                  simp [YieldsF, go_sem, q0, q1]
                  exact Ext.refl _
                apply step_det (.pointer (some ⟨b2, off2 + k, none⟩)) rfl rfl rfl
                · intro w' hw' hH
                  clear hH
                  simp [YieldsF, go_sem, q0, q1]
                  exact Ext.refl _
                apply step_det (.int .i64 (a : Int)) rfl rfl rfl
                · intro w' hw' hH
                  clear hH
                  have z0 := (hw'.cell (p := ⟨b2, off2 + k, none⟩) hb2).trans hk2
                  simp [YieldsF, go_sem, z0, q0, q1]
                  exact Ext.refl _
                apply step_det (.slice (some ⟨b, off, none⟩) l.length c) rfl rfl rfl
                · intro w' hw' hH
                  clear hH
                  simp [YieldsF, go_sem, q0, q1]
                  exact Ext.refl _
                apply step_det (.int .i64 (i : Int)) rfl rfl rfl
                · intro w' hw' hH
                  clear hH
                  simp [YieldsF, go_sem, q0, q1]
                  exact Ext.refl _
                apply step_det (.pointer (some ⟨b, off + i * 5, none⟩)) rfl rfl rfl
                · intro w' hw' hH
                  clear hH
                  simp [YieldsF, go_sem, q0, q1]
                  exact Ext.refl _
                apply step_det (.pointer (some ⟨b, off + i * 5, none⟩)) rfl rfl rfl
                · intro w' hw' hH
                  clear hH
                  simp [YieldsF, go_sem, q0, q1]
                  exact Ext.refl _
                apply step_det (.int .u8 kind) rfl rfl rfl
                · intro w' hw' hH
                  clear hH
                  have z0 := (hw'.cell (p := ⟨b, off + i * 5, none⟩) HBL.out).trans c0
                  simp [YieldsF, go_sem, z0, q0, q1]
                  exact Ext.refl _
                apply step_det (.int .i64 ga) rfl rfl rfl
                · intro w' hw' hH
                  clear hH
                  simp [YieldsF, go_sem]
                  refine (IH.out a (a : Int) kind ga w' (HT1.out.ext hw') (by omega) (by omega) rfl (by omega) HGE).mono ?_
                  rintro e w2 ⟨rfl, hx⟩
                  exact ⟨_, rfl, rfl, hx⟩
                apply step_det (.int .i64 (max m ga)) rfl rfl rfl
                · intro w' hw' hH
                  clear hH
                  simp [YieldsF, go_sem]
                  exact ⟨by split <;> omega, Ext.refl _⟩
                apply step_det (.int .i64 (max m ga)) rfl rfl rfl
                · intro w' hw' hH
                  clear hH
                  simp [YieldsF, go_sem, q0, q1]
                  exact Ext.refl _
                apply WalkF_nil
                intro w2 hw2 hH
                clear hH
                have HX2 : Hid (Ext w w2) := Lib.hid (HX.out.trans hw2)
                clear hw2
                try simp only [Act.put, List.setIfInBounds_toArray, List.set_cons_zero, List.set_cons_succ]
                go_wp2_with fail
                go_roundw
                case rel => exact ⟨k + 1, max m ga, by omega, by go_num, rfl, by omega, by omega, Lib.hid HM2.out.symm, HX2⟩
                case measure => simp [intOf]; omega
              · obtain rfl : k = kids.length := by omega
                have d1 : decide ((kids.length : Int) < (kids.length : Int)) = false := by simp
                have HZ : Hid (v = 0 + m) := Lib.hid (by have h1 := HM.out; rw [List.take_length] at h1; rw [HV.out, HOV.out, h1])
                go_wp2_with fail
                go_ret
                exact ⟨by rw [HZ.out, Int.zero_add]; rfl, HX.out⟩
          | true =>
            have HOV : Hid (ownU kind u = 1) := Lib.hid (ownU_yes HE1.out HE2.out)
            have CF0 := Lib.hid c0
            have CF4 := Lib.hid c4
            go_enter Try.func73, Try.ntmps73
            go_wp2_with (go_at_call 106; first | (refine (expr_v kind _ HE1 _).mono ?_; rintro e w2 ⟨rfl, rfl⟩) | (refine (expr_v u _ HE2 _).mono ?_; rintro e w2 ⟨rfl, rfl⟩))
            clear c0 c4
            go_loopw [8, 9] (fun mo i_ wr => ∃ (k : Nat) (m : Int), k ≤ kids.length ∧ i_ = .int .i64 k ∧ mo = .int .i64 m ∧ 0 ≤ m ∧ m ≤ 1000 ∧ Hid (m = (kids.take k).foldl (fun m k => max m (G k.toNat)) 0) ∧ Hid (Ext w wr)) (fun _ i_ _ => kids.length - (intOf i_).toNat)
            case atStart => exact ⟨0, 0, Nat.zero_le _, rfl, rfl, by omega, by omega, Lib.hid rfl, Lib.hid (Ext.refl _)⟩
            case round =>
              obtain ⟨k, m, hk, rfl, rfl, hm0, hm1, HM, HX⟩ := hrel
              obtain ⟨wa, rfl⟩ : ∃ wa : World, wa = wr := ⟨_, rfl⟩
              have HBL : Hid (b < wa.heap.size) := Lib.hid (Nat.lt_of_lt_of_le hb HX.out.size)
              have c0 : wa.cell? ⟨b, off + i * 5, none⟩ = some (.int .u8 kind) := (HX.out.cell (p := ⟨b, off + i * 5, none⟩) hb).trans CF0.out
              have c4 : wa.cell? ⟨b, off + i * 5 + 4, none⟩ = some (.slice kA kids.length kc) := (HX.out.cell (p := ⟨b, off + i * 5 + 4, none⟩) hb).trans CF4.out
              by_cases hlt : k < kids.length
              · have d1 : decide ((k : Int) < (kids.length : Int)) = true := decide_eq_true (by omega)
                have q1 : (k : Int) < (kids.length : Int) := by omega
                obtain ⟨b2, off2, rfl, hb2, hk2⟩ := kids_at (HNO.out.kids.ext HX.out) k hlt
                simp only at hk2 hb2
                have hy := HRG.out kids[k] (List.getElem_mem hlt)
                have HM2 : Hid ((kids.take (k + 1)).foldl (fun m k => max m (G k.toNat)) 0 = max m (G (kids[k]).toNat)) := Lib.hid (by rw [List.take_succ_eq_append_getElem hlt, List.foldl_append, ← HM.out]; rfl)
                generalize kids[k] = y at *
                obtain ⟨a, rfl⟩ : ∃ a : Nat, y = (a : Int) := ⟨y.toNat, by omega⟩
                rw [Int.toNat_natCast] at HM2
                have hg1 := HGL.out a
                have hg2 := HGG.out a
                have HGE := Lib.hid (HGA.out a)
                generalize G a = ga at *
                have HT1 := Lib.hid (HT.out.ext HX.out)
                go_upto_region 8 with fail
                apply wp_region_ext (by kernel_rfl) (by kernel_rfl) (by kernel_rfl)
                apply step_det (.int .i64 m) rfl rfl rfl
                · intro w' hw' hH
                  clear hH
                  simp [YieldsF, go_sem, q0, q1]
                  exact Ext.refl _
                apply step_det (.slice (some ⟨b, off, none⟩) l.length c) rfl rfl rfl
                · intro w' hw' hH
                  clear hH
                  simp [YieldsF, go_sem, q0, q1]
                  exact Ext.refl _
                apply step_det (.slice (some ⟨b, off, none⟩) l.length c) rfl rfl rfl
                · intro w' hw' hH
                  clear hH
                  simp [YieldsF, go_sem, q0, q1]
                  exact Ext.refl _
                apply step_det (.int .i64 (i : Int)) rfl rfl rfl
                · intro w' hw' hH
                  clear hH
                  simp [YieldsF, go_sem, q0, q1]
                  exact Ext.refl _
                apply step_det (.pointer (some ⟨b, off + i * 5, none⟩)) rfl rfl rfl
                · intro w' hw' hH
                  clear hH
                  simp [YieldsF, go_sem, q0, q1]
                  exact Ext.refl _
                apply step_det (.pointer (some ⟨b, off + i * 5 + 4, none⟩)) rfl rfl rfl
                · intro w' hw' hH
                  clear hH
                  simp [YieldsF, go_sem, q0, q1]
                  exact Ext.refl _
                apply step_det (.slice (some ⟨b2, off2, none⟩) kids.length kc) rfl rfl rfl
                · intro w' hw' hH
                  clear hH
                  have z0 := (hw'.cell (p := ⟨b, off + i * 5 + 4, none⟩) HBL.out).trans c4
                  simp [YieldsF, go_sem, z0, q0, q1]
                  exact Ext.refl _
                apply step_det (.int .i64 (k : Int)) rfl rfl rfl
                · intro w' hw' hH
                  clear hH
                  simp [YieldsF, go_sem, q0, q1]
                  exact Ext.refl _
                apply step_det (.pointer (some ⟨b2, off2 + k, none⟩)) rfl rfl rfl
                · intro w' hw' hH
                  clear hH
                  simp [YieldsF, go_sem, q0, q1]
                  exact Ext.refl _
                apply step_det (.int .i64 (a : Int)) rfl rfl rfl
                · intro w' hw' hH
                  clear hH
                  have z0 := (hw'.cell (p := ⟨b2, off2 + k, none⟩) hb2).trans hk2
                  simp [YieldsF, go_sem, z0, q0, q1]
                  exact Ext.refl _
                apply step_det (.slice (some ⟨b, off, none⟩) l.length c) rfl rfl rfl
                · intro w' hw' hH
                  clear hH
                  simp [YieldsF, go_sem, q0, q1]
                  exact Ext.refl _
                apply step_det (.int .i64 (i : Int)) rfl rfl rfl
                · intro w' hw' hH
                  clear hH
                  simp [YieldsF, go_sem, q0, q1]
                  exact Ext.refl _
                apply step_det (.pointer (some ⟨b, off + i * 5, none⟩)) rfl rfl rfl
                · intro w' hw' hH
                  clear hH
                  simp [YieldsF, go_sem, q0, q1]
                  exact Ext.refl _
                apply step_det (.pointer (some ⟨b, off + i * 5, none⟩)) rfl rfl rfl
                · intro w' hw' hH
                  clear hH
                  simp [YieldsF, go_sem, q0, q1]
                  exact Ext.refl _
                apply step_det (.int .u8 kind) rfl rfl rfl
                · intro w' hw' hH
                  clear hH
                  have z0 := (hw'.cell (p := ⟨b, off + i * 5, none⟩) HBL.out).trans c0
                  simp [YieldsF, go_sem, z0, q0, q1]
                  exact Ext.refl _
                apply step_det (.int .i64 ga) rfl rfl rfl
                · intro w' hw' hH
                  clear hH
                  simp [YieldsF, go_sem]
                  refine (IH.out a (a : Int) kind ga w' (HT1.out.ext hw') (by omega) (by omega) rfl (by omega) HGE).mono ?_
                  rintro e w2 ⟨rfl, hx⟩
                  exact ⟨_, rfl, rfl, hx⟩
                apply step_det (.int .i64 (max m ga)) rfl rfl rfl
                · intro w' hw' hH
                  clear hH
                  simp [YieldsF, go_sem]
                  exact ⟨by split <;> omega, Ext.refl _⟩
                apply step_det (.int .i64 (max m ga)) rfl rfl rfl
                · intro w' hw' hH
                  clear hH
                  simp [YieldsF, go_sem, q0, q1]
                  exact Ext.refl _
                apply WalkF_nil
                intro w2 hw2 hH
                clear hH
                have HX2 : Hid (Ext w w2) := Lib.hid (HX.out.trans hw2)
                clear hw2
                try simp only [Act.put, List.setIfInBounds_toArray, List.set_cons_zero, List.set_cons_succ]
                go_wp2_with fail
                go_roundw
                case rel => exact ⟨k + 1, max m ga, by omega, by go_num, rfl, by omega, by omega, Lib.hid HM2.out.symm, HX2⟩
                case measure => simp [intOf]; omega
              · obtain rfl : k = kids.length := by omega
                have d1 : decide ((kids.length : Int) < (kids.length : Int)) = false := by simp
                have HZ : Hid (v = 1 + m) := Lib.hid (by have h1 := HM.out; rw [List.take_length] at h1; rw [HV.out, HOV.out, h1])
                go_wp2_with fail
                go_ret
                exact ⟨by rw [HZ.out]; first | rfl | (go_num), HX.out⟩
end Go.Proofs.Ythofccoefiogiaa
