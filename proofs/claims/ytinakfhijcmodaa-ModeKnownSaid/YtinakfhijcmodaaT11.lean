/- Chapter 01, modes: walks of the program and of its reference, function by function: what each call returns, for every input of its kind and in whatever memory; what was in memory stays. -/
import Derived.Test.YtinakfhijcmodaaT10
namespace Go.Proofs.Ytinakfhijcmodaa
open Go.RowKit
set_option linter.unusedVariables false
set_option linter.unusedSimpArgs false
theorem row_key : ∀ x, x < 6 → ∀ r, r < 6 → r = 3 ∨ r = 5 → besideN (rowN (x : Nat)) (r : Nat) = true ∨ besideN (x : Nat) (meetN (r : Nat) 2) = false := by decide +kernel
theorem row_all (a r : Int) (h0 : 0 ≤ a) (hr : r = 3 ∨ r = 5) : besideN (rowM a) r = true ∨ besideN a (meetN r 2) = false := by
  rw [← row_eq a h0]
  obtain ⟨x, hx, hox, ha⟩ := of_six a h0
  rw [hox, beside_congr ha (rfl : allowsN (meetN r 2) = _)]
  rcases hr with rfl | rfl
  · exact row_key x hx 3 (by omega) (.inl rfl)
  · exact row_key x hx 5 (by omega) (.inr rfl)
theorem cells35 (w : World) : ∀ m, m < 2 → (w.alloc (.cells #[.int .u8 3, .int .u8 5] 31)).cell? ⟨w.heap.size, m, none⟩ = some (.int .u8 (3 + 2 * m : Nat)) := by
  intro m hm
  rw [(Blk.new w 31 _).cell]
  match m, hm with
  | 0, _ => rfl
  | 1, _ => rfl
theorem ahead35 (s : Int) (h : s = 3 ∨ s = 5) : ∃ v, meetN s 2 = v ∧ 0 ≤ v ∧ v < 256 ∧ (v = 1 ∨ v = 2) := by
  rcases h with rfl | rfl
  · exact ⟨1, by decide +kernel, by omega, by omega, .inl rfl⟩
  · exact ⟨2, by decide +kernel, by omega, by omega, .inr rfl⟩
theorem beside12 (x y : Int) (hx : x = 1 ∨ x = 2) (hy : y = 1 ∨ y = 2) : besideN x y = true := by
  rcases hx with rfl | rfl <;> rcases hy with rfl | rfl <;> decide +kernel
set_option maxHeartbeats 8000000 in
theorem besides_any (a b c : Int) (w : World) (h0 : 0 ≤ a) (h1 : a < 256) (h2 : 0 ≤ b) (h3 : b < 256) (h4 : 0 ≤ c) (h5 : c < 256) :
    Calls Try.prog 7 #[.int .u8 a, .int .u8 b, .int .u8 c] w fun e w' => e = .returned (.bool true) ∧ Ext w w' := by
  have hall := bes_all a b c h0 h2 h4
  unfold besB at hall
  simp only [Bool.and_eq_true] at hall
  obtain ⟨e1, e2⟩ := hall
  have e1 := (beqv e1).symm
  have brow := row_bd a
  have HROW := Lib.hid (fun r hr => row_all a r h0 hr)
  obtain ⟨row, HR⟩ : ∃ v, Hid (rowM a = v) := ⟨_, Lib.hid rfl⟩
  rw [HR.out] at brow HROW
  obtain ⟨vab, HAB⟩ : ∃ v, Hid (besideN a b = v) := ⟨_, Lib.hid rfl⟩
  obtain ⟨vbc, HBC⟩ : ∃ v, Hid (coversN b c = v) := ⟨_, Lib.hid rfl⟩
  obtain ⟨vac, HAC⟩ : ∃ v, Hid (besideN a c = v) := ⟨_, Lib.hid rfl⟩
  rw [HAB.out, HBC.out, HAC.out] at e2
  rw [HAB.out] at e1
  have HBA := Lib.hid e1
  clear e1
  have hcase : vab = false ∨ (vab = true ∧ vbc = false) ∨ (vab = true ∧ vbc = true ∧ vac = true) := by
    cases vab <;> cases vbc <;> cases vac <;> simp at e2 ⊢
  clear e2
  rcases hcase with rfl | ⟨rfl, rfl⟩ | ⟨rfl, rfl, rfl⟩
  all_goals
    go_enter Try.func7, Try.ntmps7
    go_wp2_with fail
    refine (beside_at a b _ _ h0 h1 h2 h3 HAB).mono ?_
    rintro e w' ⟨rfl, rfl⟩
    go_wp2_with fail
    refine (beside_at b a _ _ h2 h3 h0 h1 HBA).mono ?_
    rintro e w' ⟨rfl, rfl⟩
    go_wp2_with fail
    refine (beside_at a b _ _ h0 h1 h2 h3 HAB).mono ?_
    rintro e w' ⟨rfl, rfl⟩
    go_wp2_with fail
    try (
      refine (covers_at b c _ _ h2 h3 h4 h5 HBC).mono ?_
      rintro e w' ⟨rfl, rfl⟩
      go_wp2_with fail)
    try (
      refine (beside_at a c _ _ h0 h1 h4 h5 HAC).mono ?_
      rintro e w' ⟨rfl, rfl⟩
      go_wp2_with fail)
    refine (row_at a row _ h0 h1 HR).mono ?_
    rintro e w' ⟨rfl, rfl⟩
    go_wp2_with fail
    have HCS := Lib.hid (cells35 w)
    have HX0 : Hid (Ext w (w.alloc (.cells #[.int .u8 3, .int .u8 5] 31))) := Ext.alloc _ _
    have hg : w.heap.size < (w.alloc (.cells #[.int .u8 3, .int .u8 5] 31)).heap.size := by simp
    generalize hgd : w.heap.size = g at *
    have HG := Lib.hid hgd
    clear hgd
    generalize w.alloc (.cells #[.int .u8 3, .int .u8 5] 31) = w1 at *
    go_loopw [39] (fun i wr => (∃ m : Nat, m ≤ 2 ∧ i = .int .i64 m) ∧ Hid (Ext w1 wr)) (fun i _ => 2 - (intOf i).toNat)
    case atStart => exact ⟨⟨0, by omega, rfl⟩, Ext.refl _⟩
    case round =>
      obtain ⟨⟨m, hm, rfl⟩, HW⟩ := hrel
      by_cases hm2 : m < 2
      · have hcell : wr.cell? ⟨g, m, none⟩ = some (.int .u8 (3 + 2 * m : Nat)) := (HW.out.cell (p := ⟨g, m, none⟩) hg).trans (HCS.out m hm2)
        obtain ⟨r, HRR, hr⟩ : ∃ r : Int, Hid (((3 + 2 * m : Nat) : Int) = r) ∧ (r = 3 ∨ r = 5) := ⟨_, Lib.hid rfl, by omega⟩
        rw [HRR.out] at hcell
        obtain ⟨ar, ear, b1, b2, har⟩ := ahead35 r hr
        have HAR := Lib.hid ear
        clear ear
        have hrow := HROW.out r hr
        rw [HAR.out] at hrow
        have hrb : 0 ≤ r ∧ r < 256 := by omega
        have HRV := Lib.hid hr
        have HARV := Lib.hid har
        clear hr har
        cases hv : besideN row r
        · rw [hv] at hrow
          have HV := Lib.hid hv
          have HNV : Hid (besideN a ar = false) := Lib.hid (hrow.resolve_left (by simp))
          clear hv hrow
          go_wp2_with fail
          refine (beside_at row r _ _ (by omega) (by omega) (by omega) (by omega) HV).mono ?_
          rintro e w' ⟨rfl, rfl⟩
          go_wp2_with fail
          refine (ahead_at r ar _ (by omega) (by omega) HAR).mono ?_
          rintro e w' ⟨rfl, rfl⟩
          go_wp2_with fail
          refine (beside_at a ar _ _ h0 h1 (by omega) (by omega) HNV).mono ?_
          rintro e w' ⟨rfl, rfl⟩
          go_wp2_with fail
          have HCS2 := Lib.hid (cells35 wr)
          have HX2 : Hid (Ext wr (wr.alloc (.cells #[.int .u8 3, .int .u8 5] 31))) := Ext.alloc _ _
          generalize wr.alloc (.cells #[.int .u8 3, .int .u8 5] 31) = w2 at *
          go_loop [55] (fun i => ∃ k : Nat, k ≤ 2 ∧ i = .int .i64 k) (fun i => 2 - (intOf i).toNat)
          case atStart => exact ⟨0, by omega, rfl⟩
          case round =>
            obtain ⟨k, hk, rfl⟩ := hrel
            by_cases hk2 : k < 2
            · have hcell2 := HCS2.out k hk2
              obtain ⟨s, HSS, hs⟩ : ∃ s : Int, Hid (((3 + 2 * k : Nat) : Int) = s) ∧ (s = 3 ∨ s = 5) := ⟨_, Lib.hid rfl, by omega⟩
              rw [HSS.out] at hcell2
              obtain ⟨aw, eas, b3, b4, has⟩ := ahead35 s hs
              have HAS := Lib.hid eas
              have HB12 := Lib.hid (beside12 ar aw HARV.out has)
              clear eas has
              have hsb : 0 ≤ s ∧ s < 256 := by omega
              clear hs
              go_wp2_with fail
              refine (ahead_at r ar _ (by omega) (by omega) HAR).mono ?_
              rintro e w' ⟨rfl, rfl⟩
              go_wp2_with fail
              refine (ahead_at s aw _ (by omega) (by omega) HAS).mono ?_
              rintro e w' ⟨rfl, rfl⟩
              go_wp2_with fail
              refine (beside_at ar aw _ _ (by omega) (by omega) (by omega) (by omega) HB12).mono ?_
              rintro e w' ⟨rfl, rfl⟩
              go_wp2_with fail
              go_round
              case rel => exact ⟨k + 1, by omega, by go_num⟩
              case measure => simp [intOf]; omega
            · have hk2 : k = 2 := by omega
              subst hk2
              go_wp2_with fail
              go_roundw
              case rel => exact ⟨⟨m + 1, by omega, by go_num⟩, Ext.trans HW.out HX2.out⟩
              case measure => simp [intOf]; omega
        · have HV := Lib.hid hv
          clear hv hrow
          go_wp2_with fail
          refine (beside_at row r _ _ (by omega) (by omega) (by omega) (by omega) HV).mono ?_
          rintro e w' ⟨rfl, rfl⟩
          go_wp2_with fail
          have HCS2 := Lib.hid (cells35 wr)
          have HX2 : Hid (Ext wr (wr.alloc (.cells #[.int .u8 3, .int .u8 5] 31))) := Ext.alloc _ _
          generalize wr.alloc (.cells #[.int .u8 3, .int .u8 5] 31) = w2 at *
          go_loop [55] (fun i => ∃ k : Nat, k ≤ 2 ∧ i = .int .i64 k) (fun i => 2 - (intOf i).toNat)
          case atStart => exact ⟨0, by omega, rfl⟩
          case round =>
            obtain ⟨k, hk, rfl⟩ := hrel
            by_cases hk2 : k < 2
            · have hcell2 := HCS2.out k hk2
              obtain ⟨s, HSS, hs⟩ : ∃ s : Int, Hid (((3 + 2 * k : Nat) : Int) = s) ∧ (s = 3 ∨ s = 5) := ⟨_, Lib.hid rfl, by omega⟩
              rw [HSS.out] at hcell2
              obtain ⟨aw, eas, b3, b4, has⟩ := ahead35 s hs
              have HAS := Lib.hid eas
              have HB12 := Lib.hid (beside12 ar aw HARV.out has)
              clear eas has
              have hsb : 0 ≤ s ∧ s < 256 := by omega
              clear hs
              go_wp2_with fail
              refine (ahead_at r ar _ (by omega) (by omega) HAR).mono ?_
              rintro e w' ⟨rfl, rfl⟩
              go_wp2_with fail
              refine (ahead_at s aw _ (by omega) (by omega) HAS).mono ?_
              rintro e w' ⟨rfl, rfl⟩
              go_wp2_with fail
              refine (beside_at ar aw _ _ (by omega) (by omega) (by omega) (by omega) HB12).mono ?_
              rintro e w' ⟨rfl, rfl⟩
              go_wp2_with fail
              go_round
              case rel => exact ⟨k + 1, by omega, by go_num⟩
              case measure => simp [intOf]; omega
            · have hk2 : k = 2 := by omega
              subst hk2
              go_wp2_with fail
              go_roundw
              case rel => exact ⟨⟨m + 1, by omega, by go_num⟩, Ext.trans HW.out HX2.out⟩
              case measure => simp [intOf]; omega
      · have hm2 : m = 2 := by omega
        subst hm2
        go_wp2_with fail
        refine (works_ext _).mono ?_
        rintro e w3 ⟨rfl, hx3⟩
        have HX3 := Lib.hid hx3
        clear hx3
        go_wp2_with fail
        go_ret
        exact ⟨rfl, Ext.trans HX0.out (Ext.trans HW.out HX3.out)⟩
end Go.Proofs.Ytinakfhijcmodaa
