/- Chapter 01, modes: walks of the program and of its reference, function by function: what each call returns, for every input of its kind and in whatever memory; what was in memory stays. -/
import Derived.Test.YtinakfhijcmodaaT13
namespace Go.Proofs.Ytinakfhijcmodaa
open Go.RowKit
set_option linter.unusedVariables false
set_option linter.unusedSimpArgs false
theorem bd3 (a b c : Int) (ha : 0 ≤ a ∧ a < 256) (hb : 0 ≤ b ∧ b < 256) (hc : 0 ≤ c ∧ c < 256) : ∀ k, 0 ≤ [a, b, c].getD k 0 ∧ [a, b, c].getD k 0 < 256 := by
  intro k
  match k with
  | 0 => exact ha
  | 1 => exact hb
  | 2 => exact hc
  | k + 3 => exact ⟨by simp, by simp⟩
theorem joins_three (w : World) (g : Nat) (a b c t : Int) (hg : g = w.heap.size) (ha : 0 ≤ a ∧ a < 256) (hb : 0 ≤ b ∧ b < 256) (hc : 0 ≤ c ∧ c < 256) (h0 : 0 ≤ t) (h1 : t < 256) :
    Calls Try.prog 5 #[.slice (some ⟨g, 0, none⟩) 3 3, .int .u8 t] (w.alloc (.cells #[.int .u8 a, .int .u8 b, .int .u8 c] 31)) fun e w' => e = .returned (.bool true) ∧ Ext (w.alloc (.cells #[.int .u8 a, .int .u8 b, .int .u8 c] 31)) w' := by
  subst hg
  exact joins_any _ [a, b, c] 3 t _ (row8_new w 31 [a, b, c]) (bd3 a b c ha hb hc) h0 h1
set_option maxHeartbeats 4000000 in
theorem known_all (w : World) : Calls Try.prog 9 #[] w fun e w' => e = .returned (.bool true) ∧ Ext w w' := by
  go_enter Try.func9, Try.ntmps9
  go_wp2_with fail
  go_loopw [1] (fun i wr => (∃ k : Nat, k ≤ 8 ∧ i = .int .u8 k) ∧ Hid (Ext w wr)) (fun i _ => 8 - (intOf i).toNat)
  case atStart => exact ⟨⟨0, by omega, rfl⟩, Ext.refl _⟩
  case round =>
    obtain ⟨⟨k, hk, rfl⟩, HX⟩ := hrel
    obtain ⟨wa, rfl⟩ : ∃ wa : World, wa = wr := ⟨_, rfl⟩
    by_cases hk8 : k < 8
    · have hkb : decide ((k : Int) < 8) = true := by simp; omega
      go_wp2_with fail
      go_loopw [2] (fun i wr => (∃ m : Nat, m ≤ 8 ∧ i = .int .u8 m) ∧ Hid (Ext w wr)) (fun i _ => 8 - (intOf i).toNat)
      case atStart => exact ⟨⟨0, by omega, rfl⟩, HX⟩
      case round =>
        clear HX
        obtain ⟨⟨m, hm, rfl⟩, HX⟩ := hrel
        obtain ⟨wb, rfl⟩ : ∃ wb : World, wb = wr := ⟨_, rfl⟩
        by_cases hm8 : m < 8
        · have hmb : decide ((m : Int) < 8) = true := by simp; omega
          go_wp2_with fail
          go_loopw [3] (fun i wr => (∃ p : Nat, p ≤ 8 ∧ i = .int .u8 p) ∧ Hid (Ext w wr)) (fun i _ => 8 - (intOf i).toNat)
          case atStart => exact ⟨⟨0, by omega, rfl⟩, HX⟩
          case round =>
            clear HX
            obtain ⟨⟨p, hp, rfl⟩, HX⟩ := hrel
            obtain ⟨wc, rfl⟩ : ∃ wc : World, wc = wr := ⟨_, rfl⟩
            by_cases hp8 : p < 8
            · have hpb : decide ((p : Int) < 8) = true := by simp; omega
              go_wp2_with fail
              refine (lattice_any k m p _ (by omega) (by omega) (by omega) (by omega) (by omega) (by omega)).mono ?_
              rintro e w1 ⟨rfl, hx1⟩
              have HX1 := Lib.hid hx1
              clear hx1
              go_wp2_with fail
              refine (besides_any k m p _ (by omega) (by omega) (by omega) (by omega) (by omega) (by omega)).mono ?_
              rintro e w2 ⟨rfl, hx2⟩
              have HX2 := Lib.hid hx2
              clear hx2
              go_wp2_with fail
              refine (joins_three _ _ k m p k rfl ⟨by omega, by omega⟩ ⟨by omega, by omega⟩ ⟨by omega, by omega⟩ (by omega) (by omega)).mono ?_
              rintro e w3 ⟨rfl, hx3⟩
              have HX3 := Lib.hid hx3
              clear hx3
              go_wp2_with fail
              go_roundw
              case rel => exact ⟨⟨p + 1, by omega, by go_num⟩, Ext.trans HX.out (Ext.trans HX1.out (Ext.trans HX2.out (Ext.trans (Ext.alloc _ _) HX3.out)))⟩
              case measure => simp [intOf]; omega
            · go_wp2_with fail
              refine (two_any k m _ (by omega) (by omega) (by omega) (by omega)).mono ?_
              rintro e w1 ⟨rfl, hx1⟩
              have HX1 := Lib.hid hx1
              clear hx1
              go_wp2_with fail
              go_roundw
              case rel => exact ⟨⟨m + 1, by omega, by go_num⟩, Ext.trans HX.out HX1.out⟩
              case measure => simp [intOf]; omega
        · go_wp2_with fail
          go_roundw
          case rel => exact ⟨⟨k + 1, by omega, by go_num⟩, HX⟩
          case measure => simp [intOf]; omega
    · go_wp2_with fail
      refine (two_any 255 77 _ (by omega) (by omega) (by omega) (by omega)).mono ?_
      rintro e w1 ⟨rfl, hx1⟩
      have HX1 := Lib.hid hx1
      clear hx1
      go_wp2_with fail
      refine (joins_any none [] 0 3 _ (.inl rfl) (by simp) (by omega) (by omega)).mono ?_
      rintro e w2 ⟨rfl, hx2⟩
      have HX2 := Lib.hid hx2
      clear hx2
      go_wp2_with fail
      refine (works_ext _).mono ?_
      rintro e w3 ⟨rfl, hx3⟩
      have HX3 := Lib.hid hx3
      clear hx3
      go_wp2_with fail
      go_ret
      exact ⟨rfl, Ext.trans HX.out (Ext.trans HX1.out (Ext.trans HX2.out HX3.out))⟩
end Go.Proofs.Ytinakfhijcmodaa
