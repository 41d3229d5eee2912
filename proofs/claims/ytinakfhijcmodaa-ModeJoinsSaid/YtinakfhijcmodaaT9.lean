/- Chapter 01, modes: walks of the program and of its reference, function by function: what each call returns, for every input of its kind and in whatever memory; what was in memory stays. -/
import Derived.Test.YtinakfhijcmodaaT8
namespace Go.Proofs.Ytinakfhijcmodaa
open Go.RowKit
set_option linter.unusedVariables false
set_option linter.unusedSimpArgs false
theorem row8_nil (w : World) : Row8 w none [] := .inl rfl
theorem row8_new (w : World) (t : TypeId) (l : List Int) : Row8 (w.alloc (.cells (l.map (Value.int .u8)).toArray t)) (some ⟨w.heap.size, 0, none⟩) l := by
  refine .inr ⟨w.heap.size, 0, rfl, by simp, fun k hk => ?_⟩
  have := (Blk.new w t (l.map (Value.int .u8)).toArray).cell (0 + k)
  rw [this]
  simp [hk]
theorem text_v (m : Int) (v : ByteArray) (w : World) (h0 : 0 ≤ m) (h1 : m < 256) (h : Hid (textN (ofM m) = v)) :
    Calls Try.prog 26 #[.int .u8 m] w fun e w' => e = .returned (.string v) ∧ w = w' := by
  rw [← h.out]; exact text_any m w h0 h1
theorem bd2 (a b : Int) (ha : 0 ≤ a ∧ a < 256) (hb : 0 ≤ b ∧ b < 256) : ∀ k, 0 ≤ [a, b].getD k 0 ∧ [a, b].getD k 0 < 256 := by
  intro k
  match k with
  | 0 => exact ha
  | 1 => exact hb
  | k + 2 => exact ⟨by simp, by simp⟩
theorem row8_two (w : World) (a b : Int) : Row8 (w.alloc (.cells #[.int .u8 a, .int .u8 b] 31)) (some ⟨w.heap.size, 0, none⟩) [a, b] := row8_new w 31 [a, b]
theorem join_two (w : World) (a b v : Int) (ha : 0 ≤ a ∧ a < 256) (hb : 0 ≤ b ∧ b < 256) (h : Hid (joinN [a, b] = v)) :
    Calls Try.prog 16 #[.slice (some ⟨w.heap.size, 0, none⟩) 2 2] (w.alloc (.cells #[.int .u8 a, .int .u8 b] 31)) fun e w' => e = .returned (.int .u8 v) ∧ w.alloc (.cells #[.int .u8 a, .int .u8 b] 31) = w' :=
  join_at _ [a, b] 2 2 v _ rfl (by simp) (row8_two w a b) (bd2 _ _ ha hb) h
theorem join_two' (w : World) (g : Nat) (a b v : Int) (hg : g = w.heap.size) (ha : 0 ≤ a ∧ a < 256) (hb : 0 ≤ b ∧ b < 256) (h : Hid (joinN [a, b] = v)) :
    Calls Try.prog 16 #[.slice (some ⟨g, 0, none⟩) 2 2] (w.alloc (.cells #[.int .u8 a, .int .u8 b] 31)) fun e w' => e = .returned (.int .u8 v) ∧ w.alloc (.cells #[.int .u8 a, .int .u8 b] 31) = w' := by
  subst hg; exact join_two w a b v ha hb h
set_option maxHeartbeats 1000000 in
theorem works_any (w : World) :
    Calls Try.prog 28 #[] w fun e w' => e = .returned (.bool true) ∧ Below w.heap.size w w' := by
  go_enter Try.func28, Try.ntmps28
  go_wp2_with fail
  refine (join_two w 2 3 4 (by omega) (by omega) (Lib.hid (by decide +kernel))).mono ?_
  rintro e w' ⟨rfl, rfl⟩
  go_wp2_with fail
  refine (join_two' _ _ 1 2 2 (by simp) (by omega) (by omega) (Lib.hid (by decide +kernel))).mono ?_
  rintro e w' ⟨rfl, rfl⟩
  go_wp2_with fail
  refine (join_at _ [] _ _ 0 _ rfl (by decide) (row8_nil _) (by simp) (Lib.hid (by decide +kernel))).mono ?_
  rintro e w' ⟨rfl, rfl⟩
  go_wp2_with fail
  refine (meet_at _ _ 1 _ (by omega) (by omega) (by omega) (by omega) (Lib.hid (by decide +kernel))).mono ?_
  rintro e w' ⟨rfl, rfl⟩
  go_wp2_with fail
  refine (beside_at _ _ true _ (by omega) (by omega) (by omega) (by omega) (Lib.hid (by decide +kernel))).mono ?_
  rintro e w' ⟨rfl, rfl⟩
  go_wp2_with fail
  refine (beside_at _ _ false _ (by omega) (by omega) (by omega) (by omega) (Lib.hid (by decide +kernel))).mono ?_
  rintro e w' ⟨rfl, rfl⟩
  go_wp2_with fail
  refine (beside_at _ _ true _ (by omega) (by omega) (by omega) (by omega) (Lib.hid (by decide +kernel))).mono ?_
  rintro e w' ⟨rfl, rfl⟩
  go_wp2_with fail
  refine (beside_at _ _ false _ (by omega) (by omega) (by omega) (by omega) (Lib.hid (by decide +kernel))).mono ?_
  rintro e w' ⟨rfl, rfl⟩
  go_wp2_with fail
  refine (ahead_at _ 2 _ (by omega) (by omega) (Lib.hid (by decide +kernel))).mono ?_
  rintro e w' ⟨rfl, rfl⟩
  go_wp2_with fail
  refine (row_at _ 3 _ (by omega) (by omega) (Lib.hid (by decide +kernel))).mono ?_
  rintro e w' ⟨rfl, rfl⟩
  go_wp2_with fail
  refine (row_at _ 0 _ (by omega) (by omega) (Lib.hid (by decide +kernel))).mono ?_
  rintro e w' ⟨rfl, rfl⟩
  go_wp2_with fail
  refine (covers_at _ _ true _ (by omega) (by omega) (by omega) (by omega) (Lib.hid (by decide +kernel))).mono ?_
  rintro e w' ⟨rfl, rfl⟩
  go_wp2_with fail
  refine (text_v _ ⟨#[83, 73, 88]⟩ _ (by omega) (by omega) (Lib.hid (by rfl))).mono ?_
  rintro e w' ⟨rfl, rfl⟩
  go_wp2_with fail
  go_ret
  exact ⟨rfl, by go_grown⟩
end Go.Proofs.Ytinakfhijcmodaa
