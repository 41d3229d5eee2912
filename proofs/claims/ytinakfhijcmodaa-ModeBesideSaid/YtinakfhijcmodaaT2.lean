/- Chapter 01, modes: walks of the program and of its reference, function by function: what each call returns, for every input of its kind and in whatever memory; what was in memory stays. -/
import Derived.Test.YtinakfhijcmodaaT1
import Derived.Outline
namespace Go.Proofs.Ytinakfhijcmodaa
open Go.RowKit
set_option linter.unusedVariables false
set_option linter.unusedSimpArgs false
theorem allowsN_lt (m : Int) : 0 ≤ allowsN m ∧ allowsN m < 16 := by unfold allowsN; repeat (split; omega); omega
def coversN (a b : Int) : Bool := bits BinOp.andNot IntKind.u8 (allowsN b) (allowsN a) == 0
theorem covers_any (a b : Int) (w : World) (h0 : 0 ≤ a) (h1 : a < 256) (h2 : 0 ≤ b) (h3 : b < 256) :
    Calls Try.prog 14 #[.int .u8 a, .int .u8 b] w fun e w' => e = .returned (.bool (coversN a b)) ∧ w = w' := by
    go_enter Try.func14, Try.ntmps14
    go_wp2_with (go_at_call 32; refine (allows_any _ _ (by omega) (by omega)).mono ?_; rintro e w' ⟨rfl, rfl⟩)
    go_ret
    exact ⟨rfl, rfl⟩
def ofM (m : Int) : Int := if m ≤ 5 then m else 0
theorem of_any (m : Int) (w : World) (h0 : 0 ≤ m) (h1 : m < 256) :
    Calls Try.prog 33 #[.int .u8 m] w fun e w' => e = .returned (.int .u8 (ofM m)) ∧ w = w' := by
  by_cases h : m ≤ 5
  · go_enter Try.func33, Try.ntmps33
    go_wp2
    go_ret
    exact ⟨by simp [ofM, h], rfl⟩
  · go_enter Try.func33, Try.ntmps33
    go_wp2
    go_ret
    exact ⟨by simp [ofM]; omega, rfl⟩
theorem known_any (m : Int) (w : World) (h0 : 0 ≤ m) (h1 : m < 256) :
    Calls Try.prog 12 #[.int .u8 m] w fun e w' => e = .returned (.bool (decide (m ≤ 5))) ∧ w = w' := by
  go_enter Try.func12, Try.ntmps12
  go_wp2
  go_ret
  exact ⟨rfl, rfl⟩
theorem refknown_any (m : Int) (w : World) (h0 : 0 ≤ m) (h1 : m < 256) :
    Calls Try.prog 13 #[.int .u8 m] w fun e w' => e = .returned (.bool (decide (m ≤ 5))) ∧ w = w' := by
  go_enter Try.func13, Try.ntmps13
  go_wp2
  go_ret
  exact ⟨rfl, rfl⟩
def leastN (b : Int) : Int :=
  if 0 < bits .and .u8 b 8 then 5 else if 0 < bits .and .u8 b 4 ∧ 0 < bits .and .u8 b 2 then 4 else if 0 < bits .and .u8 b 4 then 3 else if 0 < bits .and .u8 b 2 then 2 else if 0 < b then 1 else 0
theorem least_any (m : Int) (w : World) (h0 : 0 ≤ m) (h1 : m < 256) :
    Calls Try.prog 35 #[.int .u8 m] w fun e w' => e = .returned (.int .u8 (leastN m)) ∧ w = w' := by
  go_enter Try.func35, Try.ntmps35
  go_wp2
  all_goals
    go_ret
    exact ⟨by unfold leastN; simp [*]; try omega, rfl⟩
def stepB (a b : Int) : Bool := (a == 1 && b == 0) || (a == 2 && b == 1) || (a == 3 && b == 1) || (a == 4 && b == 2) || (a == 4 && b == 3) || (a == 5 && b == 4)
theorem step_any (a b : Int) (w : World) (h0 : 0 ≤ a) (h1 : a < 256) (h2 : 0 ≤ b) (h3 : b < 256) :
    Calls Try.prog 34 #[.int .u8 a, .int .u8 b] w fun e w' => e = .returned (.bool (stepB a b)) ∧ w = w' := by
    go_enter Try.func34, Try.ntmps34
    go_wp2
    all_goals
      go_ret
      exact ⟨by unfold stepB; simp [*], rfl⟩
end Go.Proofs.Ytinakfhijcmodaa
