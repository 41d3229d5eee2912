/- Chapter 01, modes: walks of the program and of its reference, function by function: what each call returns, for every input of its kind and in whatever memory; what was in memory stays. -/
import Derived.Test.YtinakfhijcmodaaChecked
import Derived.WalkKit
import Derived.ProofKit
import Derived.Handy
import Derived.Below
namespace Go.Proofs.Ytinakfhijcmodaa
open Go.RowKit
def allowsN (m : Int) : Int := if m = 5 then 15 else if m = 4 then 7 else if m = 3 then 5 else if m = 2 then 3 else if m = 1 then 1 else 0
theorem allows_any (m : Int) (w : World) (h0 : 0 ≤ m) (h1 : m < 256) :
    Calls Try.prog 32 #[.int .u8 m] w fun e w' => e = .returned (.int .u8 (allowsN m)) ∧ w = w' := by
  by_cases h : m = 5
  · subst h
    go_enter Try.func32, Try.ntmps32
    go_wp2
    go_ret
    exact ⟨rfl, rfl⟩
  by_cases h : m = 4
  · subst h
    go_enter Try.func32, Try.ntmps32
    go_wp2
    go_ret
    exact ⟨rfl, rfl⟩
  by_cases h : m = 3
  · subst h
    go_enter Try.func32, Try.ntmps32
    go_wp2
    go_ret
    exact ⟨rfl, rfl⟩
  by_cases h : m = 2
  · subst h
    go_enter Try.func32, Try.ntmps32
    go_wp2
    go_ret
    exact ⟨rfl, rfl⟩
  by_cases h : m = 1
  · subst h
    go_enter Try.func32, Try.ntmps32
    go_wp2
    go_ret
    exact ⟨rfl, rfl⟩
  · go_enter Try.func32, Try.ntmps32
    go_wp2
    go_ret
    exact ⟨by simp [allowsN, *], rfl⟩
end Go.Proofs.Ytinakfhijcmodaa
