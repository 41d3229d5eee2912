/- The small predicates of trees and names, walked. -/
import Derived.Test.YthofccoefiogiaaTree
import Derived.Test.YthofccoefiogiaaTForm
import Derived.Deep.QuietTactic
import Derived.BigQuiet
import Derived.Deep.Cut
namespace Go.Proofs.Ythofccoefiogiaa
open Go Go.RowKit
set_option linter.unusedVariables false
set_option linter.unusedSimpArgs false
def betwB (a b k : Int) : Bool := decide (a ≤ k) && decide (k ≤ b)
theorem ret_b {a b : Bool} (h : a = b) : Ending.returned (.bool a) = .returned (.bool b) := by rw [h]
theorem expr_any (k : Int) (w : World) : Calls Try.prog 72 #[.int .u8 k] w fun e w' => e = .returned (.bool (exprB k)) ∧ w = w' := by
  by_cases h : 21 ≤ k
  · have H : Hid (exprB k = decide (k ≤ 26)) := Lib.hid (by unfold exprB; rw [decide_eq_true h, Bool.true_and])
    have h1 : decide (21 ≤ k) = true := decide_eq_true h
    go_enter Try.func72, Try.ntmps72
    go_wp2
    go_ret
    exact ⟨ret_b H.out.symm, rfl⟩
  · have H : Hid (exprB k = false) := Lib.hid (by unfold exprB; rw [decide_eq_false h, Bool.false_and])
    have h1 : decide (21 ≤ k) = false := decide_eq_false h
    go_enter Try.func72, Try.ntmps72
    go_wp2
    go_ret
    exact ⟨ret_b H.out.symm, rfl⟩
theorem Expr_any (k : Int) (w : World) : Calls Try.prog 106 #[.int .u8 k] w fun e w' => e = .returned (.bool (exprB k)) ∧ w = w' := by
  by_cases h : 21 ≤ k
  · have H : Hid (exprB k = decide (k ≤ 26)) := Lib.hid (by unfold exprB; rw [decide_eq_true h, Bool.true_and])
    have h1 : decide (21 ≤ k) = true := decide_eq_true h
    go_enter Try.func106, Try.ntmps106
    go_wp2
    go_ret
    exact ⟨ret_b H.out.symm, rfl⟩
  · have H : Hid (exprB k = false) := Lib.hid (by unfold exprB; rw [decide_eq_false h, Bool.false_and])
    have h1 : decide (21 ≤ k) = false := decide_eq_false h
    go_enter Try.func106, Try.ntmps106
    go_wp2
    go_ret
    exact ⟨ret_b H.out.symm, rfl⟩
theorem stmt_any (k : Int) (w : World) : Calls Try.prog 120 #[.int .u8 k] w fun e w' => e = .returned (.bool (stmtB k)) ∧ w = w' := by
  by_cases h : 7 ≤ k
  · have H : Hid (stmtB k = decide (k ≤ 19)) := Lib.hid (by unfold stmtB; rw [decide_eq_true h, Bool.true_and])
    have h1 : decide (7 ≤ k) = true := decide_eq_true h
    go_enter Try.func120, Try.ntmps120
    go_wp2
    go_ret
    exact ⟨ret_b H.out.symm, rfl⟩
  · have H : Hid (stmtB k = false) := Lib.hid (by unfold stmtB; rw [decide_eq_false h, Bool.false_and])
    have h1 : decide (7 ≤ k) = false := decide_eq_false h
    go_enter Try.func120, Try.ntmps120
    go_wp2
    go_ret
    exact ⟨ret_b H.out.symm, rfl⟩
theorem Stmt_any (k : Int) (w : World) : Calls Try.prog 125 #[.int .u8 k] w fun e w' => e = .returned (.bool (stmtB k)) ∧ w = w' := by
  by_cases h : 7 ≤ k
  · have H : Hid (stmtB k = decide (k ≤ 19)) := Lib.hid (by unfold stmtB; rw [decide_eq_true h, Bool.true_and])
    have h1 : decide (7 ≤ k) = true := decide_eq_true h
    go_enter Try.func125, Try.ntmps125
    go_wp2
    go_ret
    exact ⟨ret_b H.out.symm, rfl⟩
  · have H : Hid (stmtB k = false) := Lib.hid (by unfold stmtB; rw [decide_eq_false h, Bool.false_and])
    have h1 : decide (7 ≤ k) = false := decide_eq_false h
    go_enter Try.func125, Try.ntmps125
    go_wp2
    go_ret
    exact ⟨ret_b H.out.symm, rfl⟩
theorem letter_any (k : Int) (w : World) : Calls Try.prog 123 #[.int .u8 k] w fun e w' => e = .returned (.bool (letterB k)) ∧ w = w' := by
  by_cases h : 97 ≤ k
  · have H : Hid (letterB k = decide (k ≤ 122)) := Lib.hid (by unfold letterB; rw [decide_eq_true h, Bool.true_and])
    have h1 : decide (97 ≤ k) = true := decide_eq_true h
    go_enter Try.func123, Try.ntmps123
    go_wp2
    go_ret
    exact ⟨ret_b H.out.symm, rfl⟩
  · have H : Hid (letterB k = false) := Lib.hid (by unfold letterB; rw [decide_eq_false h, Bool.false_and])
    have h1 : decide (97 ≤ k) = false := decide_eq_false h
    go_enter Try.func123, Try.ntmps123
    go_wp2
    go_ret
    exact ⟨ret_b H.out.symm, rfl⟩
theorem digit_any (k : Int) (w : World) : Calls Try.prog 124 #[.int .u8 k] w fun e w' => e = .returned (.bool (digitB k)) ∧ w = w' := by
  by_cases h : 48 ≤ k
  · have H : Hid (digitB k = decide (k ≤ 57)) := Lib.hid (by unfold digitB; rw [decide_eq_true h, Bool.true_and])
    have h1 : decide (48 ≤ k) = true := decide_eq_true h
    go_enter Try.func124, Try.ntmps124
    go_wp2
    go_ret
    exact ⟨ret_b H.out.symm, rfl⟩
  · have H : Hid (digitB k = false) := Lib.hid (by unfold digitB; rw [decide_eq_false h, Bool.false_and])
    have h1 : decide (48 ≤ k) = false := decide_eq_false h
    go_enter Try.func124, Try.ntmps124
    go_wp2
    go_ret
    exact ⟨ret_b H.out.symm, rfl⟩
theorem part_any (k : Int) (w : World) : Calls Try.prog 118 #[.int .u8 k] w fun e w' => e = .returned (.bool (partB k)) ∧ w = w' := by
  by_cases h : k = 2
  · subst h
    go_enter Try.func118, Try.ntmps118
    go_wp2
    go_ret
    exact ⟨rfl, rfl⟩
  · have h1 : (k == 2) = false := beq_eq_false_iff_ne.2 h
    have H : Hid (partB k = (k == 3)) := Lib.hid (by unfold partB; rw [h1, Bool.false_or])
    go_enter Try.func118, Try.ntmps118
    go_wp2
    go_ret
    exact ⟨ret_b H.out.symm, rfl⟩
theorem just1_any (k j : Int) (g : Nat) (w : World) (hg : Blk w g 5 #[.int .u8 j]) : Calls Try.prog 129 #[.int .u8 k, .pointer (some ⟨g, 0, none⟩)] w fun e w' => e = .returned (.bool (k == j)) ∧ w = w' := by
  have h0 := hg.cell 0
  have hf := hg.frozen 0
  clear hg
  go_enter Try.func129, Try.ntmps129
  go_wp2
  go_ret
  exact ⟨rfl, rfl⟩
theorem just_any (k : Int) (w : World) : Calls Try.prog 119 #[.int .u8 k] w fun e w' => e = .returned (.func (.func 129) #[] #[.pointer (some ⟨w.heap.size, 0, none⟩)]) ∧ w' = w.alloc (.cells #[.int .u8 k] 5) := by
  go_enter Try.func119, Try.ntmps119
  go_wp2
  go_ret
  exact ⟨rfl, rfl⟩
/-- A kind of kids, as a value. -/
def KidV (w : World) : PredD → Value → Prop
  | .just k, v => ∃ g, v = .func (.func 129) #[] #[.pointer (some ⟨g, 0, none⟩)] ∧ Blk w g 5 #[.int .u8 k]
  | .expr, v => v = .func (.func 72) #[] #[]
  | .stmt, v => v = .func (.func 120) #[] #[]
  | .part, v => v = .func (.func 118) #[] #[]
theorem KidV.ext {w w' : World} {p : PredD} {v : Value} (h : KidV w p v) (hx : Ext w w') : KidV w' p v := by
  cases p with
  | just k => obtain ⟨g, h1, h2⟩ := h; exact ⟨g, h1, h2.ext hx⟩
  | expr => exact h
  | stmt => exact h
  | part => exact h
theorem KidV.form {w : World} {p : PredD} {v : Value} (h : KidV w p v) : ∃ f lb, v = .func (.func f) #[] lb ∧ v.oneCell' = true := by
  cases p with
  | just k => obtain ⟨g, h1, h2⟩ := h; subst h1; exact ⟨_, _, rfl, rfl⟩
  | expr => subst h; exact ⟨_, _, rfl, rfl⟩
  | stmt => subst h; exact ⟨_, _, rfl, rfl⟩
  | part => subst h; exact ⟨_, _, rfl, rfl⟩
/-- The call of such a value. -/
theorem kid_calls {w : World} {p : PredD} {f : FuncId} {lb : Array Value} (h : KidV w p (.func (.func f) #[] lb)) (k : Int) : Calls Try.prog f (#[.int .u8 k] ++ lb) w fun e w' => e = .returned (.bool (p.holds k)) ∧ w = w' := by
  cases p with
  | just j =>
    obtain ⟨g, h1, h2⟩ := h
    injection h1 with h1 _ h3
    injection h1 with h1
    subst h1 h3
    exact just1_any k j g w h2
  | expr => injection h with h1 _ h3; injection h1 with h1; subst h1 h3; exact expr_any k w
  | stmt => injection h with h1 _ h3; injection h1 with h1; subst h1 h3; exact stmt_any k w
  | part => injection h with h1 _ h3; injection h1 with h1; subst h1 h3; exact part_any k w
end Go.Proofs.Ythofccoefiogiaa
