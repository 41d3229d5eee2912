/- Chapter 01, modes: walks of the program and of its reference, function by function: what each call returns, for every input of its kind and in whatever memory; what was in memory stays. -/
import Derived.Test.YtinakfhijcmodaaT4
import Derived.Lib.Hide
import Derived.LoopTactic
import Derived.LoopN
namespace Go.Proofs.Ytinakfhijcmodaa
open Go.RowKit
set_option linter.unusedVariables false
set_option linter.unusedSimpArgs false
def meetN (a b : Int) : Int := leastN (bits .and .u8 (allowsN a) (allowsN b))
theorem bits_bd (o : BinOp) (ho : o = .and ∨ o = .or ∨ o = .andNot) (a b : Int) : 0 ≤ bits o .u8 (allowsN a) (allowsN b) ∧ bits o .u8 (allowsN a) (allowsN b) < 256 := by
  have hcl : ∀ m, allowsN m = 15 ∨ allowsN m = 7 ∨ allowsN m = 5 ∨ allowsN m = 3 ∨ allowsN m = 1 ∨ allowsN m = 0 := by
    intro m; unfold allowsN; omega
  rcases ho with rfl | rfl | rfl <;> rcases hcl a with h | h | h | h | h | h <;> rcases hcl b with h' | h' | h' | h' | h' | h' <;> rw [h, h'] <;> decide
theorem meet_at (a b v : Int) (w : World) (h0 : 0 ≤ a) (h1 : a < 256) (h2 : 0 ≤ b) (h3 : b < 256) (h : Hid (meetN a b = v)) :
    Calls Try.prog 18 #[.int .u8 a, .int .u8 b] w fun e w' => e = .returned (.int .u8 v) ∧ w = w' := by
  have hb := bits_bd .and (by simp) a b
  go_enter Try.func18, Try.ntmps18
  go_wp2_with (first | (go_at_call 32; refine (allows_any _ _ (by omega) (by omega)).mono ?_; rintro e w' ⟨rfl, rfl⟩) | (go_at_call 35; refine (least_any _ _ (by omega) (by omega)).mono ?_; rintro e w' ⟨rfl, rfl⟩))
  go_ret
  exact ⟨by rw [← h.out]; rfl, rfl⟩
theorem covers_at (a b : Int) (v : Bool) (w : World) (h0 : 0 ≤ a) (h1 : a < 256) (h2 : 0 ≤ b) (h3 : b < 256) (h : Hid (coversN a b = v)) :
    Calls Try.prog 14 #[.int .u8 a, .int .u8 b] w fun e w' => e = .returned (.bool v) ∧ w = w' := by
  rw [← h.out]; exact covers_any a b w h0 h1 h2 h3
theorem ahead_at (a v : Int) (w : World) (h0 : 0 ≤ a) (h1 : a < 256) (h : Hid (meetN a 2 = v)) :
    Calls Try.prog 22 #[.int .u8 a] w fun e w' => e = .returned (.int .u8 v) ∧ w = w' := by
  go_enter Try.func22, Try.ntmps22
  go_wp2_with (go_at_call 18; refine (meet_at _ _ _ _ (by omega) (by omega) (by omega) (by omega) h).mono ?_; rintro e w' ⟨rfl, rfl⟩)
  go_ret
  exact ⟨rfl, rfl⟩
def rowM (a : Int) : Int := if a = 5 then 5 else if coversN a 3 then 3 else 0
theorem row_at (a v : Int) (w : World) (h0 : 0 ≤ a) (h1 : a < 256) (h : Hid (rowM a = v)) :
    Calls Try.prog 24 #[.int .u8 a] w fun e w' => e = .returned (.int .u8 v) ∧ w = w' := by
  by_cases h5 : a = 5
  · subst h5
    go_enter Try.func24, Try.ntmps24
    go_wp2
    go_ret
    exact ⟨by rw [← h.out]; rfl, rfl⟩
  · cases hc : coversN a 3
    all_goals
      have HC := Lib.hid hc
      clear hc
      go_enter Try.func24, Try.ntmps24
      go_wp2_with (go_at_call 14; refine (covers_at _ _ _ _ (by omega) (by omega) (by omega) (by omega) HC).mono ?_; rintro e w' ⟨rfl, rfl⟩)
      go_ret
      exact ⟨by rw [← h.out]; simp [rowM, HC.out, h5], rfl⟩
def barsN (x y : Int) : Bool := decide (0 < bits .and .u8 x 8) || (decide (0 < bits .and .u8 x 2) && decide (0 < bits .and .u8 y 4))
theorem bars_at (x y : Int) (w : World) (h0 : 0 ≤ x) (h1 : x < 256) (h2 : 0 ≤ y) (h3 : y < 256) :
    Calls Try.prog 36 #[.int .u8 x, .int .u8 y] w fun e w' => e = .returned (.bool (barsN x y)) ∧ w = w' := by
  go_enter Try.func36, Try.ntmps36
  go_wp2
  all_goals
    go_ret
    exact ⟨by unfold barsN; simp [*]; try omega, rfl⟩
theorem bars_v (x y : Int) (v : Bool) (w : World) (h0 : 0 ≤ x) (h1 : x < 256) (h2 : 0 ≤ y) (h3 : y < 256) (h : Hid (barsN x y = v)) :
    Calls Try.prog 36 #[.int .u8 x, .int .u8 y] w fun e w' => e = .returned (.bool v) ∧ w = w' := by
  rw [← h.out]; exact bars_at x y w h0 h1 h2 h3
def besideX (x y : Int) : Bool := x == 0 || y == 0 || (!barsN x y && !barsN y x)
def besideN (a b : Int) : Bool := besideX (allowsN a) (allowsN b)
theorem allows_v (m v : Int) (w : World) (h0 : 0 ≤ m) (h1 : m < 256) (h : Hid (allowsN m = v)) :
    Calls Try.prog 32 #[.int .u8 m] w fun e w' => e = .returned (.int .u8 v) ∧ w = w' := by
  rw [← h.out]; exact allows_any m w h0 h1
set_option maxHeartbeats 1000000 in
theorem beside_at (a b : Int) (v : Bool) (w : World) (h0 : 0 ≤ a) (h1 : a < 256) (h2 : 0 ≤ b) (h3 : b < 256) (h : Hid (besideN a b = v)) :
    Calls Try.prog 20 #[.int .u8 a, .int .u8 b] w fun e w' => e = .returned (.bool v) ∧ w = w' := by
  have ha := allowsN_lt a
  have hb := allowsN_lt b
  unfold besideN at h
  obtain ⟨x, hx⟩ : ∃ x, allowsN a = x := ⟨_, rfl⟩
  obtain ⟨y, hy⟩ : ∃ y, allowsN b = y := ⟨_, rfl⟩
  rw [hx, hy] at h
  rw [hx] at ha
  rw [hy] at hb
  have HX := Lib.hid hx
  have HY := Lib.hid hy
  clear hx hy
  by_cases hx0 : x = 0
  · subst hx0
    go_enter Try.func20, Try.ntmps20
    go_wp2_with fail
    refine (allows_v _ _ _ h0 h1 HX).mono ?_
    rintro e w' ⟨rfl, rfl⟩
    go_wp2_with fail
    refine (allows_v _ _ _ h2 h3 HY).mono ?_
    rintro e w' ⟨rfl, rfl⟩
    go_wp2
    go_ret
    exact ⟨by rw [← h.out]; simp [besideX], rfl⟩
  by_cases hy0 : y = 0
  · subst hy0
    go_enter Try.func20, Try.ntmps20
    go_wp2_with fail
    refine (allows_v _ _ _ h0 h1 HX).mono ?_
    rintro e w' ⟨rfl, rfl⟩
    go_wp2_with fail
    refine (allows_v _ _ _ h2 h3 HY).mono ?_
    rintro e w' ⟨rfl, rfl⟩
    go_wp2
    go_ret
    exact ⟨by rw [← h.out]; simp [besideX], rfl⟩
  have hfin : besideX x y = (!barsN x y && !barsN y x) := by simp [besideX, hx0, hy0]
  rw [hfin] at h
  clear hfin
  have hx1 : (x == 0) = false := beq_eq_false_iff_ne.2 hx0
  have hy1 : (y == 0) = false := beq_eq_false_iff_ne.2 hy0
  cases hc : barsN x y
  · have HC := Lib.hid hc
    clear hc
    cases hd : barsN y x
    all_goals
      have HD := Lib.hid hd
      clear hd
      go_enter Try.func20, Try.ntmps20
      go_wp2_with fail
      refine (allows_v _ _ _ h0 h1 HX).mono ?_
      rintro e w' ⟨rfl, rfl⟩
      go_wp2_with fail
      refine (allows_v _ _ _ h2 h3 HY).mono ?_
      rintro e w' ⟨rfl, rfl⟩
      go_wp2_with fail
      refine (bars_v _ _ _ _ (by omega) (by omega) (by omega) (by omega) HC).mono ?_
      rintro e w' ⟨rfl, rfl⟩
      go_wp2_with fail
      refine (bars_v _ _ _ _ (by omega) (by omega) (by omega) (by omega) HD).mono ?_
      rintro e w' ⟨rfl, rfl⟩
      go_wp2_with fail
      go_ret
      exact ⟨by rw [← h.out, HC.out, HD.out]; rfl, rfl⟩
  · have HC := Lib.hid hc
    clear hc
    go_enter Try.func20, Try.ntmps20
    go_wp2_with fail
    refine (allows_v _ _ _ h0 h1 HX).mono ?_
    rintro e w' ⟨rfl, rfl⟩
    go_wp2_with fail
    refine (allows_v _ _ _ h2 h3 HY).mono ?_
    rintro e w' ⟨rfl, rfl⟩
    go_wp2_with fail
    refine (bars_v _ _ _ _ (by omega) (by omega) (by omega) (by omega) HC).mono ?_
    rintro e w' ⟨rfl, rfl⟩
    go_wp2_with fail
    go_ret
    exact ⟨by rw [← h.out, HC.out]; rfl, rfl⟩
end Go.Proofs.Ytinakfhijcmodaa
