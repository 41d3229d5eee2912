/- Plain laws of the modes: what the two texts compute is the same; the lattice. -/
import Derived.Test.YtinakfhijcmodaaT9
namespace Go.Proofs.Ytinakfhijcmodaa
open Go.RowKit
set_option linter.unusedVariables false
set_option linter.unusedSimpArgs false
theorem nat_six (x : Int) (h : 0 ≤ x ∧ x < 6) : ∃ n : Nat, n < 6 ∧ x = n := ⟨x.toNat, by omega, by omega⟩
theorem of_six (a : Int) (h : 0 ≤ a) : ∃ n : Nat, n < 6 ∧ ofM a = n ∧ allowsN a = allowsN n := by
  refine ⟨(ofM a).toNat, by unfold ofM; split <;> omega, by unfold ofM; split <;> omega, ?_⟩
  rw [← allows_of a h]; congr 1; unfold ofM; split <;> omega
theorem two_key : ∀ x, x < 6 → ∀ y, y < 6 → meetN (x : Nat) (y : Nat) = refMeetN (x : Nat) (y : Nat) ∧ besideN (x : Nat) (y : Nat) = besideT (x : Nat) (y : Nat) := by decide +kernel
theorem one_key : ∀ x, x < 6 → meetN (x : Nat) 2 = aheadN (x : Nat) ∧ rowM (x : Nat) = rowN (x : Nat) := by decide +kernel
theorem covers_congr {a a' b b' : Int} (h : allowsN a = allowsN a') (h' : allowsN b = allowsN b') : coversN a b = coversN a' b' := by unfold coversN; rw [h, h']
theorem meet_congr {a a' b b' : Int} (h : allowsN a = allowsN a') (h' : allowsN b = allowsN b') : meetN a b = meetN a' b' := by unfold meetN; rw [h, h']
theorem beside_congr {a a' b b' : Int} (h : allowsN a = allowsN a') (h' : allowsN b = allowsN b') : besideN a b = besideN a' b' := by unfold besideN; rw [h, h']
theorem refmeet_congr {a a' b b' : Int} (h : allowsN a = allowsN a') (h' : allowsN b = allowsN b') : refMeetN a b = refMeetN a' b' := by
  unfold refMeetN
  have : (fun m : Nat => coversN a (5 - m : Nat) && coversN b (5 - m : Nat)) = fun m : Nat => coversN a' (5 - m : Nat) && coversN b' (5 - m : Nat) := by
    funext m; rw [covers_congr h rfl, covers_congr h' rfl]
  rw [this]
theorem join_congr {a a' b b' : Int} (h : allowsN a = allowsN a') (h' : allowsN b = allowsN b') : joinN [a, b] = joinN [a', b'] := by
  unfold joinN joinB; simp only [List.foldl_cons, List.foldl_nil]; rw [h, h']
theorem meet_eq (a b : Int) (h0 : 0 ≤ a) (h1 : 0 ≤ b) : refMeetN a b = meetN a b := by
  obtain ⟨x, hx, _, ha⟩ := of_six a h0
  obtain ⟨y, hy, _, hb⟩ := of_six b h1
  rw [meet_congr ha hb, refmeet_congr ha hb, (two_key x hx y hy).1]
theorem beside_eq (a b : Int) (h0 : 0 ≤ a) (h1 : 0 ≤ b) : besideT (ofM a) (ofM b) = besideN a b := by
  obtain ⟨x, hx, hox, ha⟩ := of_six a h0
  obtain ⟨y, hy, hoy, hb⟩ := of_six b h1
  rw [beside_congr ha hb, hox, hoy, (two_key x hx y hy).2]
theorem ahead_eq (a : Int) (h0 : 0 ≤ a) : aheadN (ofM a) = meetN a 2 := by
  obtain ⟨x, hx, hox, ha⟩ := of_six a h0
  rw [meet_congr ha rfl, hox, (one_key x hx).1]
theorem row_eq (a : Int) (h0 : 0 ≤ a) : rowN (ofM a) = rowM a := by
  obtain ⟨x, hx, hox, ha⟩ := of_six a h0
  rw [hox, ← (one_key x hx).2]
  unfold rowM
  rw [covers_congr ha rfl]
  unfold ofM at hox
  by_cases h : a ≤ 5
  · rw [if_pos h] at hox; rw [hox]
  · rw [if_neg h] at hox
    obtain rfl : x = 0 := by omega
    have hc : coversN ((0 : Nat) : Int) 3 = false := by decide +kernel
    have h5 : ¬ a = 5 := by omega
    rw [hc, if_neg h5]
    rfl
/- joins of any -/
theorem andNot_or : ∀ x, x < 16 → ∀ y, y < 16 → ∀ m, m < 16 → (bits .andNot .u8 (bits .or .u8 (x : Nat) (y : Nat)) (m : Nat) == 0) = ((bits .andNot .u8 (x : Nat) (m : Nat) == 0) && (bits .andNot .u8 (y : Nat) (m : Nat) == 0)) := by decide +kernel
theorem nat16 (x : Int) (h : 0 ≤ x ∧ x < 16) : ∃ n : Nat, n < 16 ∧ x = n := ⟨x.toNat, by omega, by omega⟩
theorem allC_eq (m : Int) (l : List Int) : ∀ b, 0 ≤ b → b < 16 → (bits .andNot .u8 (l.foldl (fun b m => bits .or .u8 b (allowsN m)) b) (allowsN m) == 0) = ((bits .andNot .u8 b (allowsN m) == 0) && allC m l) := by
  induction l with
  | nil => intro b _ _; simp [allC]
  | cons x l ih =>
    intro b h0 h1
    obtain ⟨n, hn, rfl⟩ := nat16 b ⟨h0, h1⟩
    obtain ⟨k, hk, ek⟩ := nat16 (allowsN x) (allowsN_lt x)
    obtain ⟨q, hq, eq⟩ := nat16 (allowsN m) (allowsN_lt m)
    have hb := or_bd (n : Int) (allowsN x) h0 h1 (allowsN_lt x).1 (allowsN_lt x).2
    rw [List.foldl_cons, ih _ hb.1 hb.2, ek, eq, andNot_or n hn k hk q hq]
    have : allC m (x :: l) = (coversN m x && allC m l) := rfl
    rw [this, coversN, ek, eq, Bool.and_assoc]
theorem allC_join (m : Int) (l : List Int) : allC m l = (bits .andNot .u8 (joinB l) (allowsN m) == 0) := by
  have h := allC_eq m l 0 (by omega) (by omega)
  obtain ⟨q, hq, eq⟩ := nat16 (allowsN m) (allowsN_lt m)
  have h0 : (bits .andNot .u8 0 (allowsN m) == 0) = true := by
    rw [eq]
    have : ∀ q, q < 16 → (bits .andNot .u8 0 (q : Nat) == 0) = true := by decide +kernel
    exact this q hq
  rw [h0, Bool.true_and] at h
  exact h.symm
def okSet (x : Int) : Prop := x = 15 ∨ x = 7 ∨ x = 5 ∨ x = 3 ∨ x = 1 ∨ x = 0
theorem ok_allows (m : Int) : okSet (allowsN m) := by unfold okSet allowsN; omega
theorem ok_or {x y : Int} (h : okSet x) (h' : okSet y) : okSet (bits .or .u8 x y) := by
  unfold okSet at *
  rcases h with h | h | h | h | h | h <;> rcases h' with h' | h' | h' | h' | h' | h' <;> rw [h, h'] <;> decide
theorem ok_fold (l : List Int) : ∀ b, okSet b → okSet (l.foldl (fun b m => bits .or .u8 b (allowsN m)) b) := by
  induction l with
  | nil => intro b h; exact h
  | cons m l ih => intro b h; exact ih _ (ok_or h (ok_allows m))
theorem ok_join (l : List Int) : okSet (joinB l) := ok_fold l 0 (by unfold okSet; simp)
theorem join_eq (l : List Int) : refJoinN l = joinN l := by
  unfold refJoinN joinN
  have : (fun m : Nat => allC (m : Nat) l) = fun m : Nat => (bits .andNot .u8 (joinB l) (allowsN (m : Nat)) == 0) := by
    funext m; exact allC_join m l
  rw [this]
  rcases ok_join l with h | h | h | h | h | h <;> rw [h] <;> decide +kernel
theorem allows_least {x : Int} (h : okSet x) : allowsN (leastN x) = x := by
  unfold okSet at h
  rcases h with h | h | h | h | h | h <;> rw [h] <;> decide +kernel
theorem join_allows (l : List Int) : allowsN (joinN l) = joinB l := allows_least (ok_join l)
theorem join_covers (l : List Int) (k : Nat) (h : k < l.length) : coversN (joinN l) (l.getD k 0) = true := by
  have h1 : allC (joinN l) l = true := by
    rw [allC_join, join_allows]
    rcases ok_join l with h | h | h | h | h | h <;> rw [h] <;> decide +kernel
  have h2 := List.all_eq_true.1 h1 (l.getD k 0) (by simp [List.getD, h])
  exact h2
theorem least_bd (x : Int) : 0 ≤ leastN x ∧ leastN x < 6 := by unfold leastN; repeat (split; omega); omega
theorem join_bd (l : List Int) : 0 ≤ joinN l ∧ joinN l < 256 := by have := least_bd (joinB l); unfold joinN; omega
theorem meet_bd (a b : Int) : 0 ≤ meetN a b ∧ meetN a b < 256 := by have := least_bd (bits .and .u8 (allowsN a) (allowsN b)); unfold meetN; omega
theorem row_bd (a : Int) : 0 ≤ rowM a ∧ rowM a < 256 := by unfold rowM; repeat (split; omega); omega
/-- the lattice, at modes -/
def latB (a b c : Int) : Bool :=
  (joinN [a, b] == joinN [b, a]) && (meetN a b == meetN b a) && (joinN [joinN [a, b], c] == joinN [a, joinN [b, c]]) && (meetN (meetN a b) c == meetN a (meetN b c)) &&
  (joinN [a, meetN a b] == a) && (meetN a (joinN [a, b]) == a) && (coversN a b == (joinN [a, b] == a)) && (coversN a b == (meetN a b == b))
theorem lat_key : ∀ x, x < 6 → ∀ y, y < 6 → ∀ z, z < 6 → latB (x : Nat) (y : Nat) (z : Nat) = true := by decide +kernel
/-- what goes beside what, at any -/
def besB (a b c : Int) : Bool := (besideN a b == besideN b a) && (!(besideN a b && coversN b c) || besideN a c)
theorem bes_key : ∀ x, x < 6 → ∀ y, y < 6 → ∀ z, z < 6 → besB (x : Nat) (y : Nat) (z : Nat) = true := by decide +kernel
theorem bes_all (a b c : Int) (h0 : 0 ≤ a) (h1 : 0 ≤ b) (h2 : 0 ≤ c) : besB a b c = true := by
  obtain ⟨x, hx, _, ha⟩ := of_six a h0
  obtain ⟨y, hy, _, hb⟩ := of_six b h1
  obtain ⟨z, hz, _, hc⟩ := of_six c h2
  unfold besB
  rw [beside_congr ha hb, beside_congr hb ha, covers_congr hb hc, beside_congr ha hc]
  exact bes_key x hx y hy z hz
def risB (a b c ra rb : Int) : Bool :=
  (!coversN a b || (coversN (joinN [a, c]) (joinN [b, c]) && coversN (meetN a c) (meetN b c))) && (!besideN c (joinN [a, b]) || (besideN c a && besideN c b)) &&
  (!coversN a b || (coversN (meetN a 2) (meetN b 2) && coversN ra rb))
theorem ris_key : ∀ x, x < 6 → ∀ y, y < 6 → ∀ z, z < 6 → risB (x : Nat) (y : Nat) (z : Nat) (rowN (x : Nat)) (rowN (y : Nat)) = true := by decide +kernel
theorem ris_all (a b c : Int) (h0 : 0 ≤ a) (h1 : 0 ≤ b) (h2 : 0 ≤ c) : risB a b c (rowM a) (rowM b) = true := by
  rw [← row_eq a h0, ← row_eq b h1]
  obtain ⟨x, hx, hox, ha⟩ := of_six a h0
  obtain ⟨y, hy, hoy, hb⟩ := of_six b h1
  obtain ⟨z, hz, _, hc⟩ := of_six c h2
  unfold risB
  rw [covers_congr ha hb, join_congr ha hc, join_congr hb hc, meet_congr ha hc, meet_congr hb hc, beside_congr hc ha, beside_congr hc hb, beside_congr hc (rfl : allowsN (joinN [a, b]) = _), join_congr ha hb, meet_congr ha (rfl : allowsN 2 = _), meet_congr hb (rfl : allowsN 2 = _), hox, hoy]
  exact ris_key x hx y hy z hz
end Go.Proofs.Ytinakfhijcmodaa
