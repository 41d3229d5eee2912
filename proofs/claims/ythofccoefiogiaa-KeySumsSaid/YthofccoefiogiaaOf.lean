/- What key.Of needs: a row of the call's own, each element of three cells: cut, set. And what it computes. -/
import Derived.Test.YthofccoefiogiaaKey
import Derived.Test.YthofccoefiogiaaMay
import Derived.Test.YthofccoefiogiaaPair
import Derived.Test.YthofccoefiogiaaEvalB
import Derived.Deep.MidRow
namespace Go.Proofs.Ythofccoefiogiaa
open Go Go.RowKit
set_option linter.unusedVariables false
set_option linter.unusedSimpArgs false
section
variable {w : World} {base : Nat} {e : TypeId}
theorem own_cut {A : Option Addr} {n m c : Nat} {xs ys : List Value} (h : w.ownsRow base e 3 (.slice A (n + m) c) (n + m) (xs ++ ys)) (hm : 0 < m) (hxs : xs.length = n * 3) :
    ∃ b, A = some ⟨b, 0, none⟩ ∧ base ≤ b ∧ b < w.heap.size ∧ n + m ≤ c ∧ c ≤ maxLen ∧ (∀ j, j < m * 3 → w.cell? ⟨b, n * 3 + j, none⟩ = ys[j]?) ∧ w.ownsRow base e 3 (.slice A n c) n xs := by
  have hl := h.1
  rw [List.length_append, hxs] at hl
  rcases h.2 with ⟨_, hn⟩ | ⟨g', cap, cur, hv, hb, hh, h1, h2, h3, h4⟩
  · omega
  · have hA : A = some ⟨g', 0, none⟩ := by injection hv
    have hc : c = cap := by injection hv
    subst hA hc
    refine ⟨g', rfl, hb, (Array.getElem?_eq_some_iff.1 hh).1, h1, h2, fun j hj => ?_, hxs, .inr ⟨g', c, cur, rfl, hb, hh, by omega, h2, h3, ?_⟩⟩
    · rw [h.cellAt (n * 3 + j) (by omega), List.getElem?_append_right (by omega)]
      congr 1
      omega
    · have := congrArg (List.take (n * 3)) h4
      rw [List.take_take, Nat.min_eq_left (by omega), List.take_left' hxs] at this
      exact this
theorem own_set3 {b n c : Nat} {xs : List Value} {x y z : Value} (h : w.ownsRow base e 3 (.slice (some ⟨b, 0, none⟩) (n + 1) c) (n + 1) (xs ++ [x, y, z])) (hxs : xs.length = n * 3) (x' y' z' : Value) :
    (w.setCells b (n * 3) [x', y', z']).ownsRow base e 3 (.slice (some ⟨b, 0, none⟩) (n + 1) c) (n + 1) (xs ++ [x', y', z']) ∧ Touch b w (w.setCells b (n * 3) [x', y', z']) := by
  have h1 := (h.stored (n * 3) x').1
  have h2 := (h1.stored (n * 3 + 1) y').1
  have h3 := (h2.stored (n * 3 + 1 + 1) z').1
  have e : (((xs ++ [x, y, z]).set (n * 3) x').set (n * 3 + 1) y').set (n * 3 + 1 + 1) z' = xs ++ [x', y', z'] := by
    rw [← hxs]
    simp [List.set_append]
    rw [if_neg (by omega), show xs.length + 1 + 1 - xs.length = 2 from by omega]
    rfl
  rw [e] at h3
  refine ⟨h3, ⟨rfl, rfl, rfl, by simp [World.setCells], fun k hk => ?_⟩⟩
  simp only [World.setCells]
  rw [Below.heap_setCell _ _ _ k hk, Below.heap_setCell _ _ _ k hk, Below.heap_setCell _ _ _ k hk]
end
def stepK (params : List KindD) (t : TermD) (st : List KindD) : Option (List KindD) :=
  if t.1 = 1 then some ((1, t.2.1, 0) :: st)
  else if t.1 = 2 then (if 0 ≤ t.2.2 ∧ t.2.2 < params.length then some (plainN (params.getD t.2.2.toNat (0, 0, 0)) :: st) else some ((3, 0, 0) :: st))
  else if t.1 = 6 then (match st with | y :: r => some (negN y :: r) | _ => none)
  else if t.1 = 3 ∨ t.1 = 4 ∨ t.1 = 5 then (match st with | y :: x :: r => some (pairN t.1 x y :: r) | _ => none)
  else none
def ofS (params : List KindD) : List TermD → List KindD → Option (List KindD)
  | [], st => some st
  | t :: l, st => (stepK params t st).bind (ofS params l)
def ofR (params : List KindD) (l : List TermD) : KindD := match ofS params l [] with
  | some [x] => x
  | _ => (3, 0, 0)
theorem ofS_append (params : List KindD) (l m : List TermD) (st : List KindD) : ofS params (l ++ m) st = (ofS params l st).bind (ofS params m) := by
  induction l generalizing st with
  | nil => rfl
  | cons t l ih =>
    simp only [List.cons_append, ofS]
    cases h : stepK params t st with
    | none => rfl
    | some st' => simp only [Option.bind_some]; exact ih st'
theorem ofS_take (params : List KindD) (l : List TermD) (k : Nat) (h : k < l.length) (st : List KindD) (he : ofS params (l.take k) [] = some st) : ofS params (l.take (k + 1)) [] = stepK params l[k] st := by
  rw [List.take_succ_eq_append_getElem h, ofS_append, he]
  simp only [Option.bind_some, ofS]
  cases stepK params l[k] st <;> rfl
theorem ofS_fail (params : List KindD) (l : List TermD) (k : Nat) (h : k < l.length) (st : List KindD) (he : ofS params (l.take k) [] = some st) (hs : stepK params l[k] st = none) : ofR params l = (3, 0, 0) := by
  have h1 := ofS_take params l k h st he
  rw [hs] at h1
  have h2 := ofS_append params (l.take (k + 1)) (l.drop (k + 1)) []
  rw [List.take_append_drop, h1] at h2
  unfold ofR
  rw [h2]
  rfl
end Go.Proofs.Ythofccoefiogiaa
