/- Whether two rows of instructions are the same, as the document says, in plain words. -/
import Derived.Test.YtngbpaiohfokbaaFull
namespace Go.Proofs.Ytngbpaiohfokbaa
open Go Go.RowKit
set_option linter.unusedVariables false
set_option linter.unusedSimpArgs false
def sameFl (f g : FullI) : Bool := ((f.x.op == g.x.op) && ((f.x.mode == g.x.mode) && ((f.x.table == g.x.table) && ((f.x.row == g.x.row) && ((f.x.col == g.x.col) && ((f.x.var == g.x.var) && ((f.x.goes == g.x.goes) && ((f.x.eq == g.x.eq) && ((f.x.frm == g.x.frm) && ((f.x.upto == g.x.upto) && (decide (f.kt = g.kt) && (f.vp.length == g.vp.length))))))))))))
def sameI (f g : FullI) : Bool := sameFl f g && decide (f.vp.map Prod.snd = g.vp.map Prod.snd)
def sameR : List FullI → List FullI → Bool
  | [], [] => true
  | x :: l, y :: m => sameI x y && sameR l m
  | _, _ => false
theorem sameR_cons (x y : FullI) (l m : List FullI) : sameR (x :: l) (y :: m) = (sameI x y && sameR l m) := rfl
theorem sameR_len : ∀ {l m : List FullI}, l.length ≠ m.length → sameR l m = false
  | [], [], h => absurd rfl h
  | [], _ :: _, _ => rfl
  | _ :: _, [], _ => rfl
  | x :: l, y :: m, h => by
    show (sameI x y && sameR l m) = false
    rw [sameR_len (l := l) (m := m) (fun e => h (by simp [e])), Bool.and_false]
theorem sameR_yes {l m : List FullI} (hl : l.length = m.length) (ha : ∀ i (h1 : i < l.length) (h2 : i < m.length), sameI l[i] m[i] = true) : sameR l m = true := by
  induction l generalizing m with
  | nil =>
    cases m with
    | nil => rfl
    | cons y m => simp at hl
  | cons x l ih =>
    cases m with
    | nil => simp at hl
    | cons y m =>
      have h0 : sameI x y = true := ha 0 (Nat.succ_pos _) (Nat.succ_pos _)
      rw [sameR_cons, h0, Bool.true_and]
      exact ih (by simpa using hl) fun i h1 h2 => ha (i + 1) (Nat.succ_lt_succ h1) (Nat.succ_lt_succ h2)
theorem sameR_no {l m : List FullI} (i : Nat) (h1 : i < l.length) (h2 : i < m.length) (h : sameI l[i] m[i] = false) : sameR l m = false := by
  induction l generalizing m i with
  | nil => exact absurd h1 (Nat.not_lt_zero _)
  | cons x l ih =>
    cases m with
    | nil => exact absurd h2 (Nat.not_lt_zero _)
    | cons y m =>
      rw [sameR_cons]
      cases i with
      | zero =>
        have h0 : sameI x y = false := h
        rw [h0, Bool.false_and]
      | succ i => rw [ih i (Nat.lt_of_succ_lt_succ h1) (Nat.lt_of_succ_lt_succ h2) h, Bool.and_false]
theorem Blk.newAtH {w : World} {o : Obj} {t : TypeId} {cs : Array Value} {g : Nat} (hg : (w.alloc o).heap.size = g) : Blk ((w.alloc o).alloc (.cells cs t)) g t cs := by subst hg; exact Blk.new _ _ _
theorem map_no {α β : Type} (q : α → β) {l m : List α} (k : Nat) (h1 : k < l.length) (h2 : k < m.length) (h : q l[k] ≠ q m[k]) : l.map q ≠ m.map q := fun e => by
  have := congrArg (fun x => x[k]?) e
  simp [h1, h2] at this
  exact h this
theorem map_yes {α β : Type} (q : α → β) {l m : List α} (hl : l.length = m.length) (h : ∀ k (h1 : k < l.length) (h2 : k < m.length), q l[k] = q m[k]) : l.map q = m.map q := by
  apply List.ext_getElem
  · simpa using hl
  · intro k h1 h2
    simpa using h k (by simpa using h1) (by simpa using h2)
end Go.Proofs.Ytngbpaiohfokbaa
