/- Arguments opened: a slice value that can be read as data reads as a list of cells. No condition. -/
import Derived.Test.YtngbpaiohfokbaaBase
import Derived.Deep.Slices
import Derived.Deep.Fields
import Derived.ChangeSame
import Derived.OpenShut
import Derived.ShutString
import Derived.ChangeOld
namespace Go.Proofs.Ytngbpaiohfokbaa
open Go Go.RowKit Go.Deep Go.ChangeShapes Go.WideShapes
set_option linter.unusedVariables false
set_option linter.unusedSimpArgs false

theorem flat_at {α : Type} (f : α → List Value) (sz : Nat) (hf : ∀ x, (f x).length = sz) (l : List α) : ∀ (i j : Nat) (hi : i < l.length), j < sz → (l.flatMap f)[i * sz + j]? = (f l[i])[j]? := by
  induction l with
  | nil => intro i j hi; simp at hi
  | cons x l ih =>
    intro i j hi hj
    rw [List.flatMap_cons]
    match i, hi with
    | 0, _ =>
      rw [Nat.zero_mul, Nat.zero_add, List.getElem?_append_left (by rw [hf]; exact hj)]
      rfl
    | i + 1, hi =>
      rw [List.getElem?_append_right (by rw [hf, Nat.succ_mul]; omega), hf, show (i + 1) * sz + j - sz = i * sz + j from by rw [Nat.succ_mul]; omega]
      exact ih i j (by simpa using hi) hj
theorem flat_len {α : Type} (f : α → List Value) (sz : Nat) (hf : ∀ x, (f x).length = sz) (l : List α) : (l.flatMap f).length = l.length * sz := by
  induction l with
  | nil => simp
  | cons x l ih => rw [List.flatMap_cons, List.length_append, hf, ih, List.length_cons, Nat.succ_mul]; omega
theorem addr_add (b off k : Nat) : (⟨b, off, none⟩ : Addr).add k = ⟨b, off + k, none⟩ := by
  unfold Addr.add
  by_cases h : k = 0
  · subst h; rfl
  · simp [h]
theorem Cells.of_elems {α : Type} {w : World} (f : α → List Value) (sz : Nat) (hsz : 0 < sz) (hf : ∀ x, (f x).length = sz) (l : List α) (a : Addr)
    (h : ∀ (i : Nat) (hi : i < l.length) (j : Nat), j < sz → w.cell? (a.add (i * sz + j)) = (f l[i])[j]?) : Cells w (some a) (l.flatMap f) := by
  by_cases hl : l = []
  · subst hl; exact .inl rfl
  · have hpos : 0 < l.length := List.length_pos_iff.2 hl
    have h0 := h 0 hpos 0 hsz
    have h0' : w.cell? (a.add (0 * sz + 0)) = some ((f l[0])[0]'(by rw [hf]; exact hsz)) := by rw [h0]; exact List.getElem?_eq_getElem _
    obtain ⟨b, off, spot⟩ := a
    have hspot : spot = none := by simpa [Addr.add] using World.cell?_spot h0'
    subst hspot
    refine .inr ⟨b, off, rfl, ?_, fun k hk => ?_⟩
    · have := World.block_lt_of_cell? w _ h0'
      simpa [Addr.add] using this
    · rw [flat_len f sz hf] at hk
      have hi : k / sz < l.length := Nat.div_lt_of_lt_mul (by rw [Nat.mul_comm]; exact hk)
      have hj : k % sz < sz := Nat.mod_lt _ hsz
      have hkk : k / sz * sz + k % sz = k := by rw [Nat.mul_comm]; exact Nat.div_add_mod k sz
      have h1 := h (k / sz) hi (k % sz) hj
      have h2 := flat_at f sz hf l (k / sz) (k % sz) hi hj
      rw [hkk] at h1 h2
      rw [h2, ← h1, addr_add]

section
variable {H : Type} {enc : TypeId × Value → H} {P : Program} {w : World} {base : Nat} {spare : Nat → Bool} {held : Bool}
/-- A slice of elements of sz cells each, each of which reads as some x: the slice reads as a list of those. -/
theorem open_elems {α : Type} (f : α → List Value) (ok : α → Prop) (sz : Nat) (hsz : 0 < sz) (hf : ∀ x, (f x).length = sz) {t e : TypeId} {a : Option Addr} {len cap : Nat} {d : DataW H} {p : List MemPlace} (ht : P.underlying t = some (.slice e)) (hC : P.cellsOf e = sz)
    (hel : ∀ (n : Nat) (cs : List Value) (y : DataW H × List MemPlace), cs.length = sz → DataW.trod enc P w base spare held n e cs = some y → ∃ x, cs = f x ∧ ok x)
    (h : DataW.Trod enc P w base spare held t (.slice a len cap) d p) :
    ∃ l : List α, len = l.length ∧ (a = none → cap = 0) ∧ Cells w a (l.flatMap f) ∧ ∀ x ∈ l, ok x := by
  obtain ⟨fuel, hfu⟩ := h
  rcases open_slice ht hfu with ⟨hcs, _⟩ | ⟨a', len', cap', m, n, D, Pl, hcs, hb, hl, hm, hmm, _, hx⟩
  · simp [Value.cells] at hcs
    obtain ⟨rfl, rfl, rfl⟩ := hcs
    exact ⟨[], rfl, fun _ => rfl, .inl rfl, fun x hx => by cases hx⟩
  · simp [Value.cells] at hcs
    obtain ⟨rfl, rfl, rfl⟩ := hcs
    have hlm : len ≤ m := by rw [hmm]; split <;> omega
    have key : ∀ k, k ≤ len → ∃ l : List α, l.length = k ∧ (∀ x ∈ l, ok x) ∧ ∀ (i : Nat) (hi : i < l.length) (j : Nat), j < sz → w.cell? (a'.add (i * sz + j)) = (f l[i])[j]? := by
      intro k
      induction k with
      | zero => intro _; exact ⟨[], rfl, (fun x hx => by cases hx), (fun i hi => by simp at hi)⟩
      | succ k ih =>
        intro hk
        obtain ⟨l, hll, hok, hce⟩ := ih (by omega)
        obtain ⟨cs', h1, h2⟩ := hx k (by omega)
        rw [hC] at h1
        obtain ⟨_, hcl, hcell⟩ := World.cells?_some h1
        obtain ⟨x, rfl, hx'⟩ := hel n cs' _ hcl h2
        refine ⟨l ++ [x], by simp [hll], fun y hy => ?_, fun i hi j hj => ?_⟩
        · rcases List.mem_append.1 hy with h | h
          · exact hok y h
          · rw [List.mem_singleton.1 h]; exact hx'
        · by_cases hik : i < l.length
          · rw [List.getElem_append_left hik]; exact hce i hik j hj
          · have hik' : i = k := by simp at hi; omega
            subst hik'
            rw [List.getElem_append_right (by omega)]
            simp only [hll, Nat.sub_self, List.getElem_cons_zero]
            rw [← hcell j hj, Go.Deep.add_add]
    obtain ⟨l, hll, hok, hce⟩ := key len (Nat.le_refl _)
    exact ⟨l, hll.symm, (fun h => by cases h), Cells.of_elems f sz hsz hf l a' hce, hok⟩
/-- A struct of one-cell fields, field by field. -/
theorem trod_fields {e : TypeId} {fs : Array Field} {n : Nat} {cs : List Value} {y : DataW H × List MemPlace} (he : P.underlying e = some (.struct fs)) (hone : oneCellFields P fs = true)
    (h : DataW.trod enc P w base spare held n e cs = some y) (hlen : cs.length = fs.size) :
    ∃ m : Nat, ∀ (j : Nat) (f : Field), fs[j]? = some f → ∃ (v : Value) (z : DataW H × List MemPlace), cs[j]? = some v ∧ DataW.trod enc P w base spare held m f.type [v] = some z := by
  obtain ⟨xs, m, _, _, _, hxl, hf⟩ := DataW.trod_struct he h
  refine ⟨m, fun j f hj => ?_⟩
  obtain ⟨ho, hk⟩ := hone_of hone j f hj
  have hjl : j < fs.size := (Array.getElem?_eq_some_iff.1 hj).1
  have h1 := hf j f hj
  rw [ho, hk] at h1
  have hd : (cs.drop j).take 1 = [cs[j]'(by omega)] := by
    rw [List.drop_eq_getElem_cons (by omega)]
    rfl
  rw [hd, List.getElem?_eq_getElem (by omega)] at h1
  exact ⟨_, _, List.getElem?_eq_getElem (by omega), h1⟩
/-- A slice of integers. -/
theorem open_nums {k : IntKind} {t e : TypeId} {a : Option Addr} {len cap : Nat} {d : DataW H} {p : List MemPlace} (ht : P.underlying t = some (.slice e)) (he : P.underlying e = some (.int k)) (hC : P.cellsOf e = 1)
    (h : DataW.Trod enc P w base spare held t (.slice a len cap) d p) :
    ∃ l : List Int, len = l.length ∧ (a = none → cap = 0) ∧ Cells w a (l.map (Value.int k)) ∧ ∀ x ∈ l, (Lit.int k x).wf = true := by
  obtain ⟨l, h1, h2, h3, h4⟩ := open_elems (fun x => [Value.int k x]) (fun x => (Lit.int k x).wf = true) 1 (by decide) (fun _ => rfl) ht hC (fun n cs y _ hy => by
    obtain ⟨x, hx, _, hw⟩ := DataW.trod_int he hy
    exact ⟨x, hx, hw⟩) h
  refine ⟨l, h1, h2, ?_, h4⟩
  have e : l.flatMap (fun x => [Value.int k x]) = l.map (Value.int k) := by
    induction l with
    | nil => rfl
    | cons x l ih => 
      have ih' : ∀ l : List Int, l.flatMap (fun x => [Value.int k x]) = l.map (Value.int k) := by
        intro l
        induction l with
        | nil => rfl
        | cons y l ih => rw [List.flatMap_cons, List.map_cons, List.singleton_append, ih]
      exact ih' _
  rw [← e]
  exact h3
end
end Go.Proofs.Ytngbpaiohfokbaa
