/- Words for memory that the walks share: a slice value that reads as a list of cells; a block that is known whole; an append onto a row of the call's own, whatever the source. No condition on the program. -/
import Derived.Test.YtngbpaiohfokbaaChecked
import Derived.Test.YtngbpaiohfokbaaFacts
import Derived.Lib.Hide
import Derived.WalkKit
import Derived.ProofKit
import Derived.Handy
import Derived.WalkSpells
import Derived.LoopTactic
import Derived.LoopN
import Derived.OwnWalk
import Derived.Maps.AppendAt
import Derived.Laws.Tables
import Derived.Laws.Rows
import Derived.Laws.AppendOwnNone
import Derived.Deep.AppendLies
import Derived.Outline
namespace Go.Proofs.Ytngbpaiohfokbaa
open Go Go.RowKit
set_option linter.unusedVariables false
set_option linter.unusedSimpArgs false

theorem ret_int {k : IntKind} {a b : Int} (h : a = b) : Ending.returned (.int k a) = .returned (.int k b) := by rw [h]
theorem ret_bool {a b : Bool} (h : a = b) : Ending.returned (.bool a) = .returned (.bool b) := by rw [h]

/-- The slice value at A reads as these cells. -/
def Cells (w : World) (A : Option Addr) (cs : List Value) : Prop :=
  cs = [] ∨ ∃ b off, A = some ⟨b, off, none⟩ ∧ b < w.heap.size ∧ ∀ k, k < cs.length → w.cell? ⟨b, off + k, none⟩ = cs[k]?
section
variable {w w' : World} {A : Option Addr} {cs : List Value}
theorem Cells.nil (w : World) (A : Option Addr) : Cells w A [] := .inl rfl
theorem Cells.keep (h : Cells w A cs) (hs : w.heap.size ≤ w'.heap.size) (hc : ∀ p : Addr, p.block < w.heap.size → w'.cell? p = w.cell? p) : Cells w' A cs := by
  rcases h with h | ⟨b, off, hA, hb, hk⟩
  · exact .inl h
  · exact .inr ⟨b, off, hA, Nat.lt_of_lt_of_le hb hs, fun k hkl => (hc ⟨b, off + k, none⟩ hb).trans (hk k hkl)⟩
theorem Cells.ext (h : Cells w A cs) (hx : Ext w w') : Cells w' A cs := h.keep hx.size fun p hp => hx.cell hp
theorem Cells.below {B : Nat} (h : Cells w A cs) (hB : ∀ b off, A = some ⟨b, off, none⟩ → b < B) (hx : Below B w w') : Cells w' A cs := by
  rcases h with h | ⟨b, off, hA, hb, hk⟩
  · exact .inl h
  · exact .inr ⟨b, off, hA, Nat.lt_of_lt_of_le hb hx.size, fun k hkl => (hx.cell (p := ⟨b, off + k, none⟩) (hB b off hA)).trans (hk k hkl)⟩
theorem Cells.at_ (h : Cells w A cs) (hn : 0 < cs.length) : ∃ b off, A = some ⟨b, off, none⟩ ∧ b < w.heap.size ∧ ∀ k, k < cs.length → w.cell? ⟨b, off + k, none⟩ = cs[k]? := by
  rcases h with rfl | h
  · simp at hn
  · exact h
theorem Cells.new (w : World) (t : TypeId) (cs : Array Value) : Cells (w.alloc (.cells cs t)) (some ⟨w.heap.size, 0, none⟩) cs.toList := by
  refine .inr ⟨w.heap.size, 0, rfl, by simp, fun k hk => ?_⟩
  rw [Nat.zero_add, (Blk.new w t cs).cell k]
  simp
theorem Cells.own {base e size n c : Nat} (h : w.ownsRow base e size (.slice A n c) n cs) : Cells w A cs := by
  rcases h.2 with ⟨hv, hn⟩ | ⟨g, cap, cur, hv, _, hg, _, _, _, _⟩
  · left
    have := h.1
    rw [hn, Nat.zero_mul] at this
    exact List.eq_nil_of_length_eq_zero this
  · right
    have hA : A = some ⟨g, 0, none⟩ := by injection hv
    have hc : c = cap := by injection hv
    subst hA hc
    refine ⟨g, 0, rfl, (Array.getElem?_eq_some_iff.1 hg).1, fun k hk => ?_⟩
    rw [Nat.zero_add, h.cellAt k (by rw [← h.1]; exact hk)]
end

section
variable {w w' : World} {g : Nat} {t : TypeId} {cs : Array Value}
theorem Blk.frozen (h : Blk w g t cs) (i : Nat) : w.frozen? ⟨g, i, none⟩ = false := by
  unfold Blk at h
  simp [World.frozen?, h]
theorem Blk.differ {g' : Nat} {t' : TypeId} {cs' : Array Value} (h : Blk w g t cs) (h' : Blk w g' t' cs') (hne : t ≠ t') : g ≠ g' := by
  rintro rfl
  unfold Blk at h h'
  rw [h] at h'
  injection h' with h'
  injection h' with _ ht
  exact hne ht
theorem Blk.put (h : Blk w g t cs) (i : Nat) (u : Value) : Blk (w.setCell ⟨g, i, none⟩ u) g t (cs.setIfInBounds i u) := by
  unfold Blk at h ⊢
  simp [World.setCell, Array.getElem?_modify, h]
theorem Blk.far (h : Blk w g t cs) {p : Addr} (hp : g ≠ p.block) (u : Value) : Blk (w.setCell p u) g t cs := (Below.heap_setCell w p u g hp).trans h
theorem Blk.grown {row : Option Nat} (h : Blk w g t cs) (hb : w.grownBy w' row) (hg : some g ≠ row) : Blk w' g t cs := (hb.block g h.lt hg).trans h
theorem Blk.alloc (h : Blk w g t cs) (o : Obj) : Blk (w.alloc o) g t cs := h.ext (Ext.alloc w o)
theorem Blk.below {B : Nat} (h : Blk w g t cs) (hb : Below B w w') (hg : g < B) : Blk w' g t cs := (hb.block g hg).trans h
theorem own_differ {base : Nat} {e : TypeId} {size n : Nat} {v : Value} {xs : List Value} (h : w.ownsRow base e size v n xs) (hg : Blk w g t cs) (hne : e ≠ t) : v.ownBlock ≠ some g := by
  rcases h.2 with ⟨rfl, _⟩ | ⟨g', cap, cur, rfl, _, hh, _⟩
  · simp [Value.ownBlock]
  · intro he
    have : g' = g := by simpa [Value.ownBlock] using he
    subst this
    exact Blk.differ (t := e) hh hg hne rfl
theorem own_far {base : Nat} {e : TypeId} {size n : Nat} {v : Value} {xs : List Value} (h : w.ownsRow base e size v n xs) {p : Addr} (hp : v.ownBlock ≠ some p.block) (u : Value) : (w.setCell p u).ownsRow base e size v n xs := by
  refine ⟨h.1, ?_⟩
  rcases h.2 with hn | ⟨g', cap, cur, rfl, hb, hh, r⟩
  · exact .inl hn
  · refine .inr ⟨g', cap, cur, rfl, hb, ?_, r⟩
    rw [Below.heap_setCell w p u g' (fun e => hp (by rw [e]; rfl))]
    exact hh
theorem own_ext {base : Nat} {e : TypeId} {size n : Nat} {v : Value} {xs : List Value} (h : w.ownsRow base e size v n xs) (hx : Ext w w') : w'.ownsRow base e size v n xs := by
  refine ⟨h.1, ?_⟩
  rcases h.2 with hn | ⟨g', cap, cur, rfl, hb, hh, r⟩
  · exact .inl hn
  · exact .inr ⟨g', cap, cur, rfl, hb, (hx.block g' (Array.getElem?_eq_some_iff.1 hh).1).trans hh, r⟩
/-- One element less. -/
theorem own_less {base : Nat} {e : TypeId} {A : Option Addr} {n c : Nat} {xs : List Value} {x : Value} (h : w.ownsRow base e 1 (.slice A (n + 1) c) (n + 1) (xs ++ [x])) :
    ∃ b, A = some ⟨b, 0, none⟩ ∧ b < w.heap.size ∧ n + 1 ≤ c ∧ w.cell? ⟨b, n, none⟩ = some x ∧ w.ownsRow base e 1 (.slice A n c) n xs := by
  have hl := h.1
  have hxs : xs.length = n := by simp at hl; exact hl
  rcases h.2 with ⟨_, hn⟩ | ⟨g', cap, cur, hv, hb, hh, h1, h2, h3, h4⟩
  · omega
  · have hA : A = some ⟨g', 0, none⟩ := by injection hv
    have hc : c = cap := by injection hv
    subst hA hc
    refine ⟨g', rfl, (Array.getElem?_eq_some_iff.1 hh).1, h1, ?_, by omega, .inr ⟨g', c, cur, rfl, hb, hh, by omega, h2, h3, ?_⟩⟩
    · rw [h.cellAt n (by omega), List.getElem?_append_right (by omega)]
      simp [hxs]
    · have := congrArg (List.take n) h4
      rw [List.take_take, Nat.min_eq_left (by omega), List.take_left' hxs] at this
      rw [Nat.mul_one]
      exact this
end

/-- Only block g has changed. -/
structure Touch (g : Nat) (w w' : World) : Prop where
  os : w'.os = w.os
  tape : w'.tape = w.tape
  output : w'.output = w.output
  size : w'.heap.size = w.heap.size
  other : ∀ k, k ≠ g → w'.heap[k]? = w.heap[k]?
theorem Touch.below {g B : Nat} {w w' : World} (h : Touch g w w') (hB : B ≤ g) : Below B w w' := ⟨h.os, h.tape, h.output, Nat.le_of_eq h.size.symm, fun k hk => h.other k (by omega)⟩
theorem Touch.ext {g : Nat} {w0 w w' : World} (h : Touch g w w') (hx : Ext w0 w) (hB : w0.heap.size ≤ g) : Ext w0 w' := Below.trans hx (h.below hB)
theorem Touch.blk {g k : Nat} {w w' : World} {t : TypeId} {cs : Array Value} (h : Touch g w w') (hb : Blk w k t cs) (hk : k ≠ g) : Blk w' k t cs := (h.other k hk).trans hb
theorem Touch.own {g : Nat} {w w' : World} {base : Nat} {e : TypeId} {size n : Nat} {v : Value} {xs : List Value} (h : Touch g w w') (ho : w.ownsRow base e size v n xs) (hk : v.ownBlock ≠ some g) : w'.ownsRow base e size v n xs := by
  refine ⟨ho.1, ?_⟩
  rcases ho.2 with hn | ⟨g', cap, cur, rfl, hb, hh, r⟩
  · exact .inl hn
  · exact .inr ⟨g', cap, cur, rfl, hb, (h.other g' (fun e => hk (by rw [e]; rfl))).trans hh, r⟩
theorem Touch.cells {g : Nat} {w w' : World} {A : Option Addr} {cs : List Value} (h : Touch g w w') (hc : Cells w A cs) (hk : ∀ b off, A = some ⟨b, off, none⟩ → b ≠ g) : Cells w' A cs := by
  rcases hc with hc | ⟨b, off, hA, hb, hcc⟩
  · exact .inl hc
  · refine .inr ⟨b, off, hA, by rw [h.size]; exact hb, fun k hkl => ?_⟩
    rw [World.cell?_of_block (w := w) (h.other b (hk b off hA))]
    exact hcc k hkl
theorem touch_setRow (w : World) (g : Nat) (t : TypeId) (old cs : Array Value) (h : Blk w g t old) : Touch g w (w.setRow g cs) ∧ Blk (w.setRow g cs) g t cs := by
  unfold Blk at *
  have hlt : g < w.heap.size := (Array.getElem?_eq_some_iff.1 h).1
  refine ⟨⟨rfl, rfl, rfl, by simp [World.setRow], fun k hk => ?_⟩, ?_⟩
  · simp [World.setRow, Array.getElem?_modify, Ne.symm hk]
  · simp [World.setRow, Array.getElem?_modify, h]
/-- A struct stored over a block that is known whole. -/
theorem wpList_put {P : Program} {ops : Array Oper} {rest : List Oper} {o : Oper} {a : Act} {w : World} {Q : Exit → Act → World → Prop} (hgd : o.guard = none) (ty : TypeId) (x y : Operand) (ho : o.op = .store ty x y)
    (g : Nat) (cells : Array Value) (hx : a.eval x = .pointer (some ⟨g, 0, none⟩)) (hy : a.eval y = .agg cells)
    (t : TypeId) (old : Array Value) (hg : Blk w g t old) (hi : (P.info? ty).map (·.size) = some cells.size)
    (hold : old.size = cells.size) (h1 : cells.toList.all (·.oneCell') = true)
    (h : ∀ w', Touch g w w' → Blk w' g t cells → wpList P ops Q rest (a.put o.dst undef) w') : wpList P ops Q (o :: rest) a w :=
  wpList_store_row hgd ty x y ho g cells hx hy t old hg hi hold (by rw [← Array.all_toList]; exact h1) (h _ (touch_setRow w g t old cells hg).1 (touch_setRow w g t old cells hg).2)
/-- A struct loaded from a block that is known whole. -/
theorem wpList_get {P : Program} {ops : Array Oper} {rest : List Oper} {o : Oper} {a : Act} {w : World} {Q : Exit → Act → World → Prop} (hgd : o.guard = none) (ty : TypeId) (x : Operand) (ho : o.op = .load ty x)
    (g : Nat) (hx : a.eval x = .pointer (some ⟨g, 0, none⟩)) (t : TypeId) (cs : Array Value) (d : TypeDesc) (hg : Blk w g t cs)
    (hu : P.underlying ty = some d) (hd : (match d with | .struct _ | .array _ _ => true | _ => false) = true) (hi : (P.info? ty).map (·.size) = some cs.size)
    (h : wpList P ops Q rest (a.put o.dst (.agg cs)) w) : wpList P ops Q (o :: rest) a w :=
  wpList_load_row hgd ty x ho g hx t cs (0, 0) d hg hu hd hi h
/-- A result that is a struct in a block that is known whole. -/
theorem ret_row {P : Program} {fn : Func} {R : Ending → World → Prop} {a : Act} {w : World} {p : Tmp} {ty : TypeId} (g : Nat) (t : TypeId) (cs : Array Value) (d : TypeDesc) (h : fn.results = #[.cell p ty]) (hd0 : a.defers = [])
    (hp : a.tmps.getD p undef = .pointer (some ⟨g, 0, none⟩)) (hb : Blk w g t cs) (hu : P.underlying ty = some d) (hd : (match d with | .struct _ | .array _ _ => true | _ => false) = true) (hi : (P.info? ty).map (·.size) = some cs.size)
    (hR : R (.returned (.agg cs)) w) : bodyPost P fn R .ret a w :=
  bodyPost_ret (results_cell_row h a.tmps w g t cs (0, 0) d hp hb hu hd hi) hd0 hR

/-- An append onto a row of the call's own; where the new row lies. -/
theorem wpList_grow {P : Program} {w : World} {ops : Array Oper} {rest : List Oper} {o : Oper} {a : Act} {Q : Exit → Act → World → Prop} (hgd : o.guard = none) (s x : Operand) (t : TypeId)
    (ho : o.op = .call { callee := .builtin .append, args := #[s, x], argTypes := #[t, t] })
    (base : Nat) (e : TypeId) (i : TypeInfo) (z : Value) (size bytes : Nat) (ht : P.underlying t = some (.slice e)) (hi : P.info? e = some i) (hz : i.zero = some z)
    (hsize : i.size = size) (hby : i.bytes = bytes) (hzs : z.cells.size = size) (hsz : 0 < size)
    (v : Value) (n : Nat) (xs : List Value) (hs : a.eval s = v) (hown : w.ownsRow base e size v n xs)
    (A : Option Addr) (m c : Nat) (news : List Value) (hx : a.eval x = .slice A m c) (hc0 : A = none → c = 0) (hl : news.length = m * size) (hr : Cells w A news) (h1 : ∀ u ∈ news, u.oneCell' = true)
    (h63 : n + m ≤ maxLen) (hbytes : (n + m) * bytes ≤ 140737488355328) (hbase : base ≤ w.heap.size)
    (h : ∀ (A' : Option Addr) (c' : Nat) (w' : World), (A' = none → c' = 0) → w'.ownsRow base e size (.slice A' (n + m) c') (n + m) (xs ++ news) → w.grownBy w' v.ownBlock → wpList P ops Q rest (a.put o.dst (.slice A' (n + m) c')) w') : wpList P ops Q (o :: rest) a w := by
  have form : ∀ (v' : Value) (w' : World), w'.ownsRow base e size v' (n + m) (xs ++ news) → ∃ A' c', v' = .slice A' (n + m) c' ∧ (A' = none → c' = 0) := by
    intro v' w' ho'
    rcases ho'.2 with ⟨hv, hn⟩ | ⟨g, cap, cur, hv, _⟩
    · exact ⟨none, 0, by rw [hv, hn], fun _ => rfl⟩
    · exact ⟨some ⟨g, 0, none⟩, cap, hv, fun h => by cases h⟩
  have fin : ∀ (v' : Value) (w' : World), w'.ownsRow base e size v' (n + m) (xs ++ news) → w.grownBy w' v.ownBlock → wpList P ops Q rest (a.put o.dst v') w' := by
    intro v' w' ho' hg'
    obtain ⟨A', c', rfl, h0⟩ := form v' w' ho'
    exact h A' c' w' h0 ho' hg'
  cases A with
  | none =>
    have hc := hc0 rfl
    subst hc
    have hnews : news = [] := by
      rcases hr with hr | ⟨b, off, hA, _⟩
      · exact hr
      · cases hA
    subst hnews
    have hm : m = 0 := by
      rcases Nat.eq_zero_or_pos m with h0 | h0
      · exact h0
      · have : 0 < m * size := Nat.mul_pos h0 hsz
        simp at hl
        omega
    subst hm
    refine wpList_append_own_none hgd s x t ho base e i size ht hi v n xs hs hown hx ?_
    exact fin v w (by simpa using hown) (World.grownBy.refl w _)
  | some ad =>
    refine wpList_append_own w hgd s x t ho base e i z size bytes ht hi hz hsize hby hzs hsz v n xs hs hown ad m c news hx hl (fun j u hu => ?_) h1 h63 hbytes hbase fun v' w' h2 h3 _ => fin v' w' h2 h3
    rcases hr with hr | ⟨b, off, hA, _, hk⟩
    · subst hr; simp at hu
    · injection hA with hA
      subst hA
      have hj : j < news.length := (List.getElem?_eq_some_iff.1 hu).1
      have := (hk j hj).trans hu
      unfold Addr.add
      by_cases h0 : j = 0
      · subst h0; simpa using this
      · simp only [h0, if_false]; exact this
end Go.Proofs.Ytngbpaiohfokbaa
