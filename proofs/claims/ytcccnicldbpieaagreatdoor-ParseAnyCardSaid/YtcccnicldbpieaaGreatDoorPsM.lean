/- How a reader of tokens lies in memory: its tokens, its nodes, each node's kids; what a step of it may change. No condition. -/
import Derived.Test.YtcccnicldbpieaaGreatDoorLxG
import Derived.Test.YtcccnicldbpieaaGreatDoorPsF
import Derived.Deep.AppendLies
namespace Go.Proofs.YtcccnicldbpieaaGreatDoor
open Go Go.RowKit
set_option linter.unusedVariables false
set_option linter.unusedSimpArgs false
abbrev Hd2 := Option Addr × Nat
def ints (l : List Nat) : List Value := l.map fun (k : Nat) => Value.int .i64 (k : Int)
def ncell (x : Nd × Hd2) : List Value := [.int .u8 (x.1.kind : Int), .int .i64 (x.1.pos : Int), .string (bstr x.1.text), .int .i64 x.1.num, .slice x.2.1 x.1.kids.length x.2.2]
def ncs (l : List (Nd × Hd2)) : List Value := l.flatMap ncell
theorem ints_len (l : List Nat) : (ints l).length = l.length := by simp [ints]
theorem ints_snoc (l : List Nat) (k : Nat) : ints (l ++ [k]) = ints l ++ [.int .i64 (k : Int)] := by simp [ints]
theorem ncs_len (l : List (Nd × Hd2)) : (ncs l).length = l.length * 5 := by
  unfold ncs
  induction l with
  | nil => rfl
  | cons t l ih => rw [List.flatMap_cons, List.length_append, ih, List.length_cons]; show 5 + _ = _; omega
theorem ncs_snoc (l : List (Nd × Hd2)) (x : Nd × Hd2) : ncs (l ++ [x]) = ncs l ++ ncell x := by unfold ncs; simp
theorem ncs_at (l : List (Nd × Hd2)) : ∀ (i : Nat) (hi : i < l.length) (j : Nat), j < 5 → (ncs l)[i * 5 + j]? = (ncell l[i])[j]? := by
  induction l with
  | nil => intro i hi; simp at hi
  | cons x l ih =>
    intro i hi j hj
    show (ncell x ++ ncs l)[i * 5 + j]? = _
    match i, hi with
    | 0, _ => rw [Nat.zero_mul, Nat.zero_add, List.getElem?_append_left (by show j < 5; exact hj)]; rfl
    | i + 1, hi =>
      have e : (i + 1) * 5 + j = 5 + (i * 5 + j) := by omega
      rw [e, List.getElem?_append_right (by show 5 ≤ _; omega), show 5 + (i * 5 + j) - (ncell x).length = i * 5 + j from by show 5 + (i * 5 + j) - 5 = _; omega]
      exact ih i (by simpa using hi) j hj
theorem ncs_modify (l : List (Nd × Hd2)) (i : Nat) (hi : i < l.length) (j : Nat) (hj : j < 5) (u : Value) (f : Nd × Hd2 → Nd × Hd2) (hf : ncell (f l[i]) = (ncell l[i]).set j u) : ncs (l.modify i f) = (ncs l).set (i * 5 + j) u := by
  induction l generalizing i with
  | nil => simp at hi
  | cons x l ih =>
    match i, hi with
    | 0, _ =>
      simp only [List.getElem_cons_zero] at hf
      rw [List.modify_zero_cons]
      show ncell (f x) ++ ncs l = (ncell x ++ ncs l).set (0 * 5 + j) u
      rw [hf, Nat.zero_mul, Nat.zero_add, List.set_append_left _ _ (by show j < 5; exact hj)]
    | i + 1, hi =>
      rw [List.modify_succ_cons]
      show ncell x ++ ncs (l.modify i f) = (ncell x ++ ncs l).set ((i + 1) * 5 + j) u
      rw [ih i (by simpa using hi) (by simpa using hf), List.set_append_right _ _ (by show 5 ≤ _; omega)]
      congr 2
      show _ = (i + 1) * 5 + j - 5
      omega
/-- Nodes, their row, their kids' rows: all of the call's own, each in a block of its own. -/
structure NS (w : World) (B : Nat) (tn ti : TypeId) (A : Option Addr) (c : Nat) (nh : List (Nd × Hd2)) : Prop where
  row : w.ownsRow B tn 5 (.slice A nh.length c) nh.length (ncs nh)
  kids : ∀ x ∈ nh, w.ownsRow B ti 1 (.slice x.2.1 x.1.kids.length x.2.2) x.1.kids.length (ints x.1.kids)
  apart : ∀ (i j : Nat) (hi : i < nh.length) (hj : j < nh.length), nh[i].2.1 = nh[j].2.1 → nh[i].2.1 ≠ none → i = j
  rz : nh.length = 0 → c = 0
  kz : ∀ x ∈ nh, x.1.kids.length = 0 → x.2.2 = 0
def MineN (A : Option Addr) (nh : List (Nd × Hd2)) (b : Nat) : Prop := A = some ⟨b, 0, none⟩ ∨ some (⟨b, 0, none⟩ : Addr) ∈ nh.map fun x => x.2.1
/-- Only what is its own has changed; what it has besides is new. -/
structure Moves (w : World) (M : Nat → Prop) (w' : World) (M' : Nat → Prop) : Prop where
  os : w'.os = w.os
  tape : w'.tape = w.tape
  output : w'.output = w.output
  size : w.heap.size ≤ w'.heap.size
  keep : ∀ b, b < w.heap.size → ¬ M b → w'.heap[b]? = w.heap[b]?
  mine : ∀ b, M' b → M b ∨ w.heap.size ≤ b
theorem Moves.refl (w : World) (M : Nat → Prop) : Moves w M w M := ⟨rfl, rfl, rfl, Nat.le_refl _, fun _ _ _ => rfl, fun _ h => .inl h⟩
theorem Moves.trans {w w1 w2 : World} {M M1 M2 : Nat → Prop} (h : Moves w M w1 M1) (k : Moves w1 M1 w2 M2) : Moves w M w2 M2 := by
  refine ⟨k.os.trans h.os, k.tape.trans h.tape, k.output.trans h.output, Nat.le_trans h.size k.size, fun b hb hM => ?_, fun b hb => ?_⟩
  · rw [k.keep b (Nat.lt_of_lt_of_le hb h.size) (fun h1 => by rcases h.mine b h1 with h2 | h2 <;> first | exact hM h2 | omega)]
    exact h.keep b hb hM
  · rcases k.mine b hb with h1 | h1
    · exact h.mine b h1
    · exact .inr (Nat.le_trans h.size h1)
theorem Moves.ext {w w' : World} {M : Nat → Prop} (h : Ext w w') : Moves w M w' M := ⟨h.os, h.tape, h.output, h.size, fun b hb _ => h.block b hb, fun _ h => .inl h⟩
theorem Moves.below {w w' : World} {M M' : Nat → Prop} {B : Nat} (h : Moves w M w' M') (hM : ∀ b, M b → B ≤ b) (hB : B ≤ w.heap.size) : Below B w w' := ⟨h.os, h.tape, h.output, h.size, fun b hb => h.keep b (by omega) (fun hm => by have := hM b hm; omega)⟩
/-- A block that is none of the reader's. -/
def Safe (w : World) (M : Nat → Prop) (g : Nat) (t : TypeId) (cs : Array Value) : Prop := Blk w g t cs ∧ ¬ M g
theorem Safe.moves {w w' : World} {M M' : Nat → Prop} {g : Nat} {t : TypeId} {cs : Array Value} (h : Safe w M g t cs) (k : Moves w M w' M') : Safe w' M' g t cs :=
  ⟨(k.keep g h.1.lt h.2).trans h.1, fun h1 => by rcases k.mine g h1 with h2 | h2 <;> first | exact h.2 h2 | (have := h.1.lt; omega)⟩
/-- A row that is none of the reader's. -/
def SafeC (w : World) (M : Nat → Prop) (A : Option Addr) (cs : List Value) : Prop := cs = [] ∨ ∃ b off, A = some ⟨b, off, none⟩ ∧ b < w.heap.size ∧ ¬ M b ∧ ∀ k, k < cs.length → w.cell? ⟨b, off + k, none⟩ = cs[k]?
theorem SafeC.cells {w : World} {M : Nat → Prop} {A : Option Addr} {cs : List Value} (h : SafeC w M A cs) : Cells w A cs := by
  rcases h with h | ⟨b, off, h1, h2, _, h3⟩
  · exact .inl h
  · exact .inr ⟨b, off, h1, h2, h3⟩
theorem SafeC.moves {w w' : World} {M M' : Nat → Prop} {A : Option Addr} {cs : List Value} (h : SafeC w M A cs) (k : Moves w M w' M') : SafeC w' M' A cs := by
  rcases h with h | ⟨b, off, h1, h2, h3, h4⟩
  · exact .inl h
  · refine .inr ⟨b, off, h1, Nat.lt_of_lt_of_le h2 k.size, fun h5 => by rcases k.mine b h5 with h6 | h6 <;> first | exact h3 h6 | omega, fun j hj => ?_⟩
    rw [World.cell?_of_block (w := w) (k.keep b h2 h3)]
    exact h4 j hj
theorem own_lt {w : World} {B : Nat} {t : TypeId} {s n c m : Nat} {A : Option Addr} {xs : List Value} (h : w.ownsRow B t s (.slice A m c) n xs) {b : Nat} (e : A = some ⟨b, 0, none⟩) : B ≤ b ∧ b < w.heap.size := by
  rcases h.2 with ⟨hv, _⟩ | ⟨g, cap, cur, hv, hb, hh, _⟩
  · rw [e] at hv; cases hv
  · rw [e] at hv
    injection hv with h1
    injection h1 with h1
    injection h1 with h1
    subst h1
    exact ⟨hb, (Array.getElem?_eq_some_iff.1 hh).1⟩
theorem own_type {w : World} {B : Nat} {t : TypeId} {s n c m : Nat} {A : Option Addr} {xs : List Value} (h : w.ownsRow B t s (.slice A m c) n xs) {b : Nat} (e : A = some ⟨b, 0, none⟩) : ∃ cur, Blk w b t cur := by
  rcases h.2 with ⟨hv, _⟩ | ⟨g, cap, cur, hv, hb, hh, _⟩
  · rw [e] at hv; cases hv
  · rw [e] at hv
    injection hv with h1
    injection h1 with h1
    injection h1 with h1
    subst h1
    exact ⟨cur, hh⟩
theorem own_zero {w : World} {B : Nat} {t : TypeId} {s n c m : Nat} {A : Option Addr} {xs : List Value} (h : w.ownsRow B t s (.slice A m c) n xs) : A = none ∨ ∃ b, A = some ⟨b, 0, none⟩ := by
  rcases h.2 with ⟨hv, _⟩ | ⟨g, cap, cur, hv, hb, hh, _⟩
  · injection hv with h1; exact .inl h1
  · injection hv with h1; exact .inr ⟨g, h1⟩
theorem NS.mine_lt {w : World} {B : Nat} {tn ti : TypeId} {A : Option Addr} {c : Nat} {nh : List (Nd × Hd2)} (h : NS w B tn ti A c nh) {b : Nat} (hb : MineN A nh b) : B ≤ b ∧ b < w.heap.size := by
  rcases hb with hb | hb
  · exact own_lt h.row hb
  · obtain ⟨x, hx, e⟩ := List.mem_map.1 hb
    exact own_lt (h.kids x hx) e
/-- A block of another type is none of theirs. -/
theorem NS.not_mine {w : World} {B : Nat} {tn ti : TypeId} {A : Option Addr} {c : Nat} {nh : List (Nd × Hd2)} (h : NS w B tn ti A c nh) {g : Nat} {t : TypeId} {cs : Array Value} (hg : Blk w g t cs) (h1 : t ≠ tn) (h2 : t ≠ ti) : ¬ MineN A nh g := by
  rintro (hb | hb)
  · obtain ⟨cur, hc⟩ := own_type h.row hb
    exact Blk.differ hg hc h1 rfl
  · obtain ⟨x, hx, e⟩ := List.mem_map.1 hb
    obtain ⟨cur, hc⟩ := own_type (h.kids x hx) e
    exact Blk.differ hg hc h2 rfl
theorem NS.keep {w w' : World} {B : Nat} {tn ti : TypeId} {A : Option Addr} {c : Nat} {nh : List (Nd × Hd2)} (h : NS w B tn ti A c nh) (hk : ∀ b, MineN A nh b → w'.heap[b]? = w.heap[b]?) : NS w' B tn ti A c nh := by
  refine ⟨⟨h.row.1, ?_⟩, fun x hx => ⟨(h.kids x hx).1, ?_⟩, h.apart, h.rz, h.kz⟩
  · rcases h.row.2 with hn | ⟨g, cap, cur, hv, hb, hh, r⟩
    · exact .inl hn
    · injection hv with e1 e2 e3
      exact .inr ⟨g, cap, cur, by rw [e1, e3], hb, (hk g (.inl e1)).trans hh, r⟩
  · rcases (h.kids x hx).2 with hn | ⟨g, cap, cur, hv, hb, hh, r⟩
    · exact .inl hn
    · injection hv with e1 e2 e3
      exact .inr ⟨g, cap, cur, by rw [e1, e3], hb, (hk g (.inr (by rw [← e1]; exact List.mem_map.2 ⟨x, hx, rfl⟩))).trans hh, r⟩
theorem NS.ext {w w' : World} {B : Nat} {tn ti : TypeId} {A : Option Addr} {c : Nat} {nh : List (Nd × Hd2)} (h : NS w B tn ti A c nh) (hx : Ext w w') : NS w' B tn ti A c nh := h.keep fun b hb => hx.block b (h.mine_lt hb).2
/-- A row of theirs that is kept while another one grows. -/
theorem own_apart2 {w w' : World} {b1 : Nat} {t1 : TypeId} {s1 n1 c1 : Nat} {A1 : Option Addr} {xs1 : List Value} {o : Option Nat} (h1 : w.ownsRow b1 t1 s1 (.slice A1 n1 c1) n1 xs1) (hg : w.grownBy w' o) (hne : ∀ b, A1 = some ⟨b, 0, none⟩ → o ≠ some b) : w'.ownsRow b1 t1 s1 (.slice A1 n1 c1) n1 xs1 := by
  refine h1.kept hg ?_
  rcases own_zero h1 with e | ⟨b, e⟩
  · rw [e]; exact .inl rfl
  · refine .inr fun e2 => hne b e ?_
    rw [← e2, e]
    rfl
theorem ownBlock_some {A : Option Addr} {n c b : Nat} (h : (Value.slice A n c).ownBlock = some b) : ∃ a, A = some a ∧ a.block = b := by
  cases A with
  | none => cases h
  | some a => exact ⟨a, rfl, by simpa [Value.ownBlock] using h⟩
theorem own_block {w : World} {B : Nat} {t : TypeId} {s n c m : Nat} {A : Option Addr} {xs : List Value} (h : w.ownsRow B t s (.slice A m c) n xs) {b : Nat} (e : (Value.slice A m c).ownBlock = some b) : A = some ⟨b, 0, none⟩ := by
  obtain ⟨a, ea, eb⟩ := ownBlock_some e
  rcases own_zero h with e0 | ⟨b', e0⟩
  · rw [e0] at ea; cases ea
  · rw [e0] at ea ⊢
    injection ea with ea
    subst ea
    simp only at eb
    rw [eb]
/-- A node more. -/
theorem NS.snoc {w w' : World} {B : Nat} {tn ti : TypeId} {A : Option Addr} {c : Nat} {nh : List (Nd × Hd2)} (h : NS w B tn ti A c nh) (hne : tn ≠ ti) (x : Nd) (hx : x.kids = []) {g cap : Nat}
    (ho : w'.ownsRow B tn 5 (.slice (some ⟨g, 0, none⟩) (nh.length + 1) cap) (nh.length + 1) (ncs nh ++ ncell (x, (none, 0)))) (hg : w.grownBy w' (Value.slice A nh.length c).ownBlock) : NS w' B tn ti (some ⟨g, 0, none⟩) cap (nh ++ [(x, (none, 0))]) := by
  refine ⟨by rw [ncs_snoc, List.length_append]; exact ho, fun y hy => ?_, fun i j hi hj he hn => ?_, fun h0 => by simp at h0, fun y hy h0 => ?_⟩
  · rcases List.mem_append.1 hy with hy | hy
    · refine own_apart2 (h.kids y hy) hg fun b e e2 => ?_
      obtain ⟨cur, hc⟩ := own_type (h.kids y hy) e
      exact own_differ h.row hc hne e2
    · have := List.mem_singleton.1 hy
      subst this
      show w'.ownsRow B ti 1 (.slice none x.kids.length 0) x.kids.length (ints x.kids)
      rw [hx]
      exact World.ownsRow_nil _ _ _ _
  · rw [List.length_append] at hi hj
    simp only [List.length_cons, List.length_nil, Nat.zero_add] at hi hj
    by_cases hi' : i < nh.length
    · rw [List.getElem_append_left hi'] at he hn
      by_cases hj' : j < nh.length
      · rw [List.getElem_append_left hj'] at he
        exact h.apart i j hi' hj' he hn
      · exfalso
        apply hn
        rw [he, List.getElem_append_right (by omega)]
        simp
    · exfalso
      apply hn
      rw [List.getElem_append_right (by omega)]
      simp
  · rcases List.mem_append.1 hy with hy | hy
    · exact h.kz y hy h0
    · rw [List.mem_singleton.1 hy]
theorem snoc_mine {w : World} {p : Nat} {A : Option Addr} {c g : Nat} {nh : List (Nd × Hd2)} (x : Nd) {B : Nat} {t : TypeId} {s n : Nat} {xs : List Value} (hr : w.ownsRow B t s (.slice A nh.length c) n xs) (hf : (Value.slice A nh.length c).ownBlock = some g ∨ w.heap.size ≤ g) (b : Nat)
    (hb : b = p ∨ MineN (some ⟨g, 0, none⟩) (nh ++ [(x, (none, 0))]) b) : (b = p ∨ MineN A nh b) ∨ w.heap.size ≤ b := by
  rcases hb with hb | hb | hb
  · exact .inl (.inl hb)
  · injection hb with hb
    injection hb with hb
    subst hb
    rcases hf with hf | hf
    · exact .inl (.inr (.inl (own_block hr hf)))
    · exact .inr hf
  · rw [List.map_append] at hb
    rcases List.mem_append.1 hb with hb | hb
    · exact .inl (.inr (.inr hb))
    · simp at hb
theorem own_setN {w : World} {base g n m c k sz : Nat} {e : TypeId} {xs : List Value} (h : w.ownsRow base e sz (.slice (some ⟨g, 0, none⟩) m c) n xs) (hk : k < n * sz) (u : Value) : (w.setCell ⟨g, k, none⟩ u).ownsRow base e sz (.slice (some ⟨g, 0, none⟩) m c) n (xs.set k u) := by
  refine ⟨by rw [List.length_set]; exact h.1, ?_⟩
  rcases h.2 with ⟨hv, _⟩ | ⟨g', cap, cur, hv, hb, hh, h1, h2, h3, h4⟩
  · cases hv
  · injection hv with e1 e2 e3
    injection e1 with e1
    injection e1 with e1
    subst e1 e3
    refine .inr ⟨g, c, cur.setIfInBounds k u, by rw [e2], hb, ?_, h1, h2, by simpa using h3, ?_⟩
    · simp [World.setCell, Array.getElem?_modify, hh]
    · rw [Array.toList_setIfInBounds, List.take_set, h4]
theorem own_setFar {w : World} {b1 g : Nat} {t1 : TypeId} {s1 n1 : Nat} {v1 : Value} {xs1 : List Value} {t : TypeId} {cs : Array Value} (h1 : w.ownsRow b1 t1 s1 v1 n1 xs1) (h2 : Blk w g t cs) (ht : t1 ≠ t) (k : Nat) (u : Value) : (w.setCell ⟨g, k, none⟩ u).ownsRow b1 t1 s1 v1 n1 xs1 := own_far h1 (own_differ h1 h2 ht) u
/-- A node's kind, place, text or number set anew. -/
theorem NS.put {w : World} {B : Nat} {tn ti : TypeId} {A : Option Addr} {c : Nat} {nh : List (Nd × Hd2)} (h : NS w B tn ti A c nh) (hne : tn ≠ ti) (i : Nat) (hi : i < nh.length) (j : Nat) (hj : j < 5) (u : Value) (f : Nd → Nd) (hk : ∀ x, (f x).kids = x.kids) (hf : ncell (f nh[i].1, nh[i].2) = (ncell nh[i]).set j u) {g : Nat} (hA : A = some ⟨g, 0, none⟩) :
    NS (w.setCell ⟨g, i * 5 + j, none⟩ u) B tn ti A c (nh.modify i fun x => (f x.1, x.2)) := by
  subst hA
  obtain ⟨cur, hc⟩ := own_type h.row rfl
  refine ⟨?_, fun y hy => ?_, fun a b ha hb he hn => ?_, fun h0 => h.rz (by rw [List.length_modify] at h0; exact h0), fun y hy h0 => ?_⟩
  · rw [List.length_modify, ncs_modify nh i hi j hj u _ hf]
    exact own_setN h.row (by omega) u
  · obtain ⟨a, ha, rfl⟩ := List.mem_iff_getElem.1 hy
    rw [List.length_modify] at ha
    have hb := own_setFar (h.kids _ (List.getElem_mem ha)) hc (Ne.symm hne) (i * 5 + j) u
    rw [List.getElem_modify]
    split
    · simp only [hk]
      exact hb
    · exact hb
  · rw [List.length_modify] at ha hb
    have e : ∀ (a : Nat) (ha : a < nh.length), ((nh.modify i fun x => (f x.1, x.2))[a]'(by rw [List.length_modify]; exact ha)).2.1 = nh[a].2.1 := fun a ha => by
      rw [List.getElem_modify]; split <;> rfl
    rw [e a ha, e b hb] at he
    rw [e a ha] at hn
    exact h.apart a b ha hb he hn
  · obtain ⟨a, ha, rfl⟩ := List.mem_iff_getElem.1 hy
    rw [List.length_modify] at ha
    rw [List.getElem_modify] at h0 ⊢
    split
    · rename_i hia
      rw [if_pos hia] at h0
      simp only [hk] at h0
      exact h.kz nh[a] (List.getElem_mem ha) h0
    · rename_i hia
      rw [if_neg hia] at h0
      exact h.kz _ (List.getElem_mem ha) h0
theorem put_mine {A : Option Addr} {nh : List (Nd × Hd2)} (i : Nat) (f : Nd → Nd) (b : Nat) (hb : MineN A (nh.modify i fun x => (f x.1, x.2)) b) : MineN A nh b := by
  rcases hb with hb | hb
  · exact .inl hb
  · refine .inr ?_
    obtain ⟨x, hx, e⟩ := List.mem_map.1 hb
    obtain ⟨a, ha, rfl⟩ := List.mem_iff_getElem.1 hx
    rw [List.length_modify] at ha
    rw [List.getElem_modify] at e
    refine List.mem_map.2 ⟨nh[a], List.getElem_mem ha, ?_⟩
    split at e <;> exact e
/-- A kid more: its number appended, the row's head stored. -/
theorem NS.kid {W w1 : World} {B : Nat} {tn ti : TypeId} {A : Option Addr} {c : Nat} {nh : List (Nd × Hd2)} (h : NS W B tn ti A c nh) (hne : tn ≠ ti) (i : Nat) (hi : i < nh.length) (k : Nat) {g gk cap : Nat} (hA : A = some ⟨g, 0, none⟩)
    (ho : w1.ownsRow B ti 1 (.slice (some ⟨gk, 0, none⟩) (nh[i].1.kids.length + 1) cap) (nh[i].1.kids.length + 1) (ints nh[i].1.kids ++ [.int .i64 (k : Int)])) (hg : W.grownBy w1 (Value.slice nh[i].2.1 nh[i].1.kids.length nh[i].2.2).ownBlock)
    (hf : (Value.slice nh[i].2.1 nh[i].1.kids.length nh[i].2.2).ownBlock = some gk ∨ W.heap.size ≤ gk) :
    NS (w1.setCell ⟨g, i * 5 + 4, none⟩ (.slice (some ⟨gk, 0, none⟩) (nh[i].1.kids.length + 1) cap)) B tn ti A c (nh.modify i fun x => ({ x.1 with kids := x.1.kids ++ [k] }, (some ⟨gk, 0, none⟩, cap))) := by
  subst hA
  have hrow := own_apart2 h.row hg fun b e e2 => by
    have e3 := own_block (h.kids _ (List.getElem_mem hi)) e2
    obtain ⟨c1, h1⟩ := own_type h.row e
    obtain ⟨c2, h2⟩ := own_type (h.kids _ (List.getElem_mem hi)) e3
    exact Blk.differ h1 h2 hne rfl
  obtain ⟨cur, hc⟩ := own_type hrow rfl
  refine ⟨?_, fun y hy => ?_, fun a b ha hb he hn => ?_, fun h0 => h.rz (by rw [List.length_modify] at h0; exact h0), fun y hy h0 => ?_⟩
  · rw [List.length_modify, ncs_modify nh i hi 4 (by decide) (.slice (some ⟨gk, 0, none⟩) (nh[i].1.kids.length + 1) cap) _ (by simp [ncell])]
    exact own_setN hrow (by omega) _
  · obtain ⟨a, ha, rfl⟩ := List.mem_iff_getElem.1 hy
    rw [List.length_modify] at ha
    rw [List.getElem_modify]
    split
    · rename_i hia
      subst hia
      have hb := own_setFar ho hc (Ne.symm hne) (i * 5 + 4) (.slice (some ⟨gk, 0, none⟩) (nh[i].1.kids.length + 1) cap)
      rw [← ints_snoc] at hb
      simp only [List.length_append, List.length_cons, List.length_nil, Nat.zero_add]
      exact hb
    · rename_i hia
      refine own_setFar (own_apart2 (h.kids _ (List.getElem_mem ha)) hg fun b e e2 => ?_) hc (Ne.symm hne) _ _
      have e3 := own_block (h.kids _ (List.getElem_mem hi)) e2
      exact hia (h.apart i a hi ha (e3.trans e.symm) (by rw [e3]; simp))
  · rw [List.length_modify] at ha hb
    have key : ∀ (a : Nat) (ha : a < nh.length), i ≠ a → nh[a].2.1 ≠ some ⟨gk, 0, none⟩ := by
      intro a ha hia e
      rcases hf with hf | hf
      · have e3 := own_block (h.kids _ (List.getElem_mem hi)) hf
        exact hia (h.apart i a hi ha (e3.trans e.symm) (by rw [e3]; simp))
      · have := (own_lt (h.kids _ (List.getElem_mem ha)) e).2
        omega
    rw [List.getElem_modify, List.getElem_modify] at he
    rw [List.getElem_modify] at hn
    split at he <;> split at he
    · omega
    · rename_i h1 h2
      exact absurd he.symm (key b hb h2)
    · rename_i h1 h2
      exact absurd he (key a ha h1)
    · rename_i h1 h2
      rw [if_neg h1] at hn
      exact h.apart a b ha hb he hn
  · obtain ⟨a, ha, rfl⟩ := List.mem_iff_getElem.1 hy
    rw [List.length_modify] at ha
    rw [List.getElem_modify] at h0 ⊢
    split
    · rename_i hia
      rw [if_pos hia] at h0
      simp at h0
    · rename_i hia
      rw [if_neg hia] at h0
      exact h.kz _ (List.getElem_mem ha) h0
theorem kid_mine {W : World} {B : Nat} {tn ti : TypeId} {A : Option Addr} {c : Nat} {nh : List (Nd × Hd2)} (h : NS W B tn ti A c nh) {i : Nat} (hi : i < nh.length) (f : Nd → Nd) {gk cap : Nat}
    (hf : (Value.slice nh[i].2.1 nh[i].1.kids.length nh[i].2.2).ownBlock = some gk ∨ W.heap.size ≤ gk) (b : Nat) (hb : MineN A (nh.modify i fun x => (f x.1, (some ⟨gk, 0, none⟩, cap))) b) : MineN A nh b ∨ W.heap.size ≤ b := by
  rcases hb with hb | hb
  · exact .inl (.inl hb)
  · obtain ⟨x, hx, e⟩ := List.mem_map.1 hb
    obtain ⟨a, ha, rfl⟩ := List.mem_iff_getElem.1 hx
    rw [List.length_modify] at ha
    rw [List.getElem_modify] at e
    split at e
    · injection e with e
      injection e with e
      subst e
      rcases hf with hf | hf
      · exact .inl (.inr (List.mem_map.2 ⟨nh[i], List.getElem_mem hi, own_block (h.kids _ (List.getElem_mem hi)) hf⟩))
      · exact .inr hf
    · exact .inl (.inr (List.mem_map.2 ⟨nh[a], List.getElem_mem ha, e⟩))
end Go.Proofs.YtcccnicldbpieaaGreatDoor
