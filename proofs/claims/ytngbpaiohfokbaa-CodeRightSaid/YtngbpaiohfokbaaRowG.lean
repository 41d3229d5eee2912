/- Appends onto rows of the call's own, whose elements are one cell each, within a region that draws its order: what each leaves as it was. No condition. -/
import Derived.Test.YtngbpaiohfokbaaRow
namespace Go.Proofs.Ytngbpaiohfokbaa
open Go Go.RowKit
set_option linter.unusedVariables false
set_option linter.unusedSimpArgs false
/-- A row of the call's own, with no room where it is empty. -/
def RowG (N : Nat) (e : TypeId) (n : Nat) (xs : List Value) (v : Value) (w : World) : Prop :=
  w.ownsRow N e 1 v n xs ∧ ∃ A c, v = .slice A n c ∧ (A = none → c = 0) ∧ (n = 0 → c = 0)
def LitG (e : TypeId) (k : Nat) (cs : Array Value) (v : Value) (w : World) : Prop := ∃ g, v = .slice (some ⟨g, 0, none⟩) k k ∧ Blk w g e cs
def PtrG (e : TypeId) (cs : Array Value) (N : Nat) (v : Value) (w : World) : Prop := ∃ g, v = .pointer (some ⟨g, 0, none⟩) ∧ Blk w g e cs ∧ N ≤ g
/-- What an append into a row's room does. -/
structure RoomyG (N g n m cap : Nat) (e : TypeId) (xs news : List Value) (w w' : World) : Prop where
  other : ∀ k, k ≠ g → w'.heap[k]? = w.heap[k]?
  room : n + m ≤ cap
  xl : xs.length = n * 1
  ml : news.length = m * 1
  cells : ∃ cur cur' : Array Value, w.heap[g]? = some (.cells cur e (0, 0)) ∧ w'.heap[g]? = some (.cells cur' e (0, 0)) ∧ cur.size = cap * 1 ∧ cur'.size = cap * 1 ∧ cur.toList.take (n * 1) = xs ∧ cur'.toList.take ((n + m) * 1) = xs ++ news
theorem RowG.ext {N : Nat} {e : TypeId} {n : Nat} {xs : List Value} {v : Value} {w w' : World} (h : RowG N e n xs v w) (hx : Ext w w') : RowG N e n xs v w' := ⟨own_ext h.1 hx, h.2⟩
theorem LitG.ext {e : TypeId} {k : Nat} {cs : Array Value} {v : Value} {w w' : World} (h : LitG e k cs v w) (hx : Ext w w') : LitG e k cs v w' := let ⟨g, a, b⟩ := h; ⟨g, a, b.ext hx⟩
theorem PtrG.ext {e : TypeId} {cs : Array Value} {N : Nat} {v : Value} {w w' : World} (h : PtrG e cs N v w) (hx : Ext w w') : PtrG e cs N v w' := let ⟨g, a, b, c⟩ := h; ⟨g, a, b.ext hx, c⟩
theorem LitG.roomy {N g n m cap : Nat} {e e' : TypeId} {xs news : List Value} {w w' : World} {k : Nat} {cs : Array Value} {v : Value} (hr : RoomyG N g n m cap e xs news w w') (h : LitG e' k cs v w) (hs : cs.size < (n + m) * 1) : LitG e' k cs v w' := by
  obtain ⟨g', rfl, hb⟩ := h
  refine ⟨g', rfl, ?_⟩
  by_cases hg : g' = g
  · subst hg
    obtain ⟨cur, cur', h1, h2, h3, _⟩ := hr.cells
    unfold Blk at hb
    rw [hb] at h1
    injection h1 with h1
    injection h1 with h1
    subst h1
    have := hr.room
    have : (n + m) * 1 ≤ cap * 1 := Nat.mul_le_mul_right _ this
    omega
  · exact (hr.other g' hg).trans hb
theorem PtrG.roomy {N g n m cap : Nat} {e e' : TypeId} {xs news : List Value} {w w' : World} {cs : Array Value} {M : Nat} {v : Value} (hr : RoomyG N g n m cap e xs news w w') (h : PtrG e' cs M v w) (hs : e' ≠ e) : PtrG e' cs M v w' := by
  obtain ⟨g', rfl, hb, hM⟩ := h
  refine ⟨g', rfl, ?_, hM⟩
  by_cases hg : g' = g
  · subst hg
    obtain ⟨cur, cur', h1, h2, h3, _⟩ := hr.cells
    unfold Blk at hb
    rw [hb] at h1
    injection h1 with h1
    injection h1 with h1 h4
    exact absurd h4 hs
  · exact (hr.other g' hg).trans hb
theorem RowG.roomy {N g n m cap : Nat} {e : TypeId} {xs news : List Value} {w w' : World} {k : Nat} {ys : List Value} {v : Value} (hr : RoomyG N g n m cap e xs news w w') (h : RowG N e k ys v w) (hs : k ≤ n ∨ (k = n + m ∧ ys = xs ++ news)) : RowG N e k ys v w' := by
  refine ⟨⟨h.1.1, ?_⟩, h.2⟩
  have hyl := h.1.1
  rcases h.1.2 with hn | ⟨g', cap', cur0, hv, hb, hh, a1, a2, a3, a4⟩
  · exact .inl hn
  · by_cases hg : g' = g
    · subst hg
      obtain ⟨cur, cur', h1, h2, h3, h4, h5, h6⟩ := hr.cells
      rw [hh] at h1
      injection h1 with h1
      injection h1 with h1
      subst h1
      refine .inr ⟨g', cap', cur', hv, hb, h2, a1, a2, by omega, ?_⟩
      rcases hs with hs | ⟨rfl, rfl⟩
      · have hle : k * 1 ≤ n * 1 := Nat.mul_le_mul_right _ hs
        have hle2 : k * 1 ≤ (n + m) * 1 := by omega
        have e1 : (cur'.toList.take ((n + m) * 1)).take (k * 1) = cur'.toList.take (k * 1) := by rw [List.take_take, Nat.min_eq_left hle2]
        have e2 : (cur0.toList.take (n * 1)).take (k * 1) = cur0.toList.take (k * 1) := by rw [List.take_take, Nat.min_eq_left hle]
        rw [← e1, h6, List.take_append_of_le_length (by rw [hr.xl]; exact hle), ← h5, e2, a4]
      · exact h6
    · exact .inr ⟨g', cap', cur0, hv, hb, (hr.other g' hg).trans hh, a1, a2, a3, a4⟩
theorem append_stepG {P : Program} (w : World) (N : Nat) (t ty e : TypeId) (i : TypeInfo) (z : Value) (bytes : Nat) (ht : P.underlying t = some (.slice e)) (hi : P.info? e = some i) (hz : i.zero = some z)
    (hsize : i.size = 1) (hby : i.bytes = bytes) (hzs : z.cells.size = 1) (v : Value) (n : Nat) (xs : List Value) (hrow : RowG N e n xs v w)
    (A : Option Addr) (m c : Nat) (news : List Value) (hc0 : A = none → c = 0) (hl : news.length = m * 1) (hr : Cells w A news) (h1 : ∀ u ∈ news, u.oneCell' = true)
    (h63 : n + m ≤ maxLen) (hbytes : (n + m) * bytes ≤ 140737488355328) (hN : N ≤ w.heap.size) :
    ∃ v' w', (Builtin.append_ #[t, t] ty #[v, .slice A m c]).run P w = .ok v' w' ∧ RowG N e (n + m) (xs ++ news) v' w' ∧ (Ext w w' ∨ (0 < n ∧ 0 < m ∧ Below N w w' ∧ ∃ g cap, RoomyG N g n m cap e xs news w w')) := by
  have hsmall : n + m ≤ 9223372036854775807 := by simp only [maxLen] at h63; omega
  have hlen : (xs ++ news).length = (n + m) * 1 := by rw [List.length_append, hrow.1.1, hl, Nat.add_mul]
  by_cases hm : m = 0
  · subst hm
    have hn : news = [] := List.eq_nil_of_length_eq_zero (by simpa using hl)
    subst hn
    refine ⟨v, w, ?_, by simpa using hrow, .inl (Ext.refl w)⟩
    cases A with
    | none =>
      have := hc0 rfl
      subst this
      exact run_append_owned_none (P := P) w N t ty e i 1 ht hi v n xs hrow.1
    | some ad =>
      rcases hrow.1.2 with ⟨rfl, rfl⟩ | ⟨g, cap, cur, rfl, _, hg, hnc, _, hcs, _⟩
      · simp [Builtin.append_, run_underlying ht, sizeOf, typeInfo, hi, Builtin.lenOf, Builtin.firstCells, loadCells, loadCellsFrom]
      · have hfit : n * i.size + ([] : List Value).length ≤ cur.size := by rw [hsize, hcs]; simp only [List.length_nil, Nat.add_zero]; exact Nat.mul_le_mul_right _ hnc
        have := run_append_room (P := P) w t ty e i ht hi g n cap cur hg ad 0 c [] (by simp) (fun j u hu => by simp at hu) (fun u hu => by simp at hu) (by omega) hfit
        rw [this]
        simp only [Nat.add_zero, List.append_nil, List.length_nil, List.take_append_drop, Array.toArray_toList]
        rw [setRow_self w g cur e (0, 0) hg]
  · obtain ⟨ad, rfl⟩ : ∃ ad, A = some ad := by
      rcases hr with hr | ⟨b, off, hA, _⟩
      · subst hr; simp at hl; omega
      · exact ⟨_, hA⟩
    have hnews : ∀ j u, news[j]? = some u → w.cell? (ad.add j) = some u := by
      intro j u hu
      rcases hr with hr | ⟨b, off, hA, _, hk⟩
      · subst hr; simp at hu
      · injection hA with hA
        subst hA
        have hj : j < news.length := (List.getElem?_eq_some_iff.1 hu).1
        have := (hk j hj).trans hu
        unfold Addr.add
        by_cases h0 : j = 0
        · subst h0; simpa using this
        · simp only [h0, if_false]; exact this
    subst hby
    have grown : ∀ (old : Nat), old < n + m →
        RowG N e (n + m) (xs ++ news) (.slice (some ⟨w.heap.size, 0, none⟩) (n + m) (grownCap w (n + m) old e)) (w.drew.alloc (.cells (xs.toArray ++ news.toArray ++ Builtin.zeroCells z.cells (grownCap w (n + m) old e - (n + m))) e)) ∧
        Ext w (w.drew.alloc (.cells (xs.toArray ++ news.toArray ++ Builtin.zeroCells z.cells (grownCap w (n + m) old e - (n + m))) e)) := by
      intro old ho
      have hge := grownCap_ge w (n + m) old e
      have hcm : grownCap w (n + m) old e ≤ maxLen := grownCap_le_maxLen w (n + m) old e h63
      refine ⟨⟨⟨hlen, .inr ⟨w.heap.size, _, _, rfl, hN, heap_alloc_new w.drew _, hge, hcm, ?_, ?_⟩⟩, _, _, rfl, (fun h => by cases h), (fun h => by omega)⟩, Ext.trans (Below.drew (Below.refl _ _)) (Ext.alloc _ _)⟩
      · simp only [Array.size_append, List.size_toArray, size_zeroCells, hzs, hrow.1.1, hl, ← Nat.add_mul]
        congr 1
        omega
      · simp only [Array.toList_append, List.append_assoc]
        rw [← List.append_assoc, ← hlen]
        exact List.take_left
    rcases hrow.1.2 with ⟨rfl, rfl⟩ | ⟨g, cap, cur, rfl, hbg, hg, hnc, hcm, hcs, htake⟩
    · have hx : xs = [] := List.eq_nil_of_length_eq_zero (by simpa using hrow.1.1)
      subst hx
      have hr := run_append_nil (P := P) w t ty e i z ht hi hz ad m c news (by rw [hsize]; exact hl) hnews (by omega) (by omega) (by have hb := hbytes; simp only [Nat.zero_add] at hb; omega)
      have hgr := grown 0 (by omega)
      simp only [Nat.zero_add, List.nil_append, Array.empty_append] at hgr ⊢
      exact ⟨_, _, hr, hgr.1, .inl hgr.2⟩
    · by_cases hroom : n + m ≤ cap
      · have hn0 : 0 < n := by
          rcases Nat.eq_zero_or_pos n with h0 | h0
          · obtain ⟨A', c', hA', _, hc'⟩ := hrow.2
            injection hA' with _ _ hcc
            have := hc' h0
            omega
          · exact h0
        have hfit : n * i.size + news.length ≤ cur.size := by rw [hl, hcs, hsize, ← Nat.add_mul]; exact Nat.mul_le_mul_right _ hroom
        have hr := run_append_room (P := P) w t ty e i ht hi g n cap cur hg ad m c news (by rw [hsize]; exact hl) hnews h1 hroom hfit
        have hsz' : (cur.toList.take (n * i.size) ++ news ++ cur.toList.drop (n * i.size + news.length)).toArray.size = cap * 1 := by
          simp only [List.size_toArray, List.length_append, List.length_take, List.length_drop, Array.length_toList]
          omega
        have htk : (cur.toList.take (n * i.size) ++ news ++ cur.toList.drop (n * i.size + news.length)).toArray.toList.take ((n + m) * 1) = xs ++ news := by
          rw [hsize, htake, ← hlen]
          exact List.take_left
        refine ⟨_, _, hr, ⟨⟨hlen, .inr ⟨g, cap, _, rfl, hbg, setRow_heap w g cur _ e _ hg, hroom, hcm, hsz', htk⟩⟩, _, _, rfl, (fun h => by cases h), (fun h => by omega)⟩, .inr ⟨hn0, by omega, ⟨rfl, rfl, rfl, by simp, fun k hk => setRow_other w g k _ (by omega)⟩, g, cap, ?_⟩⟩
        exact ⟨fun k hk => setRow_other w g k _ hk, hroom, hrow.1.1, hl, cur, _, hg, setRow_heap w g cur _ e _ hg, hcs, hsz', htake, htk⟩
      · have holds : ∀ j u, xs[j]? = some u → w.cell? ((⟨g, 0, none⟩ : Addr).add j) = some u := hrow.1.cells (g := g) rfl
        have hr := run_append_grow (P := P) w t ty e i z ht hi hz ⟨g, 0, none⟩ n cap xs (by rw [hsize]; exact hrow.1.1) holds ad m c news (by rw [hsize]; exact hl) hnews (by omega) (by omega) (growslice_fits (by omega) hbytes)
        have hgr := grown cap (by omega)
        exact ⟨_, _, hr, hgr.1, .inl hgr.2⟩
/-- An append, as an operation of a region that draws. -/
theorem yields_appendG {P : Program} {w : World} {ρ : Operand → Value} {o : Oper} (N : Nat) (Fs : List (Value → World → Prop)) (s x : Operand) (t : TypeId) (ho : o.op = .call { callee := .builtin .append, args := #[s, x], argTypes := #[t, t] })
    (e : TypeId) (i : TypeInfo) (z : Value) (bytes : Nat) (ht : P.underlying t = some (.slice e)) (hi : P.info? e = some i) (hz : i.zero = some z)
    (hsize : i.size = 1) (hby : i.bytes = bytes) (hzs : z.cells.size = 1) (v : Value) (n : Nat) (xs : List Value) (hs : ρ s = v) (hrow : RowG N e n xs v w)
    (A : Option Addr) (m c : Nat) (news : List Value) (hx : ρ x = .slice A m c) (hc0 : A = none → c = 0) (hl : news.length = m * 1) (hr : Cells w A news) (h1 : ∀ u ∈ news, u.oneCell' = true)
    (h63 : n + m ≤ maxLen) (hbytes : (n + m) * bytes ≤ 140737488355328) (hN : N ≤ w.heap.size)
    (hE : ∀ F ∈ Fs, ∀ v w w', F v w → Ext w w' → F v w') (hR : ∀ g cap w', RoomyG N g n m cap e xs news w w' → 0 < n → 0 < m → ∀ F ∈ Fs, ∀ v, F v w → F v w') :
    YieldsF P ρ o w fun v' w' => RowG N e (n + m) (xs ++ news) v' w' ∧ Keeps N Fs w w' := by
  obtain ⟨v', w', hrun, h2, h3⟩ := append_stepG (P := P) w N t o.type e i z bytes ht hi hz hsize hby hzs v n xs hrow A m c news hc0 hl hr h1 h63 hbytes hN
  unfold YieldsF execOp
  simp only [ho, resolve, invoke, builtin, Sem.run_bind, Sem.run_pure, Result.andThen_ok, List.map_toArray, List.map_cons, List.map_nil, hs, hx, hrun]
  refine ⟨h2, ?_⟩
  rcases h3 with h3 | ⟨hn, hm, hb, g, cap, hroom⟩
  · exact Keeps.ext hE hN h3
  · exact ⟨hb, hN, hR g cap w' hroom hn hm⟩
end Go.Proofs.Ytngbpaiohfokbaa
