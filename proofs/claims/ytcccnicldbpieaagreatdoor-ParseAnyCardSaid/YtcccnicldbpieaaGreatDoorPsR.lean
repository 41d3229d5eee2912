/- Appends onto rows of the call's own, elements of five cells and of one: what each leaves as it was; where the new row lies. No condition. -/
import Derived.Test.YtcccnicldbpieaaGreatDoorBase
namespace Go.Proofs.YtcccnicldbpieaaGreatDoor
open Go Go.RowKit
set_option linter.unusedVariables false
set_option linter.unusedSimpArgs false
/-- A row of the call's own, with no room where it is empty. -/
def RowFK (N : Nat) (e : TypeId) (n : Nat) (xs : List Value) (v : Value) (w : World) : Prop :=
  w.ownsRow N e 5 v n xs ∧ ∃ A c, v = .slice A n c ∧ (A = none → c = 0) ∧ (n = 0 → c = 0)
def LitFK (e : TypeId) (k : Nat) (cs : Array Value) (v : Value) (w : World) : Prop := ∃ g, v = .slice (some ⟨g, 0, none⟩) k k ∧ Blk w g e cs
def PtrFK (e : TypeId) (cs : Array Value) (N : Nat) (v : Value) (w : World) : Prop := ∃ g, v = .pointer (some ⟨g, 0, none⟩) ∧ Blk w g e cs ∧ N ≤ g
/-- What an append into a row's room does. -/
structure RoomyK (N g n m cap : Nat) (e : TypeId) (xs news : List Value) (w w' : World) : Prop where
  other : ∀ k, k ≠ g → w'.heap[k]? = w.heap[k]?
  room : n + m ≤ cap
  xl : xs.length = n * 5
  ml : news.length = m * 5
  cells : ∃ cur cur' : Array Value, w.heap[g]? = some (.cells cur e (0, 0)) ∧ w'.heap[g]? = some (.cells cur' e (0, 0)) ∧ cur.size = cap * 5 ∧ cur'.size = cap * 5 ∧ cur.toList.take (n * 5) = xs ∧ cur'.toList.take ((n + m) * 5) = xs ++ news
theorem RowFK.ext {N : Nat} {e : TypeId} {n : Nat} {xs : List Value} {v : Value} {w w' : World} (h : RowFK N e n xs v w) (hx : Ext w w') : RowFK N e n xs v w' := ⟨own_ext h.1 hx, h.2⟩
theorem LitFK.ext {e : TypeId} {k : Nat} {cs : Array Value} {v : Value} {w w' : World} (h : LitFK e k cs v w) (hx : Ext w w') : LitFK e k cs v w' := let ⟨g, a, b⟩ := h; ⟨g, a, b.ext hx⟩
theorem PtrFK.ext {e : TypeId} {cs : Array Value} {N : Nat} {v : Value} {w w' : World} (h : PtrFK e cs N v w) (hx : Ext w w') : PtrFK e cs N v w' := let ⟨g, a, b, c⟩ := h; ⟨g, a, b.ext hx, c⟩
theorem LitFK.roomy {N g n m cap : Nat} {e e' : TypeId} {xs news : List Value} {w w' : World} {k : Nat} {cs : Array Value} {v : Value} (hr : RoomyK N g n m cap e xs news w w') (h : LitFK e' k cs v w) (hs : cs.size < (n + m) * 5) : LitFK e' k cs v w' := by
  obtain ⟨g', rfl, hb⟩ := h
  refine ⟨g', rfl, ?_⟩
  by_cases hg : g' = g
  · subst hg
    obtain ⟨cur, cur', h1, h2, h3, _⟩ := hr.cells
    unfold Blk at hb
    rw [hb] at h1
    injection h1 with h1
    injection h1 with h1
    subst h1
    have := hr.room
    have : (n + m) * 5 ≤ cap * 5 := Nat.mul_le_mul_right _ this
    omega
  · exact (hr.other g' hg).trans hb
theorem PtrFK.roomy {N g n m cap : Nat} {e e' : TypeId} {xs news : List Value} {w w' : World} {cs : Array Value} {M : Nat} {v : Value} (hr : RoomyK N g n m cap e xs news w w') (h : PtrFK e' cs M v w) (hs : e' ≠ e) : PtrFK e' cs M v w' := by
  obtain ⟨g', rfl, hb, hM⟩ := h
  refine ⟨g', rfl, ?_, hM⟩
  by_cases hg : g' = g
  · subst hg
    obtain ⟨cur, cur', h1, h2, h3, _⟩ := hr.cells
    unfold Blk at hb
    rw [hb] at h1
    injection h1 with h1
    injection h1 with h1 h4
    exact absurd h4 hs
  · exact (hr.other g' hg).trans hb
theorem RowFK.roomy {N g n m cap : Nat} {e : TypeId} {xs news : List Value} {w w' : World} {k : Nat} {ys : List Value} {v : Value} (hr : RoomyK N g n m cap e xs news w w') (h : RowFK N e k ys v w) (hs : k ≤ n ∨ (k = n + m ∧ ys = xs ++ news)) : RowFK N e k ys v w' := by
  refine ⟨⟨h.1.1, ?_⟩, h.2⟩
  have hyl := h.1.1
  rcases h.1.2 with hn | ⟨g', cap', cur0, hv, hb, hh, a1, a2, a3, a4⟩
  · exact .inl hn
  · by_cases hg : g' = g
    · subst hg
      obtain ⟨cur, cur', h1, h2, h3, h4, h5, h6⟩ := hr.cells
      rw [hh] at h1
      injection h1 with h1
      injection h1 with h1
      subst h1
      refine .inr ⟨g', cap', cur', hv, hb, h2, a1, a2, by omega, ?_⟩
      rcases hs with hs | ⟨rfl, rfl⟩
      · have hle : k * 5 ≤ n * 5 := Nat.mul_le_mul_right _ hs
        have hle2 : k * 5 ≤ (n + m) * 5 := by omega
        have e1 : (cur'.toList.take ((n + m) * 5)).take (k * 5) = cur'.toList.take (k * 5) := by rw [List.take_take, Nat.min_eq_left hle2]
        have e2 : (cur0.toList.take (n * 5)).take (k * 5) = cur0.toList.take (k * 5) := by rw [List.take_take, Nat.min_eq_left hle]
        rw [← e1, h6, List.take_append_of_le_length (by rw [hr.xl]; exact hle), ← h5, e2, a4]
      · exact h6
    · exact .inr ⟨g', cap', cur0, hv, hb, (hr.other g' hg).trans hh, a1, a2, a3, a4⟩
theorem append_stepK {P : Program} (w : World) (N : Nat) (t ty e : TypeId) (i : TypeInfo) (z : Value) (bytes : Nat) (ht : P.underlying t = some (.slice e)) (hi : P.info? e = some i) (hz : i.zero = some z)
    (hsize : i.size = 5) (hby : i.bytes = bytes) (hzs : z.cells.size = 5) (v : Value) (n : Nat) (xs : List Value) (hrow : RowFK N e n xs v w)
    (A : Option Addr) (m c : Nat) (news : List Value) (hc0 : A = none → c = 0) (hl : news.length = m * 5) (hr : Cells w A news) (h1 : ∀ u ∈ news, u.oneCell' = true)
    (h63 : n + m ≤ maxLen) (hbytes : (n + m) * bytes ≤ 140737488355328) (hN : N ≤ w.heap.size) :
    ∃ v' w', (Builtin.append_ #[t, t] ty #[v, .slice A m c]).run P w = .ok v' w' ∧ RowFK N e (n + m) (xs ++ news) v' w' ∧ (Ext w w' ∨ (0 < n ∧ 0 < m ∧ Below N w w' ∧ ∃ g cap, v.ownBlock = some g ∧ RoomyK N g n m cap e xs news w w')) ∧ (m = 0 ∨ v'.ownBlock = v.ownBlock ∨ v'.ownBlock = some w.heap.size) := by
  have hsmall : n + m ≤ 9223372036854775807 := by simp only [maxLen] at h63; omega
  have hlen : (xs ++ news).length = (n + m) * 5 := by rw [List.length_append, hrow.1.1, hl, Nat.add_mul]
  by_cases hm : m = 0
  · subst hm
    have hn : news = [] := List.eq_nil_of_length_eq_zero (by simpa using hl)
    subst hn
    refine ⟨v, w, ?_, by simpa using hrow, .inl (Ext.refl w), .inl rfl⟩
    cases A with
    | none =>
      have := hc0 rfl
      subst this
      exact run_append_owned_none (P := P) w N t ty e i 5 ht hi v n xs hrow.1
    | some ad =>
      rcases hrow.1.2 with ⟨rfl, rfl⟩ | ⟨g, cap, cur, rfl, _, hg, hnc, _, hcs, _⟩
      · simp [Builtin.append_, run_underlying ht, sizeOf, typeInfo, hi, Builtin.lenOf, Builtin.firstCells, loadCells, loadCellsFrom]
      · have hfit : n * i.size + ([] : List Value).length ≤ cur.size := by rw [hsize, hcs]; simp only [List.length_nil, Nat.add_zero]; exact Nat.mul_le_mul_right _ hnc
        have := run_append_room (P := P) w t ty e i ht hi g n cap cur hg ad 0 c [] (by simp) (fun j u hu => by simp at hu) (fun u hu => by simp at hu) (by omega) hfit
        rw [this]
        simp only [Nat.add_zero, List.append_nil, List.length_nil, List.take_append_drop, Array.toArray_toList]
        rw [setRow_self w g cur e (0, 0) hg]
  · obtain ⟨ad, rfl⟩ : ∃ ad, A = some ad := by
      rcases hr with hr | ⟨b, off, hA, _⟩
      · subst hr; simp at hl; omega
      · exact ⟨_, hA⟩
    have hnews : ∀ j u, news[j]? = some u → w.cell? (ad.add j) = some u := by
      intro j u hu
      rcases hr with hr | ⟨b, off, hA, _, hk⟩
      · subst hr; simp at hu
      · injection hA with hA
        subst hA
        have hj : j < news.length := (List.getElem?_eq_some_iff.1 hu).1
        have := (hk j hj).trans hu
        unfold Addr.add
        by_cases h0 : j = 0
        · subst h0; simpa using this
        · simp only [h0, if_false]; exact this
    subst hby
    have grown : ∀ (old : Nat), old < n + m →
        RowFK N e (n + m) (xs ++ news) (.slice (some ⟨w.heap.size, 0, none⟩) (n + m) (grownCap w (n + m) old e)) (w.drew.alloc (.cells (xs.toArray ++ news.toArray ++ Builtin.zeroCells z.cells (grownCap w (n + m) old e - (n + m))) e)) ∧
        Ext w (w.drew.alloc (.cells (xs.toArray ++ news.toArray ++ Builtin.zeroCells z.cells (grownCap w (n + m) old e - (n + m))) e)) := by
      intro old ho
      have hge := grownCap_ge w (n + m) old e
      have hcm : grownCap w (n + m) old e ≤ maxLen := grownCap_le_maxLen w (n + m) old e h63
      refine ⟨⟨⟨hlen, .inr ⟨w.heap.size, _, _, rfl, hN, heap_alloc_new w.drew _, hge, hcm, ?_, ?_⟩⟩, _, _, rfl, (fun h => by cases h), (fun h => by omega)⟩, Ext.trans (Below.drew (Below.refl _ _)) (Ext.alloc _ _)⟩
      · simp only [Array.size_append, List.size_toArray, size_zeroCells, hzs, hrow.1.1, hl, ← Nat.add_mul]
        congr 1
        omega
      · simp only [Array.toList_append, List.append_assoc]
        rw [← List.append_assoc, ← hlen]
        exact List.take_left
    rcases hrow.1.2 with ⟨rfl, rfl⟩ | ⟨g, cap, cur, rfl, hbg, hg, hnc, hcm, hcs, htake⟩
    · have hx : xs = [] := List.eq_nil_of_length_eq_zero (by simpa using hrow.1.1)
      subst hx
      have hr := run_append_nil (P := P) w t ty e i z ht hi hz ad m c news (by rw [hsize]; exact hl) hnews (by omega) (by omega) (by have hb := hbytes; simp only [Nat.zero_add] at hb; omega)
      have hgr := grown 0 (by omega)
      simp only [Nat.zero_add, List.nil_append, Array.empty_append] at hgr ⊢
      exact ⟨_, _, hr, hgr.1, .inl hgr.2, .inr (.inr rfl)⟩
    · by_cases hroom : n + m ≤ cap
      · have hn0 : 0 < n := by
          rcases Nat.eq_zero_or_pos n with h0 | h0
          · obtain ⟨A', c', hA', _, hc'⟩ := hrow.2
            injection hA' with _ _ hcc
            have := hc' h0
            omega
          · exact h0
        have hfit : n * i.size + news.length ≤ cur.size := by rw [hl, hcs, hsize, ← Nat.add_mul]; exact Nat.mul_le_mul_right _ hroom
        have hr := run_append_room (P := P) w t ty e i ht hi g n cap cur hg ad m c news (by rw [hsize]; exact hl) hnews h1 hroom hfit
        have hsz' : (cur.toList.take (n * i.size) ++ news ++ cur.toList.drop (n * i.size + news.length)).toArray.size = cap * 5 := by
          simp only [List.size_toArray, List.length_append, List.length_take, List.length_drop, Array.length_toList]
          omega
        have htk : (cur.toList.take (n * i.size) ++ news ++ cur.toList.drop (n * i.size + news.length)).toArray.toList.take ((n + m) * 5) = xs ++ news := by
          rw [hsize, htake, ← hlen]
          exact List.take_left
        refine ⟨_, _, hr, ⟨⟨hlen, .inr ⟨g, cap, _, rfl, hbg, setRow_heap w g cur _ e _ hg, hroom, hcm, hsz', htk⟩⟩, _, _, rfl, (fun h => by cases h), (fun h => by omega)⟩, .inr ⟨hn0, by omega, ⟨rfl, rfl, rfl, by simp, fun k hk => setRow_other w g k _ (by omega)⟩, g, cap, rfl, ?_⟩, .inr (.inl rfl)⟩
        exact ⟨fun k hk => setRow_other w g k _ hk, hroom, hrow.1.1, hl, cur, _, hg, setRow_heap w g cur _ e _ hg, hcs, hsz', htake, htk⟩
      · have holds : ∀ j u, xs[j]? = some u → w.cell? ((⟨g, 0, none⟩ : Addr).add j) = some u := hrow.1.cells (g := g) rfl
        have hr := run_append_grow (P := P) w t ty e i z ht hi hz ⟨g, 0, none⟩ n cap xs (by rw [hsize]; exact hrow.1.1) holds ad m c news (by rw [hsize]; exact hl) hnews (by omega) (by omega) (growslice_fits (by omega) hbytes)
        have hgr := grown cap (by omega)
        exact ⟨_, _, hr, hgr.1, .inl hgr.2, .inr (.inr rfl)⟩
/-- A row of the call's own, with no room where it is empty. -/
def RowFH (N : Nat) (e : TypeId) (n : Nat) (xs : List Value) (v : Value) (w : World) : Prop :=
  w.ownsRow N e 1 v n xs ∧ ∃ A c, v = .slice A n c ∧ (A = none → c = 0) ∧ (n = 0 → c = 0)
def LitFH (e : TypeId) (k : Nat) (cs : Array Value) (v : Value) (w : World) : Prop := ∃ g, v = .slice (some ⟨g, 0, none⟩) k k ∧ Blk w g e cs
def PtrFH (e : TypeId) (cs : Array Value) (N : Nat) (v : Value) (w : World) : Prop := ∃ g, v = .pointer (some ⟨g, 0, none⟩) ∧ Blk w g e cs ∧ N ≤ g
/-- What an append into a row's room does. -/
structure RoomyH (N g n m cap : Nat) (e : TypeId) (xs news : List Value) (w w' : World) : Prop where
  other : ∀ k, k ≠ g → w'.heap[k]? = w.heap[k]?
  room : n + m ≤ cap
  xl : xs.length = n * 1
  ml : news.length = m * 1
  cells : ∃ cur cur' : Array Value, w.heap[g]? = some (.cells cur e (0, 0)) ∧ w'.heap[g]? = some (.cells cur' e (0, 0)) ∧ cur.size = cap * 1 ∧ cur'.size = cap * 1 ∧ cur.toList.take (n * 1) = xs ∧ cur'.toList.take ((n + m) * 1) = xs ++ news
theorem RowFH.ext {N : Nat} {e : TypeId} {n : Nat} {xs : List Value} {v : Value} {w w' : World} (h : RowFH N e n xs v w) (hx : Ext w w') : RowFH N e n xs v w' := ⟨own_ext h.1 hx, h.2⟩
theorem LitFH.ext {e : TypeId} {k : Nat} {cs : Array Value} {v : Value} {w w' : World} (h : LitFH e k cs v w) (hx : Ext w w') : LitFH e k cs v w' := let ⟨g, a, b⟩ := h; ⟨g, a, b.ext hx⟩
theorem PtrFH.ext {e : TypeId} {cs : Array Value} {N : Nat} {v : Value} {w w' : World} (h : PtrFH e cs N v w) (hx : Ext w w') : PtrFH e cs N v w' := let ⟨g, a, b, c⟩ := h; ⟨g, a, b.ext hx, c⟩
theorem LitFH.roomy {N g n m cap : Nat} {e e' : TypeId} {xs news : List Value} {w w' : World} {k : Nat} {cs : Array Value} {v : Value} (hr : RoomyH N g n m cap e xs news w w') (h : LitFH e' k cs v w) (hs : cs.size < (n + m) * 1) : LitFH e' k cs v w' := by
  obtain ⟨g', rfl, hb⟩ := h
  refine ⟨g', rfl, ?_⟩
  by_cases hg : g' = g
  · subst hg
    obtain ⟨cur, cur', h1, h2, h3, _⟩ := hr.cells
    unfold Blk at hb
    rw [hb] at h1
    injection h1 with h1
    injection h1 with h1
    subst h1
    have := hr.room
    have : (n + m) * 1 ≤ cap * 1 := Nat.mul_le_mul_right _ this
    omega
  · exact (hr.other g' hg).trans hb
theorem PtrFH.roomy {N g n m cap : Nat} {e e' : TypeId} {xs news : List Value} {w w' : World} {cs : Array Value} {M : Nat} {v : Value} (hr : RoomyH N g n m cap e xs news w w') (h : PtrFH e' cs M v w) (hs : e' ≠ e) : PtrFH e' cs M v w' := by
  obtain ⟨g', rfl, hb, hM⟩ := h
  refine ⟨g', rfl, ?_, hM⟩
  by_cases hg : g' = g
  · subst hg
    obtain ⟨cur, cur', h1, h2, h3, _⟩ := hr.cells
    unfold Blk at hb
    rw [hb] at h1
    injection h1 with h1
    injection h1 with h1 h4
    exact absurd h4 hs
  · exact (hr.other g' hg).trans hb
theorem RowFH.roomy {N g n m cap : Nat} {e : TypeId} {xs news : List Value} {w w' : World} {k : Nat} {ys : List Value} {v : Value} (hr : RoomyH N g n m cap e xs news w w') (h : RowFH N e k ys v w) (hs : k ≤ n ∨ (k = n + m ∧ ys = xs ++ news)) : RowFH N e k ys v w' := by
  refine ⟨⟨h.1.1, ?_⟩, h.2⟩
  have hyl := h.1.1
  rcases h.1.2 with hn | ⟨g', cap', cur0, hv, hb, hh, a1, a2, a3, a4⟩
  · exact .inl hn
  · by_cases hg : g' = g
    · subst hg
      obtain ⟨cur, cur', h1, h2, h3, h4, h5, h6⟩ := hr.cells
      rw [hh] at h1
      injection h1 with h1
      injection h1 with h1
      subst h1
      refine .inr ⟨g', cap', cur', hv, hb, h2, a1, a2, by omega, ?_⟩
      rcases hs with hs | ⟨rfl, rfl⟩
      · have hle : k * 1 ≤ n * 1 := Nat.mul_le_mul_right _ hs
        have hle2 : k * 1 ≤ (n + m) * 1 := by omega
        have e1 : (cur'.toList.take ((n + m) * 1)).take (k * 1) = cur'.toList.take (k * 1) := by rw [List.take_take, Nat.min_eq_left hle2]
        have e2 : (cur0.toList.take (n * 1)).take (k * 1) = cur0.toList.take (k * 1) := by rw [List.take_take, Nat.min_eq_left hle]
        rw [← e1, h6, List.take_append_of_le_length (by rw [hr.xl]; exact hle), ← h5, e2, a4]
      · exact h6
    · exact .inr ⟨g', cap', cur0, hv, hb, (hr.other g' hg).trans hh, a1, a2, a3, a4⟩
theorem append_stepH {P : Program} (w : World) (N : Nat) (t ty e : TypeId) (i : TypeInfo) (z : Value) (bytes : Nat) (ht : P.underlying t = some (.slice e)) (hi : P.info? e = some i) (hz : i.zero = some z)
    (hsize : i.size = 1) (hby : i.bytes = bytes) (hzs : z.cells.size = 1) (v : Value) (n : Nat) (xs : List Value) (hrow : RowFH N e n xs v w)
    (A : Option Addr) (m c : Nat) (news : List Value) (hc0 : A = none → c = 0) (hl : news.length = m * 1) (hr : Cells w A news) (h1 : ∀ u ∈ news, u.oneCell' = true)
    (h63 : n + m ≤ maxLen) (hbytes : (n + m) * bytes ≤ 140737488355328) (hN : N ≤ w.heap.size) :
    ∃ v' w', (Builtin.append_ #[t, t] ty #[v, .slice A m c]).run P w = .ok v' w' ∧ RowFH N e (n + m) (xs ++ news) v' w' ∧ (Ext w w' ∨ (0 < n ∧ 0 < m ∧ Below N w w' ∧ ∃ g cap, v.ownBlock = some g ∧ RoomyH N g n m cap e xs news w w')) ∧ (m = 0 ∨ v'.ownBlock = v.ownBlock ∨ v'.ownBlock = some w.heap.size) := by
  have hsmall : n + m ≤ 9223372036854775807 := by simp only [maxLen] at h63; omega
  have hlen : (xs ++ news).length = (n + m) * 1 := by rw [List.length_append, hrow.1.1, hl, Nat.add_mul]
  by_cases hm : m = 0
  · subst hm
    have hn : news = [] := List.eq_nil_of_length_eq_zero (by simpa using hl)
    subst hn
    refine ⟨v, w, ?_, by simpa using hrow, .inl (Ext.refl w), .inl rfl⟩
    cases A with
    | none =>
      have := hc0 rfl
      subst this
      exact run_append_owned_none (P := P) w N t ty e i 1 ht hi v n xs hrow.1
    | some ad =>
      rcases hrow.1.2 with ⟨rfl, rfl⟩ | ⟨g, cap, cur, rfl, _, hg, hnc, _, hcs, _⟩
      · simp [Builtin.append_, run_underlying ht, sizeOf, typeInfo, hi, Builtin.lenOf, Builtin.firstCells, loadCells, loadCellsFrom]
      · have hfit : n * i.size + ([] : List Value).length ≤ cur.size := by rw [hsize, hcs]; simp only [List.length_nil, Nat.add_zero]; exact Nat.mul_le_mul_right _ hnc
        have := run_append_room (P := P) w t ty e i ht hi g n cap cur hg ad 0 c [] (by simp) (fun j u hu => by simp at hu) (fun u hu => by simp at hu) (by omega) hfit
        rw [this]
        simp only [Nat.add_zero, List.append_nil, List.length_nil, List.take_append_drop, Array.toArray_toList]
        rw [setRow_self w g cur e (0, 0) hg]
  · obtain ⟨ad, rfl⟩ : ∃ ad, A = some ad := by
      rcases hr with hr | ⟨b, off, hA, _⟩
      · subst hr; simp at hl; omega
      · exact ⟨_, hA⟩
    have hnews : ∀ j u, news[j]? = some u → w.cell? (ad.add j) = some u := by
      intro j u hu
      rcases hr with hr | ⟨b, off, hA, _, hk⟩
      · subst hr; simp at hu
      · injection hA with hA
        subst hA
        have hj : j < news.length := (List.getElem?_eq_some_iff.1 hu).1
        have := (hk j hj).trans hu
        unfold Addr.add
        by_cases h0 : j = 0
        · subst h0; simpa using this
        · simp only [h0, if_false]; exact this
    subst hby
    have grown : ∀ (old : Nat), old < n + m →
        RowFH N e (n + m) (xs ++ news) (.slice (some ⟨w.heap.size, 0, none⟩) (n + m) (grownCap w (n + m) old e)) (w.drew.alloc (.cells (xs.toArray ++ news.toArray ++ Builtin.zeroCells z.cells (grownCap w (n + m) old e - (n + m))) e)) ∧
        Ext w (w.drew.alloc (.cells (xs.toArray ++ news.toArray ++ Builtin.zeroCells z.cells (grownCap w (n + m) old e - (n + m))) e)) := by
      intro old ho
      have hge := grownCap_ge w (n + m) old e
      have hcm : grownCap w (n + m) old e ≤ maxLen := grownCap_le_maxLen w (n + m) old e h63
      refine ⟨⟨⟨hlen, .inr ⟨w.heap.size, _, _, rfl, hN, heap_alloc_new w.drew _, hge, hcm, ?_, ?_⟩⟩, _, _, rfl, (fun h => by cases h), (fun h => by omega)⟩, Ext.trans (Below.drew (Below.refl _ _)) (Ext.alloc _ _)⟩
      · simp only [Array.size_append, List.size_toArray, size_zeroCells, hzs, hrow.1.1, hl, ← Nat.add_mul]
        congr 1
        omega
      · simp only [Array.toList_append, List.append_assoc]
        rw [← List.append_assoc, ← hlen]
        exact List.take_left
    rcases hrow.1.2 with ⟨rfl, rfl⟩ | ⟨g, cap, cur, rfl, hbg, hg, hnc, hcm, hcs, htake⟩
    · have hx : xs = [] := List.eq_nil_of_length_eq_zero (by simpa using hrow.1.1)
      subst hx
      have hr := run_append_nil (P := P) w t ty e i z ht hi hz ad m c news (by rw [hsize]; exact hl) hnews (by omega) (by omega) (by have hb := hbytes; simp only [Nat.zero_add] at hb; omega)
      have hgr := grown 0 (by omega)
      simp only [Nat.zero_add, List.nil_append, Array.empty_append] at hgr ⊢
      exact ⟨_, _, hr, hgr.1, .inl hgr.2, .inr (.inr rfl)⟩
    · by_cases hroom : n + m ≤ cap
      · have hn0 : 0 < n := by
          rcases Nat.eq_zero_or_pos n with h0 | h0
          · obtain ⟨A', c', hA', _, hc'⟩ := hrow.2
            injection hA' with _ _ hcc
            have := hc' h0
            omega
          · exact h0
        have hfit : n * i.size + news.length ≤ cur.size := by rw [hl, hcs, hsize, ← Nat.add_mul]; exact Nat.mul_le_mul_right _ hroom
        have hr := run_append_room (P := P) w t ty e i ht hi g n cap cur hg ad m c news (by rw [hsize]; exact hl) hnews h1 hroom hfit
        have hsz' : (cur.toList.take (n * i.size) ++ news ++ cur.toList.drop (n * i.size + news.length)).toArray.size = cap * 1 := by
          simp only [List.size_toArray, List.length_append, List.length_take, List.length_drop, Array.length_toList]
          omega
        have htk : (cur.toList.take (n * i.size) ++ news ++ cur.toList.drop (n * i.size + news.length)).toArray.toList.take ((n + m) * 1) = xs ++ news := by
          rw [hsize, htake, ← hlen]
          exact List.take_left
        refine ⟨_, _, hr, ⟨⟨hlen, .inr ⟨g, cap, _, rfl, hbg, setRow_heap w g cur _ e _ hg, hroom, hcm, hsz', htk⟩⟩, _, _, rfl, (fun h => by cases h), (fun h => by omega)⟩, .inr ⟨hn0, by omega, ⟨rfl, rfl, rfl, by simp, fun k hk => setRow_other w g k _ (by omega)⟩, g, cap, rfl, ?_⟩, .inr (.inl rfl)⟩
        exact ⟨fun k hk => setRow_other w g k _ hk, hroom, hrow.1.1, hl, cur, _, hg, setRow_heap w g cur _ e _ hg, hcs, hsz', htake, htk⟩
      · have holds : ∀ j u, xs[j]? = some u → w.cell? ((⟨g, 0, none⟩ : Addr).add j) = some u := hrow.1.cells (g := g) rfl
        have hr := run_append_grow (P := P) w t ty e i z ht hi hz ⟨g, 0, none⟩ n cap xs (by rw [hsize]; exact hrow.1.1) holds ad m c news (by rw [hsize]; exact hl) hnews (by omega) (by omega) (growslice_fits (by omega) hbytes)
        have hgr := grown cap (by omega)
        exact ⟨_, _, hr, hgr.1, .inl hgr.2, .inr (.inr rfl)⟩
/-- Worlds that go on, but for one row's block; some facts stay. -/
def AppR (o : Option Nat) (Fs : List (Value → World → Prop)) (w w' : World) : Prop := w.grownBy w' o ∧ ∀ F ∈ Fs, ∀ v, F v w → F v w'
theorem grownBy_trans {o : Option Nat} {a b c : World} (h : a.grownBy b o) (k : b.grownBy c o) : a.grownBy c o :=
  ⟨k.os.trans h.os, k.tape.trans h.tape, k.output.trans h.output, Nat.le_trans h.size k.size, fun n hn ho => (k.block n (Nat.lt_of_lt_of_le hn h.size) ho).trans (h.block n hn ho)⟩
theorem grownBy_ext {o : Option Nat} {a b : World} (h : Ext a b) : a.grownBy b o := ⟨h.os, h.tape, h.output, h.size, fun n hn _ => h.block n hn⟩
theorem AppR.trans {o : Option Nat} {Fs : List (Value → World → Prop)} (a b c : World) (h : AppR o Fs a b) (k : AppR o Fs b c) : AppR o Fs a c := ⟨grownBy_trans h.1 k.1, fun F hF v hv => k.2 F hF v (h.2 F hF v hv)⟩
theorem AppR.ext {o : Option Nat} {Fs : List (Value → World → Prop)} {w w' : World} (hE : ∀ F ∈ Fs, ∀ v w w', F v w → Ext w w' → F v w') (h : Ext w w') : AppR o Fs w w' := ⟨grownBy_ext h, fun F hF v hv => hE F hF v _ _ hv h⟩
theorem AppR.refl {o : Option Nat} {Fs : List (Value → World → Prop)} (w : World) : AppR o Fs w w := ⟨grownBy_ext (Ext.refl w), fun _ _ _ h => h⟩
theorem region_app {P : Program} {id : Nat} {Q' : Exit → Act → World → Prop} {a : Act} {w : World} {l : List Oper} {ks : List Take} (o : Option Nat) (Fs : List (Value → World → Prop)) (m : Nat) (hm : P.follows .mixedOrders = true) (hB : factsB l.toArray m = true) (hT : tailB l.toArray m = true)
    (hE : ∀ F ∈ Fs, ∀ v w w', F v w → Ext w w' → F v w')
    (h : WalkF P l.toArray (AppR o Fs) w (fun a' w' => wpList P l.toArray Q' (l.drop m) a' w') (l.take m) ks a []) : (Code.region id l.toArray true).wp P Q' a w :=
  wp_region_facts (R := AppR o Fs) m ks hm hB hT AppR.trans (AppR.ext hE (Below.drew (Below.refl _ _))) h
/-- A literal of one element. -/
def LitN (e : TypeId) (H : Nat) (cs : Array Value) (v : Value) (w : World) : Prop := ∃ g, v = .slice (some ⟨g, 0, none⟩) 1 1 ∧ Blk w g e cs ∧ H ≤ g
theorem LitN.ext {e : TypeId} {H : Nat} {cs : Array Value} {v : Value} {w w' : World} (h : LitN e H cs v w) (hx : Ext w w') : LitN e H cs v w' := let ⟨g, a, b, c⟩ := h; ⟨g, a, b.ext hx, c⟩
/-- The row with one element more; its block is the old one, or new. -/
def ResK (N : Nat) (e : TypeId) (o : Option Nat) (H n : Nat) (ys : List Value) (v : Value) (w : World) : Prop := RowFK N e n ys v w ∧ (v.ownBlock = o ∨ ∃ g, v.ownBlock = some g ∧ H ≤ g)
def FsK (N : Nat) (e : TypeId) (v0 : Value) (H n : Nat) (xs news : List Value) : List (Value → World → Prop) := [fun _ w => RowFK N e n xs v0 w, LitN e H news.toArray, ResK N e v0.ownBlock H (n + 1) (xs ++ news)]
theorem FsK_ext (N : Nat) (e : TypeId) (v0 : Value) (H n : Nat) (xs news : List Value) : ∀ F ∈ FsK N e v0 H n xs news, ∀ v w w', F v w → Ext w w' → F v w' := by
  intro F hF v w w' h hx
  simp only [FsK, List.mem_cons, List.not_mem_nil, or_false] at hF
  rcases hF with rfl | rfl | rfl
  · exact RowFK.ext h hx
  · exact h.ext hx
  · exact ⟨h.1.ext hx, h.2⟩
theorem yields_appK {P : Program} {w : World} {ρ : Operand → Value} {o : Oper} (N H : Nat) (s x : Operand) (t : TypeId) (ho : o.op = .call { callee := .builtin .append, args := #[s, x], argTypes := #[t, t] })
    (e : TypeId) (i : TypeInfo) (z : Value) (bytes : Nat) (ht : P.underlying t = some (.slice e)) (hi : P.info? e = some i) (hz : i.zero = some z)
    (hsize : i.size = 5) (hby : i.bytes = bytes) (hzs : z.cells.size = 5) (v0 : Value) (n : Nat) (xs news : List Value) (hs : ρ s = v0) (hrow : RowFK N e n xs v0 w)
    (u : Value) (hu : ρ x = u) (hx : LitN e H news.toArray u w) (hl : news.length = 5) (h1 : ∀ u ∈ news, u.oneCell' = true) (h63 : n + 1 ≤ maxLen) (hbytes : (n + 1) * bytes ≤ 140737488355328) (hN : N ≤ w.heap.size) (hH : H ≤ w.heap.size) (hog : ∀ g, v0.ownBlock = some g → g < H) :
    YieldsF P ρ o w fun v' w' => ResK N e v0.ownBlock H (n + 1) (xs ++ news) v' w' ∧ AppR v0.ownBlock (FsK N e v0 H n xs news) w w' := by
  obtain ⟨g, hxv, hb, hg⟩ := hx
  rw [hxv] at hu
  have hc : Cells w (some ⟨g, 0, none⟩) news := .inr ⟨g, 0, rfl, hb.lt, fun k hk => by rw [Nat.zero_add, hb.cell k]; simp⟩
  obtain ⟨v', w', hrun, h2, h3, h4⟩ := append_stepK (P := P) w N t o.type e i z bytes ht hi hz hsize hby hzs v0 n xs hrow (some ⟨g, 0, none⟩) 1 1 news (fun h => by cases h) (by rw [hl]) hc h1 h63 hbytes hN
  unfold YieldsF execOp
  simp only [ho, resolve, invoke, builtin, Sem.run_bind, Sem.run_pure, Result.andThen_ok, List.map_toArray, List.map_cons, List.map_nil, hs, hu, hrun]
  refine ⟨⟨h2, ?_⟩, ?_⟩
  · rcases h4 with h4 | h4 | h4
    · omega
    · exact .inl h4
    · exact .inr ⟨_, h4, hH⟩
  · rcases h3 with h3 | ⟨hn, hm, hbl, g0, cap, hgo, hroom⟩
    · exact AppR.ext (FsK_ext _ _ _ _ _ _ _) h3
    · refine ⟨⟨hbl.os, hbl.tape, hbl.output, hbl.size, fun k hk ho => hroom.other k fun e => ho (by rw [e, hgo])⟩, fun F hF v h => ?_⟩
      have hlt := hog g0 hgo
      simp only [FsK, List.mem_cons, List.not_mem_nil, or_false] at hF
      rcases hF with rfl | rfl | rfl
      · exact RowFK.roomy hroom h (.inl (Nat.le_refl _))
      · obtain ⟨g', a, b, c⟩ := h
        exact ⟨g', a, (hroom.other g' (by omega)).trans b, c⟩
      · exact ⟨RowFK.roomy hroom h.1 (.inr ⟨rfl, rfl⟩), h.2⟩
/-- The row with one element more; its block is the old one, or new. -/
def ResH (N : Nat) (e : TypeId) (o : Option Nat) (H n : Nat) (ys : List Value) (v : Value) (w : World) : Prop := RowFH N e n ys v w ∧ (v.ownBlock = o ∨ ∃ g, v.ownBlock = some g ∧ H ≤ g)
def FsH (N : Nat) (e : TypeId) (v0 : Value) (H n : Nat) (xs news : List Value) : List (Value → World → Prop) := [fun _ w => RowFH N e n xs v0 w, LitN e H news.toArray, ResH N e v0.ownBlock H (n + 1) (xs ++ news)]
theorem FsH_ext (N : Nat) (e : TypeId) (v0 : Value) (H n : Nat) (xs news : List Value) : ∀ F ∈ FsH N e v0 H n xs news, ∀ v w w', F v w → Ext w w' → F v w' := by
  intro F hF v w w' h hx
  simp only [FsH, List.mem_cons, List.not_mem_nil, or_false] at hF
  rcases hF with rfl | rfl | rfl
  · exact RowFH.ext h hx
  · exact h.ext hx
  · exact ⟨h.1.ext hx, h.2⟩
theorem yields_appH {P : Program} {w : World} {ρ : Operand → Value} {o : Oper} (N H : Nat) (s x : Operand) (t : TypeId) (ho : o.op = .call { callee := .builtin .append, args := #[s, x], argTypes := #[t, t] })
    (e : TypeId) (i : TypeInfo) (z : Value) (bytes : Nat) (ht : P.underlying t = some (.slice e)) (hi : P.info? e = some i) (hz : i.zero = some z)
    (hsize : i.size = 1) (hby : i.bytes = bytes) (hzs : z.cells.size = 1) (v0 : Value) (n : Nat) (xs news : List Value) (hs : ρ s = v0) (hrow : RowFH N e n xs v0 w)
    (u : Value) (hu : ρ x = u) (hx : LitN e H news.toArray u w) (hl : news.length = 1) (h1 : ∀ u ∈ news, u.oneCell' = true) (h63 : n + 1 ≤ maxLen) (hbytes : (n + 1) * bytes ≤ 140737488355328) (hN : N ≤ w.heap.size) (hH : H ≤ w.heap.size) (hog : ∀ g, v0.ownBlock = some g → g < H) :
    YieldsF P ρ o w fun v' w' => ResH N e v0.ownBlock H (n + 1) (xs ++ news) v' w' ∧ AppR v0.ownBlock (FsH N e v0 H n xs news) w w' := by
  obtain ⟨g, hxv, hb, hg⟩ := hx
  rw [hxv] at hu
  have hc : Cells w (some ⟨g, 0, none⟩) news := .inr ⟨g, 0, rfl, hb.lt, fun k hk => by rw [Nat.zero_add, hb.cell k]; simp⟩
  obtain ⟨v', w', hrun, h2, h3, h4⟩ := append_stepH (P := P) w N t o.type e i z bytes ht hi hz hsize hby hzs v0 n xs hrow (some ⟨g, 0, none⟩) 1 1 news (fun h => by cases h) (by rw [hl]) hc h1 h63 hbytes hN
  unfold YieldsF execOp
  simp only [ho, resolve, invoke, builtin, Sem.run_bind, Sem.run_pure, Result.andThen_ok, List.map_toArray, List.map_cons, List.map_nil, hs, hu, hrun]
  refine ⟨⟨h2, ?_⟩, ?_⟩
  · rcases h4 with h4 | h4 | h4
    · omega
    · exact .inl h4
    · exact .inr ⟨_, h4, hH⟩
  · rcases h3 with h3 | ⟨hn, hm, hbl, g0, cap, hgo, hroom⟩
    · exact AppR.ext (FsH_ext _ _ _ _ _ _ _) h3
    · refine ⟨⟨hbl.os, hbl.tape, hbl.output, hbl.size, fun k hk ho => hroom.other k fun e => ho (by rw [e, hgo])⟩, fun F hF v h => ?_⟩
      have hlt := hog g0 hgo
      simp only [FsH, List.mem_cons, List.not_mem_nil, or_false] at hF
      rcases hF with rfl | rfl | rfl
      · exact RowFH.roomy hroom h (.inl (Nat.le_refl _))
      · obtain ⟨g', a, b, c⟩ := h
        exact ⟨g', a, (hroom.other g' (by omega)).trans b, c⟩
      · exact ⟨RowFH.roomy hroom h.1 (.inr ⟨rfl, rfl⟩), h.2⟩
end Go.Proofs.YtcccnicldbpieaaGreatDoor
