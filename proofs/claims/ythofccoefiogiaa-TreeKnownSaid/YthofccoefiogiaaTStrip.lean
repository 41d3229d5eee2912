/- Trees that are the same but for places; a row of nodes that grows in a variable. -/
import Derived.Test.YthofccoefiogiaaTWorks
namespace Go.Proofs.Ythofccoefiogiaa
open Go Go.RowKit
set_option linter.unusedVariables false
set_option linter.unusedSimpArgs false
theorem infoNode : (Try.prog.info? 73).map (fun i => (i.zero, i.size, i.bytes)) = some (some (.agg #[.int .u8 0, .int .i64 0, .string ⟨#[]⟩, .int .i64 0, .slice none 0 0]), 5, 64) := by kernel_rfl
def strip (x : NodeM) : NodeM := { x with pos := 0 }
theorem ksOf_strip (l : List NodeM) : ksOf (l.map strip) = ksOf l := by unfold ksOf; rw [List.map_map]; rfl
theorem kdOf_strip (l : List NodeM) : kdOf (l.map strip) = kdOf l := by unfold kdOf; rw [List.map_map]; rfl
theorem kindAt_strip (l : List NodeM) (k : Int) : kindAt (l.map strip) k = kindAt l k := by
  unfold kindAt
  rw [List.getElem?_map]
  cases l[k.toNat]? <;> rfl
theorem kindsOf_strip (l : List NodeM) (ks : List Int) : kindsOf (l.map strip) ks = kindsOf l ks := by
  unfold kindsOf
  apply List.map_congr_left
  intro k _
  exact kindAt_strip l k
theorem fitsM_strip (l : List NodeM) (x : NodeM) : fitsM (l.map strip) (strip x) = fitsM l x := by
  unfold fitsM
  rw [kindsOf_strip]
  rfl
theorem rightN_strip (l : List NodeM) : rightN (l.map strip) = rightN l := by
  unfold rightN
  rw [ksOf_strip, kindAt_strip, List.all_map]
  rw [show (fitsM (l.map strip) ∘ strip) = fitsM l from funext (fitsM_strip l)]
theorem strip_right {l l' : List NodeM} (h : l'.map strip = l.map strip) : rightN l' = rightN l := by rw [← rightN_strip l', h, rightN_strip]
theorem strip_len {l l' : List NodeM} (h : l'.map strip = l.map strip) : l'.length = l.length := by
  have := congrArg List.length h
  simpa using this
theorem strip_deep {l l' : List NodeM} (h : l'.map strip = l.map strip) : deepM l' = deepM l := by
  unfold deepM
  rw [strip_right h, ← kdOf_strip l', ← ksOf_strip l', h, kdOf_strip, ksOf_strip]
theorem strip_size {l l' : List NodeM} (h : l'.map strip = l.map strip) (i : Int) : sizeM l' i = sizeM l i := by
  unfold sizeM
  rw [strip_right h, strip_len h, ← ksOf_strip l', h, ksOf_strip]
theorem strip_at {l l' : List NodeM} (h : l'.map strip = l.map strip) (i : Nat) (h1 : i < l'.length) (h2 : i < l.length) : strip l'[i] = strip l[i] := by
  have := congrArg (fun m => m[i]?) h
  simpa [h1, h2] using this
theorem sameNode_strip {x y : NodeM} (h : strip x = strip y) : sameNode x y = true := by
  obtain ⟨a, b, c, d, e, f, g⟩ := x
  obtain ⟨a', b', c', d', e', f', g'⟩ := y
  unfold strip at h
  simp only [NodeM.mk.injEq] at h
  obtain ⟨rfl, _, rfl, rfl, rfl, rfl, rfl⟩ := h
  unfold sameNode
  simp
theorem strip_same {l l' : List NodeM} (h : l'.map strip = l.map strip) : sameM l l' = true :=
  sameM_yes (strip_len h).symm (fun i h1 h2 => sameNode_strip (strip_at h i h2 h1).symm)
theorem same_self (l : List NodeM) : sameM l l = true := strip_same rfl
theorem strip_mem {l l' : List NodeM} (h : l'.map strip = l.map strip) : ∀ y ∈ l', ∃ x ∈ l, strip x = strip y := by
  intro y hy
  have h1 : strip y ∈ l'.map strip := List.mem_map_of_mem hy
  rw [h] at h1
  obtain ⟨x, hx, he⟩ := List.mem_map.1 h1
  exact ⟨x, hx, he⟩
theorem ok_strip {w : World} {x y : NodeM} (h : strip x = strip y) (hx : NodeOk w x) : NodeOk w y := by
  obtain ⟨a, b, c, d, e, f, g⟩ := x
  obtain ⟨a', b', c', d', e', f', g'⟩ := y
  unfold strip at h
  simp only [NodeM.mk.injEq] at h
  obtain ⟨rfl, _, rfl, rfl, rfl, rfl, rfl⟩ := h
  exact ⟨hx.kind, hx.num, hx.kids, hx.nil⟩
theorem sm_strip {x y : NodeM} (h : strip x = strip y) (hx : NodeSm x) : NodeSm y := by
  obtain ⟨a, b, c, d, e, f, g⟩ := x
  obtain ⟨a', b', c', d', e', f', g'⟩ := y
  unfold strip at h
  simp only [NodeM.mk.injEq] at h
  obtain ⟨rfl, _, rfl, rfl, rfl, rfl, rfl⟩ := h
  exact ⟨hx.text, hx.kids⟩
theorem strip_ok {w : World} {l l' : List NodeM} (h : l'.map strip = l.map strip) (ho : ∀ x ∈ l, NodeOk w x) : ∀ y ∈ l', NodeOk w y := by
  intro y hy
  obtain ⟨x, hx, he⟩ := strip_mem h y hy
  exact ok_strip he (ho x hx)
theorem strip_sm {l l' : List NodeM} (h : l'.map strip = l.map strip) (ho : ∀ x ∈ l, NodeSm x) : ∀ y ∈ l', NodeSm y := by
  intro y hy
  obtain ⟨x, hx, he⟩ := strip_mem h y hy
  exact sm_strip he (ho x hx)
/-- A row that grows, in a variable of a tree. -/
structure USt (w0 W : World) (g1 g2 gu : Nat) (v1 v2 : Value) (l lu : List NodeM) (k : Nat) (A : Option Addr) (c : Nat) : Prop where
  t1 : Blk W g1 62 #[v1]
  t2 : Blk W g2 62 #[v2]
  u : Blk W gu 62 #[.slice A k c]
  own : W.ownsRow w0.heap.size 73 5 (.slice A k c) k (trcells lu)
  ext : Ext w0 W
  low : w0.heap.size ≤ gu
  nil : A = none → c = 0
  len : lu.length = k
  same : lu.map strip = (l.take k).map strip
  d1 : g1 ≠ gu
  d2 : g2 ≠ gu
theorem USt.mono {w0 W W' : World} {g1 g2 gu : Nat} {v1 v2 : Value} {l lu : List NodeM} {k : Nat} {A : Option Addr} {c : Nat} (h : USt w0 W g1 g2 gu v1 v2 l lu k A c) (hx : Ext W W') : USt w0 W' g1 g2 gu v1 v2 l lu k A c :=
  ⟨h.t1.ext hx, h.t2.ext hx, h.u.ext hx, own_ext h.own hx, h.ext.trans hx, h.low, h.nil, h.len, h.same, h.d1, h.d2⟩
theorem USt.far {w0 W : World} {g1 g2 gu : Nat} {v1 v2 : Value} {l lu : List NodeM} {k : Nat} {A : Option Addr} {c : Nat} (h : USt w0 W g1 g2 gu v1 v2 l lu k A c) {p : Addr} (h1 : g1 ≠ p.block) (h2 : g2 ≠ p.block) (h3 : gu ≠ p.block) (h4 : (Value.slice A k c).ownBlock ≠ some p.block) (h5 : w0.heap.size ≤ p.block) (v : Value) :
    USt w0 (W.setCell p v) g1 g2 gu v1 v2 l lu k A c :=
  ⟨h.t1.far h1 v, h.t2.far h2 v, h.u.far h3 v, own_far h.own h4 v, h.ext.setCell h5 v, h.low, h.nil, h.len, h.same, h.d1, h.d2⟩
theorem own_cong5 {W : World} {b : Nat} {e : TypeId} {v : Value} {n m : Nat} {xs ys : List Value} (h : W.ownsRow b e 5 v n xs) (hn : n = m) (hx : xs = ys) : W.ownsRow b e 5 v m ys := by subst hn hx; exact h
theorem USt.step {w0 W W' : World} {g1 g2 gu : Nat} {v1 v2 : Value} {l lu : List NodeM} {k : Nat} {A A' : Option Addr} {c c' : Nat} {x : NodeM} (h : USt w0 W g1 g2 gu v1 v2 l lu k A c) (hk : k < l.length) (hx : strip x = strip l[k])
    (ho : W'.ownsRow w0.heap.size 73 5 (.slice A' (k + 1) c') (k + 1) (trcells lu ++ x.cells)) (hg : W.grownBy W' (Value.slice A k c).ownBlock) (hn : A' = none → c' = 0) :
    USt w0 (W'.setCell ⟨gu, 0, none⟩ (.slice A' (k + 1) c')) g1 g2 gu v1 v2 l (lu ++ [x]) (k + 1) A' c' := by
  have e1 : (Value.slice A k c).ownBlock ≠ some g1 := own_differ h.own h.t1 (by decide)
  have e2 : (Value.slice A k c).ownBlock ≠ some g2 := own_differ h.own h.t2 (by decide)
  have e3 : (Value.slice A k c).ownBlock ≠ some gu := own_differ h.own h.u (by decide)
  have t1 := h.t1.grown hg (Ne.symm e1)
  have t2 := h.t2.grown hg (Ne.symm e2)
  have u1 := h.u.grown hg (Ne.symm e3)
  refine ⟨t1.far h.d1 _, t2.far h.d2 _, u1.put 0 _, ?_, ?_, h.low, hn, by simp [h.len], ?_, h.d1, h.d2⟩
  · have e4 : (Value.slice A' (k + 1) c').ownBlock ≠ some gu := own_differ ho u1 (by decide)
    exact own_cong5 (own_far ho (p := ⟨gu, 0, none⟩) e4 _) rfl (trcells_snoc lu x).symm
  · have hb : Below w0.heap.size w0 W' := Below.grown h.ext hg h.ext.size (own_base h.own)
    exact hb.setCell (p := ⟨gu, 0, none⟩) h.low _
  · rw [List.map_append, h.same, List.take_succ_eq_append_getElem hk, List.map_append]
    simp [hx]
theorem USt.done {w0 W : World} {g1 g2 gu : Nat} {v1 v2 : Value} {l lu : List NodeM} {A B : Option Addr} {c : Nat} (h : USt w0 W g1 g2 gu v1 v2 l lu l.length A c) (ht : TreeM w0 B l) : lu.map strip = l.map strip ∧ TreeM W A lu := by
  have hs := h.same
  rw [List.take_length] at hs
  refine ⟨hs, ?_, strip_ok hs (fun x hx => (ht.ok x hx).ext h.ext)⟩
  have := h.own
  exact Cells.own this
end Go.Proofs.Ythofccoefiogiaa
