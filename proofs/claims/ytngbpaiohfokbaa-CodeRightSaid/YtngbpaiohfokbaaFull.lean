/- Instructions with all that hangs on them: their keys' terms, their values' terms; how they read in a world; rows of them. No condition. -/
import Derived.Test.YtngbpaiohfokbaaRefW
import Derived.Test.YtngbpaiohfokbaaRowG
namespace Go.Proofs.Ytngbpaiohfokbaa
open Go Go.RowKit
set_option linter.unusedVariables false
set_option linter.unusedSimpArgs false
def hd (h : HeadD) : Value := .slice h.1 h.2.1 h.2.2
structure FullI where
  x : InstrD
  kt : List TermD
  vp : List (HeadD × List TermD)
def pcells (l : List (HeadD × List TermD)) : List Value := l.map fun p => hd p.1
theorem pcells_len (l : List (HeadD × List TermD)) : (pcells l).length = l.length := by simp [pcells]
theorem pcells_at (l : List (HeadD × List TermD)) (i : Nat) (h : i < l.length) : (pcells l)[i]? = some (hd l[i].1) := by simp [pcells, h]
theorem pcells_snoc (l : List (HeadD × List TermD)) (p : HeadD × List TermD) : pcells (l ++ [p]) = pcells l ++ [hd p.1] := by simp [pcells]
/-- A head and the terms that it shows. -/
def Shows (w : World) (h : HeadD) (ts : List TermD) : Prop := h.2.1 = ts.length ∧ (h.1 = none → h.2.2 = 0) ∧ Cells w h.1 (tcells ts)
theorem Shows.ext {w w' : World} {h : HeadD} {ts : List TermD} (s : Shows w h ts) (hx : Ext w w') : Shows w' h ts := ⟨s.1, s.2.1, s.2.2.ext hx⟩
structure FullI.At (f : FullI) (w : World) : Prop where
  key : Shows w f.x.key f.kt
  vn : f.x.vals.2.1 = f.vp.length
  vz : f.x.vals.1 = none → f.x.vals.2.2 = 0
  vals : Cells w f.x.vals.1 (pcells f.vp)
  each : ∀ p ∈ f.vp, Shows w p.1 p.2
theorem FullI.At.ext {f : FullI} {w w' : World} (h : f.At w) (hx : Ext w w') : f.At w' :=
  ⟨h.key.ext hx, h.vn, h.vz, h.vals.ext hx, fun p hp => (h.each p hp).ext hx⟩
def bareD (x : InstrD) : InstrD := { x with key := (none, 0, 0), vals := (none, 0, 0) }
/-- Its content: wherever its rows lie. -/
def FullI.con (f : FullI) : InstrD × List TermD × List (List TermD) := (bareD f.x, f.kt, f.vp.map Prod.snd)
def FullI.fits (f : FullI) : Prop := f.kt.length * 24 ≤ 140737488355000 ∧ f.vp.length * 24 ≤ 140737488355000 ∧ ∀ p ∈ f.vp, p.2.length * 24 ≤ 140737488355000
theorem fits_con {f g : FullI} (h : f.con = g.con) (hf : f.fits) : g.fits := by
  simp only [FullI.con, Prod.mk.injEq] at h
  obtain ⟨_, h2, h3⟩ := h
  have hl : f.vp.length = g.vp.length := by have := congrArg List.length h3; simpa using this
  refine ⟨by rw [← h2]; exact hf.1, by rw [← hl]; exact hf.2.1, fun p hp => ?_⟩
  have : p.2 ∈ g.vp.map Prod.snd := List.mem_map.2 ⟨p, hp, rfl⟩
  rw [← h3] at this
  obtain ⟨q, hq, e⟩ := List.mem_map.1 this
  rw [← e]
  exact hf.2.2 q hq
def fcells (l : List FullI) : List Value := icells (l.map FullI.x)
theorem fcells_len (l : List FullI) : (fcells l).length = l.length * 13 := by unfold fcells; rw [icells_len, List.length_map]
theorem fcells_at (l : List FullI) (k j : Nat) (h : k < l.length) (hj : j < 13) : (fcells l)[k * 13 + j]? = (l[k].x.cells)[j]? := by
  unfold fcells
  rw [icells_at _ k j (by simpa using h) hj]
  simp
theorem fcells_snoc (l : List FullI) (f : FullI) : fcells (l ++ [f]) = fcells l ++ f.x.cells := by
  unfold fcells icells
  simp
/-- A row of instructions, with all that hangs on them. -/
def Row (w : World) (A : Option Addr) (l : List FullI) : Prop := Cells w A (fcells l) ∧ ∀ f ∈ l, f.At w
theorem Row.ext {w w' : World} {A : Option Addr} {l : List FullI} (h : Row w A l) (hx : Ext w w') : Row w' A l := ⟨h.1.ext hx, fun f hf => (h.2 f hf).ext hx⟩
/-- A row of terms of the call's own. -/
def OwnT (N : Nat) (tt : TypeId) (t : List TermD) (v : Value) (w : World) : Prop := w.ownsRow N tt 3 v t.length (tcells t)
theorem OwnT.ext {N : Nat} {tt : TypeId} {t : List TermD} {v : Value} {w w' : World} (h : OwnT N tt t v w) (hx : Ext w w') : OwnT N tt t v w' := own_ext h hx
theorem OwnT.low {N M : Nat} {tt : TypeId} {t : List TermD} {v : Value} {w : World} (h : OwnT N tt t v w) (hx : M ≤ N) : OwnT M tt t v w := own_low h hx
theorem OwnT.shows {N : Nat} {tt : TypeId} {t : List TermD} {v : Value} {w : World} (h : OwnT N tt t v w) : ∃ a : HeadD, v = hd a ∧ Shows w a t := by
  obtain ⟨A, c, e, hz, hc⟩ := row_cells h
  exact ⟨(A, t.length, c), e, rfl, hz, hc⟩
theorem hd_inj {a b : HeadD} (h : hd a = hd b) : a = b := by
  obtain ⟨a, n, c⟩ := a
  obtain ⟨b, m, d⟩ := b
  simp only [hd, Value.slice.injEq] at h
  obtain ⟨rfl, rfl, rfl⟩ := h
  rfl
theorem OwnT.at {N : Nat} {tt : TypeId} {t : List TermD} {h : HeadD} {w : World} (ho : OwnT N tt t (hd h) w) : Shows w h t := by
  obtain ⟨a, e, hs⟩ := ho.shows
  rw [hd_inj e]
  exact hs
/-- A block of one type, a row of another: what befalls the block leaves the row. -/
theorem own_other {w w' : World} {N : Nat} {t t' : TypeId} {s n : Nat} {v : Value} {xs : List Value} (h : w.ownsRow N t s v n xs) (g : Nat) (cur : Array Value) (hg : w.heap[g]? = some (.cells cur t' (0, 0))) (ht : t ≠ t') (ho : ∀ k, k ≠ g → k < w.heap.size → w'.heap[k]? = w.heap[k]?) : w'.ownsRow N t s v n xs := by
  refine ⟨h.1, ?_⟩
  rcases h.2 with hn | ⟨g', cap, cur', hv, hb, hh, r⟩
  · exact .inl hn
  · refine .inr ⟨g', cap, cur', hv, hb, ?_, r⟩
    rw [ho g' (fun e => ?_) (Array.getElem?_eq_some_iff.1 hh).1]
    · exact hh
    · subst e
      rw [hg] at hh
      injection hh with hh
      injection hh with _ he
      exact ht he.symm
/-- Two rows of the call's own whose elements are of two types: what befalls the one leaves the other. -/
theorem own_apart {w w' : World} {b1 b2 : Nat} {t1 t2 : TypeId} {s1 s2 n1 n2 : Nat} {v1 v2 : Value} {xs1 xs2 : List Value} (h1 : w.ownsRow b1 t1 s1 v1 n1 xs1) (h2 : w.ownsRow b2 t2 s2 v2 n2 xs2) (ht : t1 ≠ t2) (hg : w.grownBy w' v2.ownBlock) : w'.ownsRow b1 t1 s1 v1 n1 xs1 := by
  refine h1.kept hg ?_
  rcases h1.2 with ⟨rfl, _⟩ | ⟨g1, c1, u1, rfl, _, hh1, _⟩
  · exact .inl rfl
  · refine .inr fun e => ?_
    rcases h2.2 with ⟨rfl, _⟩ | ⟨g2, c2, u2, rfl, _, hh2, _⟩
    · cases e
    · have : g1 = g2 := by simpa [Value.ownBlock] using e
      subst this
      rw [hh1] at hh2
      injection hh2 with hh2
      injection hh2 with _ he
      exact ht he
/-- What an instruction's rows are, where the call has made them. -/
structure FullI.Own (tt ts : TypeId) (B : Nat) (f : FullI) (w : World) : Prop where
  key : OwnT B tt f.kt (hd f.x.key) w
  vals : w.ownsRow B ts 1 (hd f.x.vals) f.vp.length (pcells f.vp)
  each : ∀ p ∈ f.vp, OwnT B tt p.2 (hd p.1) w
theorem FullI.Own.ext {tt ts : TypeId} {B : Nat} {f : FullI} {w w' : World} (h : f.Own tt ts B w) (hx : Ext w w') : f.Own tt ts B w' :=
  ⟨h.key.ext hx, own_ext h.vals hx, fun p hp => (h.each p hp).ext hx⟩
theorem FullI.Own.apart {tt ts : TypeId} {B : Nat} {f : FullI} {w w' : World} (h : f.Own tt ts B w) {b2 : Nat} {t2 : TypeId} {s2 n2 : Nat} {v2 : Value} {xs2 : List Value} (h2 : w.ownsRow b2 t2 s2 v2 n2 xs2) (h3 : tt ≠ t2) (h4 : ts ≠ t2) (hg : w.grownBy w' v2.ownBlock) : f.Own tt ts B w' :=
  ⟨own_apart h.key h2 h3 hg, own_apart h.vals h2 h4 hg, fun p hp => own_apart (h.each p hp) h2 h3 hg⟩
theorem FullI.Own.at {tt ts : TypeId} {B : Nat} {f : FullI} {w : World} (h : f.Own tt ts B w) : f.At w := by
  obtain ⟨A, c, e, hz, hc⟩ := row_cells h.vals
  have e' : f.x.vals = (A, f.vp.length, c) := hd_inj e
  refine ⟨h.key.at, by rw [e'], fun h0 => ?_, by rw [e']; exact hc, fun p hp => (h.each p hp).at⟩
  rw [e'] at h0 ⊢
  exact hz h0
/-- The facts of a region that appends one head of terms onto a row of heads. -/
def OwnAll (N : Nat) (tt : TypeId) (ps : List (HeadD × List TermD)) (w : World) : Prop := ∀ p ∈ ps, OwnT N tt p.2 (hd p.1) w
def LitX (N : Nat) (tt e : TypeId) (t : List TermD) (v : Value) (w : World) : Prop := ∃ g x, v = .slice (some ⟨g, 0, none⟩) 1 1 ∧ Blk w g e #[x] ∧ OwnT N tt t x w
def SnocX (N : Nat) (tt e : TypeId) (j : Nat) (xs : List Value) (t : List TermD) (v : Value) (w : World) : Prop := ∃ x, RowG N e (j + 1) (xs ++ [x]) v w ∧ OwnT N tt t x w
def FsP (N : Nat) (tt e ti : TypeId) (gp : Nat) (mc : Array Value) (ps : List (HeadD × List TermD)) (j : Nat) (xs : List Value) (t : List TermD) : List (Value → World → Prop) :=
  [fun _ w => Blk w gp ti mc, fun _ w => OwnAll N tt ps w, RowG N e j xs, OwnT N tt t, LitX N tt e t, SnocX N tt e j xs t]
theorem FsP_ext (N : Nat) (tt e ti : TypeId) (gp : Nat) (mc : Array Value) (ps : List (HeadD × List TermD)) (j : Nat) (xs : List Value) (t : List TermD) : ∀ F ∈ FsP N tt e ti gp mc ps j xs t, ∀ v w w', F v w → Ext w w' → F v w' := by
  intro F hF v w w' h hx
  simp only [FsP, List.mem_cons, List.not_mem_nil, or_false] at hF
  rcases hF with rfl | rfl | rfl | rfl | rfl | rfl
  · exact Blk.ext h hx
  · exact fun p hp => (h p hp).ext hx
  · exact RowG.ext h hx
  · exact OwnT.ext h hx
  · obtain ⟨g, x, h1, h2, h3⟩ := h
    exact ⟨g, x, h1, h2.ext hx, h3.ext hx⟩
  · obtain ⟨x, h1, h2⟩ := h
    exact ⟨x, h1.ext hx, h2.ext hx⟩
theorem own_roomy {N g n m cap : Nat} {e tt : TypeId} {xs news : List Value} {w w' : World} {M s k : Nat} {v : Value} {ys : List Value} (hr : RoomyG N g n m cap e xs news w w') (h : w.ownsRow M tt s v k ys) (ht : tt ≠ e) : w'.ownsRow M tt s v k ys := by
  obtain ⟨cur, cur', h1, h2, _⟩ := hr.cells
  exact own_other h g cur h1 ht fun k hk _ => hr.other k hk
theorem FsP_room {N : Nat} {tt e ti : TypeId} {gp : Nat} {mc : Array Value} {ps : List (HeadD × List TermD)} {j : Nat} {xs : List Value} {t : List TermD} {w : World} {x0 : Value} (h1 : tt ≠ e) (h2 : ti ≠ e) (hx0 : OwnT N tt t x0 w) :
    ∀ g cap w', RoomyG N g j 1 cap e xs [x0] w w' → 0 < j → 0 < 1 → ∀ F ∈ FsP N tt e ti gp mc ps j xs t, ∀ v, F v w → F v w' := by
  intro g cap w' hr hj _ F hF v h
  simp only [FsP, List.mem_cons, List.not_mem_nil, or_false] at hF
  rcases hF with rfl | rfl | rfl | rfl | rfl | rfl
  · by_cases hg : gp = g
    · subst hg
      obtain ⟨cur, cur', a1, a2, _⟩ := hr.cells
      unfold Blk at h
      rw [h] at a1
      injection a1 with a1
      injection a1 with _ a1
      exact absurd a1 h2
    · exact (hr.other gp hg).trans h
  · exact fun p hp => own_roomy hr (h p hp) h1
  · exact RowG.roomy hr h (.inl (Nat.le_refl _))
  · exact own_roomy hr h h1
  · obtain ⟨g', x, rfl, hb, ho⟩ := h
    have hl : LitG e 1 #[x] (.slice (some ⟨g', 0, none⟩) 1 1) w := ⟨g', rfl, hb⟩
    obtain ⟨g2, e2, hb2⟩ := LitG.roomy hr hl (by simp; omega)
    injection e2 with e2
    injection e2 with e2
    injection e2 with e2
    subst e2
    exact ⟨g', x, rfl, hb2, own_roomy hr ho h1⟩
  · obtain ⟨x, hrow, ho⟩ := h
    have key : RowG N e (j + 1) (xs ++ [x]) v w' ∨ RowG N e (j + 1) (xs ++ [x0]) v w' := by
      rcases hrow.1.2 with hn | ⟨g', cap', cur0, hv, hb, hh, a1, a2, a3, a4⟩
      · exact .inl ⟨⟨hrow.1.1, .inl hn⟩, hrow.2⟩
      · by_cases hg : g' = g
        · subst hg
          obtain ⟨cur, cur', b1, b2, b3, b4, b5, b6⟩ := hr.cells
          rw [hh] at b1
          injection b1 with b1
          injection b1 with b1
          subst b1
          refine .inr ⟨⟨by have := hrow.1.1; simp at this ⊢; omega, .inr ⟨g', cap', cur', hv, hb, b2, a1, a2, by omega, b6⟩⟩, hrow.2⟩
        · exact .inl ⟨⟨hrow.1.1, .inr ⟨g', cap', cur0, hv, hb, (hr.other g' hg).trans hh, a1, a2, a3, a4⟩⟩, hrow.2⟩
    rcases key with key | key
    · exact ⟨x, key, own_roomy hr ho h1⟩
    · exact ⟨x0, key, own_roomy hr hx0 h1⟩
theorem region_keeps {P : Program} {id : Nat} {Q' : Exit → Act → World → Prop} {a : Act} {w : World} {l : List Oper} {ks : List Take} (N : Nat) (Fs : List (Value → World → Prop)) (m : Nat) (hm : P.follows .mixedOrders = true) (hB : factsB l.toArray m = true) (hT : tailB l.toArray m = true)
    (hE : ∀ F ∈ Fs, ∀ v w w', F v w → Ext w w' → F v w') (hN : N ≤ w.heap.size)
    (h : WalkF P l.toArray (Keeps N Fs) w (fun a' w' => wpList P l.toArray Q' (l.drop m) a' w') (l.take m) ks a []) : (Code.region id l.toArray true).wp P Q' a w :=
  wp_region_facts (R := Keeps N Fs) m ks hm hB hT (fun _ _ _ => Keeps.trans _ _ _) (Keeps.ext hE hN (Below.drew (Below.refl _ _))) h
theorem keeps_self {N : Nat} {Fs : List (Value → World → Prop)} {w0 w : World} (h : Keeps N Fs w0 w) : Keeps N Fs w w := ⟨Below.refl _ _, Nat.le_trans h.2.1 h.1.size, fun F hF v hv => hv⟩
theorem keeps_big {N : Nat} {Fs : List (Value → World → Prop)} {w0 w : World} (h : Keeps N Fs w0 w) : N ≤ w.heap.size := Nat.le_trans h.2.1 h.1.size
theorem RowG.form {N : Nat} {e : TypeId} {n : Nat} {xs : List Value} {v : Value} {w : World} (h : RowG N e n xs v w) : ∃ A c, v = .slice A n c := let ⟨A, c, a, _⟩ := h.2; ⟨A, c, a⟩
theorem own_big {w w' : World} {e : TypeId} {size : Nat} {v : Value} {n : Nat} {xs : List Value} (h : w'.ownsRow w.heap.size e size v n xs) {N : Nat} (hN : N ≤ w.heap.size) : w'.ownsRow N e size v n xs := own_low h hN
end Go.Proofs.Ytngbpaiohfokbaa
