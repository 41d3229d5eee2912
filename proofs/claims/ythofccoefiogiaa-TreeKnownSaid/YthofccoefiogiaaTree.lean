/- Trees: as data, as cells; rows of nodes opened, their kids too. No condition. -/
import Derived.Test.YthofccoefiogiaaOpen
import Derived.Test.YthofccoefiogiaaTLaw
namespace Go.Proofs.Ythofccoefiogiaa
open Go Go.RowKit Go.Deep Go.ChangeShapes Go.WideShapes
set_option linter.unusedVariables false
set_option linter.unusedSimpArgs false
structure NodeM where
  kind : Int
  pos : Int
  text : ByteArray
  num : Int
  kA : Option Addr
  kc : Nat
  kids : List Int
def NodeM.cells (x : NodeM) : List Value := [.int .u8 x.kind, .int .i64 x.pos, .string x.text, .int .i64 x.num, .slice x.kA x.kids.length x.kc]
def kcells (l : List Int) : List Value := l.map (Value.int .i64)
structure NodeOk (w : World) (x : NodeM) : Prop where
  kind : 0 ≤ x.kind ∧ x.kind < 256
  num : -9223372036854775808 ≤ x.num ∧ x.num ≤ 9223372036854775807
  kids : Cells w x.kA (kcells x.kids)
  nil : x.kA = none → x.kc = 0
theorem NodeOk.ext {w w' : World} {x : NodeM} (h : NodeOk w x) (hx : Ext w w') : NodeOk w' x := ⟨h.kind, h.num, h.kids.ext hx, h.nil⟩
def trcells (l : List NodeM) : List Value := l.flatMap NodeM.cells
theorem trcells_len (l : List NodeM) : (trcells l).length = l.length * 5 := flat_len NodeM.cells 5 (fun _ => rfl) l
theorem trcells_at (l : List NodeM) (k j : Nat) (h : k < l.length) (hj : j < 5) : (trcells l)[k * 5 + j]? = (l[k].cells)[j]? := flat_at NodeM.cells 5 (fun _ => rfl) l k j h hj
theorem trcells_snoc (l : List NodeM) (x : NodeM) : trcells (l ++ [x]) = trcells l ++ x.cells := by unfold trcells; rw [List.flatMap_append]; simp
theorem kcells_len (l : List Int) : (kcells l).length = l.length := by simp [kcells]
theorem kcells_at (l : List Int) (k : Nat) (h : k < l.length) : (kcells l)[k]? = some (.int .i64 l[k]) := by simp [kcells, h]
/-- At A lies a row of these nodes, with their kids. -/
structure TreeM (w : World) (A : Option Addr) (l : List NodeM) : Prop where
  cells : Cells w A (trcells l)
  ok : ∀ x ∈ l, NodeOk w x
theorem TreeM.ext {w w' : World} {A : Option Addr} {l : List NodeM} (h : TreeM w A l) (hx : Ext w w') : TreeM w' A l := ⟨h.cells.ext hx, fun x hm => (h.ok x hm).ext hx⟩
/-- One node of a row: where it lies. -/
theorem TreeM.at_ {w : World} {A : Option Addr} {l : List NodeM} (h : TreeM w A l) (k : Nat) (hk : k < l.length) :
    ∃ b off, A = some ⟨b, off, none⟩ ∧ b < w.heap.size ∧ ∀ j, j < 5 → w.cell? ⟨b, off + k * 5 + j, none⟩ = (l[k].cells)[j]? := by
  obtain ⟨b, off, hA, hb, hcc⟩ := h.cells.at_ (by rw [trcells_len]; omega)
  refine ⟨b, off, hA, hb, fun j hj => ?_⟩
  rw [Nat.add_assoc, hcc _ (by rw [trcells_len]; omega)]
  exact trcells_at l k j hk hj
theorem kids_at {w : World} {A : Option Addr} {l : List Int} (h : Cells w A (kcells l)) (k : Nat) (hk : k < l.length) : ∃ b off, A = some ⟨b, off, none⟩ ∧ b < w.heap.size ∧ w.cell? ⟨b, off + k, none⟩ = some (.int .i64 l[k]) := by
  obtain ⟨b, off, hA, hb, hcc⟩ := h.at_ (by rw [kcells_len]; omega)
  exact ⟨b, off, hA, hb, (hcc k (by rw [kcells_len]; exact hk)).trans (kcells_at l k hk)⟩
theorem bnd_u8 {x : Int} (h : (Lit.int .u8 x).wf = true) : 0 ≤ x ∧ x < 256 := by
  simp [Lit.wf, IntKind.min, IntKind.max, IntKind.signed, IntKind.bits] at h
  omega
theorem bnd_i64 {x : Int} (h : (Lit.int .i64 x).wf = true) : -9223372036854775808 ≤ x ∧ x ≤ 9223372036854775807 := by
  simp [Lit.wf, IntKind.min, IntKind.max, IntKind.signed, IntKind.bits] at h
  omega
section
variable {H : Type} {enc : TypeId × Value → H} {w : World} {base : Nat} {spare : Nat → Bool} {held : Bool}
theorem headI_of {t e : TypeId} {n : Nat} {v : Value} {x : DataW H × List MemPlace} (ht : Try.prog.underlying t = some (.slice e)) (h : DataW.trod enc Try.prog w base spare held n t [v] = some x) : ∃ (A : Option Addr) (len cap : Nat), v = .slice A len cap := by
  rcases DataW.trod_slice ht h with ⟨h1, _⟩ | ⟨a, len, cap, _, _, _, _, h1, _⟩
  · injection h1 with h1; exact ⟨none, 0, 0, h1⟩
  · injection h1 with h1; exact ⟨some a, len, cap, h1⟩
theorem open_node {n : Nat} {cs : List Value} {y : DataW H × List MemPlace} (hl : cs.length = 5) (h : DataW.trod enc Try.prog w base spare held n 73 cs = some y) :
    ∃ x : NodeM, cs = x.cells ∧ NodeOk w x := by
  obtain ⟨m, hf⟩ := trod_fields Try.underlying73 (by kernel_rfl) h hl
  match cs, hl with
  | [v0, v1, v2, v3, v4], _ =>
    obtain ⟨u0, z0, e0, t0⟩ := hf 0 _ rfl
    obtain ⟨u1, z1, e1, t1⟩ := hf 1 _ rfl
    obtain ⟨u2, z2, e2, t2⟩ := hf 2 _ rfl
    obtain ⟨u3, z3, e3, t3⟩ := hf 3 _ rfl
    obtain ⟨u4, z4, e4, t4⟩ := hf 4 _ rfl
    simp only [List.getElem?_cons_zero, List.getElem?_cons_succ, Option.some.injEq] at e0 e1 e2 e3 e4
    subst e0 e1 e2 e3 e4
    obtain ⟨x0, g0, _, b0⟩ := DataW.trod_int Try.underlying5 t0
    obtain ⟨x1, g1, _, b1⟩ := DataW.trod_int Try.underlying3 t1
    obtain ⟨x2, g2, _, b2⟩ := DataW.trod_string Try.underlying9 t2
    obtain ⟨x3, g3, _, b3⟩ := DataW.trod_int Try.underlying2 t3
    obtain ⟨A, len, cap, g4⟩ := headI_of Try.underlying29 t4
    injection g0 with g0; injection g1 with g1; injection g2 with g2; injection g3 with g3
    subst g0 g1 g2 g3 g4
    obtain ⟨l, hlen, hz, hc, _⟩ := open_nums (k := .i64) Try.underlying29 Try.underlying3 (by kernel_rfl) (w := w) (enc := enc) (base := base) (spare := spare) (held := held) (d := z4.1) (p := z4.2) ⟨m, t4⟩
    subst hlen
    exact ⟨⟨x0, x1, x2, x3, A, cap, l⟩, rfl, bnd_u8 b0, bnd_i64 b3, hc, hz⟩
theorem open_nodes {a : Option Addr} {len cap : Nat} {d : DataW H} {p : List MemPlace} (h : DataW.Trod enc Try.prog w base spare held 60 (.slice a len cap) d p) :
    ∃ l : List NodeM, len = l.length ∧ (a = none → cap = 0) ∧ TreeM w a l := by
  obtain ⟨l, h1, h2, h3, h4⟩ := open_elems NodeM.cells (NodeOk w) 5 (by decide) (fun _ => rfl) Try.underlying60 (by kernel_rfl) (fun n cs y hl hy => open_node hl hy) h
  exact ⟨l, h1, h2, h3, h4⟩
set_option maxRecDepth 100000 in
theorem open_tree {r : Reach} {b0 : Nat} {v : Value} {d : DataW H} {p : List MemPlace} (hval : Value.okWide Try.prog w r b0 62 v) (hd : DataW.Trod enc Try.prog w base spare held 62 v d p) :
    ∃ (A : Option Addr) (cap : Nat) (l : List NodeM), v = .agg #[.slice A l.length cap] ∧ (A = none → cap = 0) ∧ TreeM w A l := by
  obtain ⟨cs, rfl, hcs⟩ := okWide_struct Try.underlying62 hval
  obtain ⟨m, hm⟩ := hd
  have h1 : Try.prog.cellsOf 62 = 1 := by kernel_rfl
  have hl : cs.toList.length = 1 := by rw [Array.length_toList, hcs]; exact h1
  obtain ⟨m', hf⟩ := trod_fields Try.underlying62 (by kernel_rfl) hm hl
  obtain ⟨v0, z0, e0, t0⟩ := hf 0 _ rfl
  obtain ⟨A, len, cap, rfl⟩ := headI_of Try.underlying60 t0
  obtain ⟨l, hlen, hz, ht⟩ := open_nodes (enc := enc) (base := base) (spare := spare) (held := held) (d := z0.1) (p := z0.2) ⟨m', t0⟩
  subst hlen
  refine ⟨A, cap, l, ?_, hz, ht⟩
  have : cs = #[.slice A l.length cap] := by
    apply Array.toList_inj.1
    match hcl : cs.toList, hl with
    | [c], _ =>
      have e0' : (Value.agg cs).cells.toList[0]? = some (.slice A l.length cap) := e0
      simp only [Value.cells] at e0'
      rw [hcl] at e0'
      simp at e0'
      rw [e0']
  rw [this]
end
end Go.Proofs.Ythofccoefiogiaa
