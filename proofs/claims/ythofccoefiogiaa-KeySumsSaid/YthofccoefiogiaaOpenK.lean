/- A kind by value, opened. No condition. -/
import Derived.Test.YthofccoefiogiaaOpen
import Derived.Test.YthofccoefiogiaaKey
import Derived.Test.YthofccoefiogiaaEvalB
namespace Go.Proofs.Ythofccoefiogiaa
open Go Go.RowKit Go.Deep Go.ChangeShapes Go.WideShapes
set_option linter.unusedVariables false
set_option linter.unusedSimpArgs false
section
variable {H : Type} {enc : TypeId × Value → H} {w : World} {base : Nat} {spare : Nat → Bool} {held : Bool}
def KindD.ok (t : KindD) : Prop := (0 ≤ t.1 ∧ t.1 < 256) ∧ (-9223372036854775808 ≤ t.2.1 ∧ t.2.1 ≤ 9223372036854775807) ∧ (-9223372036854775808 ≤ t.2.2 ∧ t.2.2 ≤ 9223372036854775807)
theorem open_kind_cells {n : Nat} {cs : List Value} {y : DataW H × List MemPlace} (hl : cs.length = 3) (h : DataW.trod enc Try.prog w base spare held n 23 cs = some y) :
    ∃ t : KindD, cs = [.int .u8 t.1, .int .i64 t.2.1, .int .i64 t.2.2] ∧ t.ok := by
  obtain ⟨m, hf⟩ := trod_fields Try.underlying23 (by kernel_rfl) h hl
  obtain ⟨v0, z0, e0, t0⟩ := hf 0 _ rfl
  obtain ⟨v1, z1, e1, t1⟩ := hf 1 _ rfl
  obtain ⟨v2, z2, e2, t2⟩ := hf 2 _ rfl
  obtain ⟨x0, g0, _, b0⟩ := DataW.trod_int Try.underlying5 t0
  obtain ⟨x1, g1, _, b1⟩ := DataW.trod_int Try.underlying2 t1
  obtain ⟨x2, g2, _, b2⟩ := DataW.trod_int Try.underlying3 t2
  simp at g0 g1 g2
  subst g0 g1 g2
  match cs, hl with
  | [c0, c1, c2], _ =>
    simp at e0 e1 e2
    subst e0 e1 e2
    have := bounds_u8 b0
    exact ⟨(x0, x1, x2), rfl, ⟨this.1, by omega⟩, bounds_i64 b1, bounds_i64 b2⟩
set_option maxRecDepth 100000 in
theorem open_kind {r : Reach} {b0 : Nat} {v : Value} {d : DataW H} {p : List MemPlace} (hval : Value.okWide Try.prog w r b0 23 v) (hd : DataW.Trod enc Try.prog w base spare held 23 v d p) :
    ∃ t : KindD, v = t.val ∧ t.ok := by
  obtain ⟨cs, rfl, hcs⟩ := okWide_struct Try.underlying23 hval
  obtain ⟨m, hm⟩ := hd
  have h3 : Try.prog.cellsOf 23 = 3 := by kernel_rfl
  obtain ⟨t, ht, hok⟩ := open_kind_cells (cs := cs.toList) (by rw [Array.length_toList, hcs]; exact h3) hm
  refine ⟨t, ?_, hok⟩
  unfold KindD.val
  have : cs = #[.int .u8 t.1, .int .i64 t.2.1, .int .i64 t.2.2] := by
    apply Array.toList_inj.1; exact ht
  rw [this]
theorem open_kinds {a : Option Addr} {len cap : Nat} {d : DataW H} {p : List MemPlace} (h : DataW.Trod enc Try.prog w base spare held 52 (.slice a len cap) d p) :
    ∃ l : List KindD, len = l.length ∧ (a = none → cap = 0) ∧ Cells w a (tcells l) ∧ ∀ t ∈ l, KindD.ok t :=
  open_elems (fun t : KindD => [.int .u8 t.1, .int .i64 t.2.1, .int .i64 t.2.2]) KindD.ok 3 (by decide) (fun _ => rfl) Try.underlying52 (by kernel_rfl) (fun n cs y hl hy => open_kind_cells hl hy) h
end
end Go.Proofs.Ythofccoefiogiaa
