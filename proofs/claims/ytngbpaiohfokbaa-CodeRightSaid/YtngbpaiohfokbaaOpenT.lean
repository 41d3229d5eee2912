/- Arguments opened: rows of terms. No condition. -/
import Derived.Test.YtngbpaiohfokbaaOpen
import Derived.Test.YtngbpaiohfokbaaEvalB
namespace Go.Proofs.Ytngbpaiohfokbaa
open Go Go.RowKit Go.Deep Go.ChangeShapes Go.WideShapes
set_option linter.unusedVariables false
set_option linter.unusedSimpArgs false
section
variable {H : Type} {enc : TypeId × Value → H} {w : World} {base : Nat} {spare : Nat → Bool} {held : Bool}
theorem open_term {n : Nat} {cs : List Value} {y : DataW H × List MemPlace} (hl : cs.length = 3) (h : DataW.trod enc Try.prog w base spare held n 71 cs = some y) :
    ∃ t : TermD, cs = [.int .u8 t.1, .int .i64 t.2.1, .int .i64 t.2.2] ∧ t.ok := by
  obtain ⟨m, hf⟩ := trod_fields Try.underlying71 (by kernel_rfl) h hl
  obtain ⟨v0, z0, e0, t0⟩ := hf 0 _ rfl
  obtain ⟨v1, z1, e1, t1⟩ := hf 1 _ rfl
  obtain ⟨v2, z2, e2, t2⟩ := hf 2 _ rfl
  obtain ⟨x0, g0, _, b0⟩ := DataW.trod_int Try.underlying5 t0
  obtain ⟨x1, g1, _, b1⟩ := DataW.trod_int Try.underlying2 t1
  obtain ⟨x2, g2, _, b2⟩ := DataW.trod_int Try.underlying3 t2
  simp at g0 g1 g2
  subst g0 g1 g2
  match cs, hl with
  | [c0, c1, c2], _ =>
    simp at e0 e1 e2
    subst e0 e1 e2
    have := bounds_u8 b0
    exact ⟨(x0, x1, x2), rfl, ⟨this.1, by omega⟩, bounds_i64 b1, bounds_i64 b2⟩
theorem open_terms {a : Option Addr} {len cap : Nat} {d : DataW H} {p : List MemPlace} (h : DataW.Trod enc Try.prog w base spare held 46 (.slice a len cap) d p) :
    ∃ l : List TermD, len = l.length ∧ (a = none → cap = 0) ∧ Cells w a (tcells l) ∧ ∀ t ∈ l, t.ok :=
  open_elems (fun t : TermD => [.int .u8 t.1, .int .i64 t.2.1, .int .i64 t.2.2]) TermD.ok 3 (by decide) (fun _ => rfl) Try.underlying46 (by kernel_rfl) (fun n cs y hl hy => open_term hl hy) h
end
end Go.Proofs.Ytngbpaiohfokbaa
