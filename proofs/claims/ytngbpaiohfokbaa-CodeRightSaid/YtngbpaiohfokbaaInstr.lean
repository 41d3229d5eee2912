/- Instructions: as data, as cells; rows of them opened (their keys and values as heads of slices alone). No condition. -/
import Derived.Test.YtngbpaiohfokbaaOpen
namespace Go.Proofs.Ytngbpaiohfokbaa
open Go Go.RowKit Go.Deep Go.ChangeShapes Go.WideShapes
set_option linter.unusedVariables false
set_option linter.unusedSimpArgs false
abbrev HeadD := Option Addr × Nat × Nat
structure InstrD where
  op : Int
  node : Int
  mode : Int
  table : Int
  row : Bool
  col : Int
  var : Int
  goes : Int
  eq : Bool
  frm : Int
  upto : Int
  key : HeadD
  vals : HeadD
def InstrD.cells (x : InstrD) : List Value := [.int .u8 x.op, .int .i64 x.node, .int .u8 x.mode, .int .i64 x.table, .bool x.row, .int .i64 x.col, .int .i64 x.var, .int .i64 x.goes, .bool x.eq, .int .i64 x.frm, .int .i64 x.upto, .slice x.key.1 x.key.2.1 x.key.2.2, .slice x.vals.1 x.vals.2.1 x.vals.2.2]
def InstrD.ok (x : InstrD) : Prop := (0 ≤ x.op ∧ x.op < 256) ∧ (-9223372036854775808 ≤ x.goes ∧ x.goes ≤ 9223372036854775807)
def icells (l : List InstrD) : List Value := l.flatMap InstrD.cells
theorem icells_len (l : List InstrD) : (icells l).length = l.length * 13 := flat_len InstrD.cells 13 (fun _ => rfl) l
theorem icells_at (l : List InstrD) (k j : Nat) (h : k < l.length) (hj : j < 13) : (icells l)[k * 13 + j]? = (l[k].cells)[j]? := flat_at InstrD.cells 13 (fun _ => rfl) l k j h hj
section
variable {H : Type} {enc : TypeId × Value → H} {w : World} {base : Nat} {spare : Nat → Bool} {held : Bool}
theorem head_of {t e : TypeId} {n : Nat} {v : Value} {x : DataW H × List MemPlace} (ht : Try.prog.underlying t = some (.slice e)) (h : DataW.trod enc Try.prog w base spare held n t [v] = some x) : ∃ a : HeadD, v = .slice a.1 a.2.1 a.2.2 := by
  rcases DataW.trod_slice ht h with ⟨h1, _⟩ | ⟨a, len, cap, _, _, _, _, h1, _⟩
  · injection h1 with h1; exact ⟨(none, 0, 0), h1⟩
  · injection h1 with h1; exact ⟨(some a, len, cap), h1⟩
theorem open_instr {n : Nat} {cs : List Value} {y : DataW H × List MemPlace} (hl : cs.length = 13) (h : DataW.trod enc Try.prog w base spare held n 49 cs = some y) :
    ∃ x : InstrD, cs = x.cells ∧ x.ok := by
  obtain ⟨m, hf⟩ := trod_fields Try.underlying49 (by kernel_rfl) h hl
  match cs, hl with
  | [v0, v1, v2, v3, v4, v5, v6, v7, v8, v9, v10, v11, v12], _ =>
    obtain ⟨u0, z0, e0, t0⟩ := hf 0 _ rfl
    obtain ⟨u1, z1, e1, t1⟩ := hf 1 _ rfl
    obtain ⟨u2, z2, e2, t2⟩ := hf 2 _ rfl
    obtain ⟨u3, z3, e3, t3⟩ := hf 3 _ rfl
    obtain ⟨u4, z4, e4, t4⟩ := hf 4 _ rfl
    obtain ⟨u5, z5, e5, t5⟩ := hf 5 _ rfl
    obtain ⟨u6, z6, e6, t6⟩ := hf 6 _ rfl
    obtain ⟨u7, z7, e7, t7⟩ := hf 7 _ rfl
    obtain ⟨u8, z8, e8, t8⟩ := hf 8 _ rfl
    obtain ⟨u9, z9, e9, t9⟩ := hf 9 _ rfl
    obtain ⟨u10, z10, e10, t10⟩ := hf 10 _ rfl
    obtain ⟨u11, z11, e11, t11⟩ := hf 11 _ rfl
    obtain ⟨u12, z12, e12, t12⟩ := hf 12 _ rfl
    simp only [List.getElem?_cons_zero, List.getElem?_cons_succ, Option.some.injEq] at e0 e1 e2 e3 e4 e5 e6 e7 e8 e9 e10 e11 e12
    subst e0 e1 e2 e3 e4 e5 e6 e7 e8 e9 e10 e11 e12
    obtain ⟨x0, g0, _, b0⟩ := DataW.trod_int Try.underlying5 t0
    obtain ⟨x1, g1, _, b1⟩ := DataW.trod_int Try.underlying3 t1
    obtain ⟨x2, g2, _, b2⟩ := DataW.trod_int Try.underlying45 t2
    obtain ⟨x3, g3, _, b3⟩ := DataW.trod_int Try.underlying3 t3
    obtain ⟨x4, g4, _⟩ := DataW.trod_bool Try.underlying4 t4
    obtain ⟨x5, g5, _, b5⟩ := DataW.trod_int Try.underlying3 t5
    obtain ⟨x6, g6, _, b6⟩ := DataW.trod_int Try.underlying3 t6
    obtain ⟨x7, g7, _, b7⟩ := DataW.trod_int Try.underlying3 t7
    obtain ⟨x8, g8, _⟩ := DataW.trod_bool Try.underlying4 t8
    obtain ⟨x9, g9, _, b9⟩ := DataW.trod_int Try.underlying2 t9
    obtain ⟨x10, g10, _, b10⟩ := DataW.trod_int Try.underlying2 t10
    obtain ⟨x11, g11⟩ := head_of Try.underlying46 t11
    obtain ⟨x12, g12⟩ := head_of Try.underlying47 t12
    injection g0 with g0; injection g1 with g1; injection g2 with g2; injection g3 with g3; injection g4 with g4; injection g5 with g5; injection g6 with g6; injection g7 with g7; injection g8 with g8; injection g9 with g9; injection g10 with g10
    subst g0 g1 g2 g3 g4 g5 g6 g7 g8 g9 g10 g11 g12
    have := bounds_u8 b0
    exact ⟨⟨x0, x1, x2, x3, x4, x5, x6, x7, x8, x9, x10, x11, x12⟩, rfl, ⟨this.1, by simp only; omega⟩, bounds_i64 b7⟩
theorem open_instrs {a : Option Addr} {len cap : Nat} {d : DataW H} {p : List MemPlace} (h : DataW.Trod enc Try.prog w base spare held 22 (.slice a len cap) d p) :
    ∃ l : List InstrD, len = l.length ∧ (a = none → cap = 0) ∧ Cells w a (icells l) ∧ ∀ x ∈ l, x.ok :=
  open_elems InstrD.cells InstrD.ok 13 (by decide) (fun _ => rfl) Try.underlying22 (by kernel_rfl) (fun n cs y hl hy => open_instr hl hy) h
end
end Go.Proofs.Ytngbpaiohfokbaa
