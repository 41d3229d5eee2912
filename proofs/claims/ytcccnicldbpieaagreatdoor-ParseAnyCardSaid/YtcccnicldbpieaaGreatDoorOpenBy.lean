/- A slice of bytes opened. No condition. -/
import Derived.Test.YtcccnicldbpieaaGreatDoorOpen
import Derived.Test.YtcccnicldbpieaaGreatDoorLxA
namespace Go.Proofs.YtcccnicldbpieaaGreatDoor
open Go Go.RowKit Go.Deep Go.ChangeShapes Go.WideShapes
set_option linter.unusedVariables false
theorem bcells_bytesOf : ∀ (l : List Int), (∀ x ∈ l, 0 ≤ x ∧ x < 256) → bcells (Lib.bytesOf l) = l.map (Value.int .u8)
  | [], _ => rfl
  | x :: l, h => by
    have hx := h x (List.mem_cons_self ..)
    have ih := bcells_bytesOf l (fun y hy => h y (List.mem_cons_of_mem _ hy))
    unfold bcells Lib.bytesOf at *
    simp only [List.map_cons, List.map_map] at *
    rw [ih]
    congr 2
    simp
    omega
theorem u8_wf {x : Int} (h : (Lit.int .u8 x).wf = true) : 0 ≤ x ∧ x < 256 := by
  have h1 : IntKind.u8.min = 0 := rfl
  have h2 : IntKind.u8.max = 255 := rfl
  simp only [Lit.wf, Bool.and_eq_true, decide_eq_true_eq] at h
  omega
theorem open_bytes {H : Type} {enc : TypeId × Value → H} {w : World} {base : Nat} {spare : Nat → Bool} {held : Bool} {a : Option Addr} {len cap : Nat} {d : DataW H} {p : List MemPlace} (h : DataW.Trod enc Tryz.prog w base spare held 22 (.slice a len cap) d p) :
    ∃ l : Bs, len = l.length ∧ (a = none → cap = 0) ∧ Cells w a (bcells l) ∧ len ≤ cap := by
  obtain ⟨l, h1, h2, h3, h4⟩ := open_nums (k := .u8) Tryz.underlying22 Tryz.underlying5 (by kernel_rfl) h
  have hb : ∀ x ∈ l, 0 ≤ x ∧ x < 256 := fun x hx => u8_wf (h4 x hx)
  refine ⟨Lib.bytesOf l, by unfold Lib.bytesOf; simpa using h1, h2, by rw [bcells_bytesOf l hb]; exact h3, ?_⟩
  obtain ⟨fuel, hfu⟩ := h
  rcases DataW.trod_slice Tryz.underlying22 hfu with ⟨hcs, _⟩ | ⟨a', len', cap', _, _, _, _, hcs, _, _, hle, _⟩
  · simp [Value.cells] at hcs
    omega
  · simp [Value.cells] at hcs
    omega
end Go.Proofs.YtcccnicldbpieaaGreatDoor
