/- What the four listed variables of DiagNew give: errors.errorType's one cell, internal/strconv.uint64pow10's table; a world that meets the condition. No condition. -/
import Derived.Test.YtjjeebocebhhaaaDoorDoor
import Derived.Test.YtjjeebocebhhaaaDoorDgN
import Derived.Lib.LaidTab
import Derived.Stop.LaidErr
import Derived.Deep.DeepLaidRun
namespace Go.Proofs.YtjjeebocebhhaaaDoor
open Go.ChangeShapes Go.WideShapes Go.RowKit
set_option linter.unusedVariables false
def laidDn : List (String × DataW Unit) := [("math/bits.deBruijn32tab", Rows.laid_math_bits_deBruijn32tab), ("math/bits.deBruijn64tab", Rows.laid_math_bits_deBruijn64tab), ("internal/strconv.uint64pow10", Rows.laid_internal_strconv_uint64pow10), ("errors.errorType", Rows.laid_errors_errorType)]
theorem met_parts {W : World} (h : laidMetH Tryd.prog laidDn W) : laidMet Tryd.prog [("math/bits.deBruijn32tab", Rows.laid_math_bits_deBruijn32tab), ("math/bits.deBruijn64tab", Rows.laid_math_bits_deBruijn64tab), ("internal/strconv.uint64pow10", Rows.laid_internal_strconv_uint64pow10)] W ∧ handlesMet Tryd.prog laidEt W := h
theorem gt_of_dn {W : World} (h : laidMetH Tryd.prog laidDn W) : GT W :=
  gt_of_laid (show laidMet Tryd.prog [] W ∧ handlesMet Tryd.prog laidEt W from ⟨laidMet_nil _ _, (met_parts h).2⟩)
theorem pow10_data : (Rows.laid_internal_strconv_uint64pow10 : DataW Unit) = Lib.tabData .u64 Lib.pow10Tab := by kernel_rfl
theorem pw_of_dn {W : World} (h : laidMetH Tryd.prog laidDn W) : PW W := by
  have h1 := (met_parts h).1.tail.tail
  rw [pow10_data] at h1
  exact Lib.tabIs_of_head (g := 2) (t := 128) (e := 119) (n := 20) (by kernel_rfl) (by kernel_rfl) (by kernel_rfl) (by kernel_rfl) (by kernel_rfl) (by kernel_rfl) h1
def tabCells : DataW Unit → Array Value
  | .agg l => (l.map fun d => match d with | .lit (.int k z) => Value.int k z | _ => .nilIface).toArray
  | _ => #[]
def laidCells (cs' : Array Value) : Obj → Obj
  | .cells _ t fr => .cells cs' t fr
  | o => o
/-- A world that meets the condition: the settled one, the four variables' cells laid. -/
noncomputable def laidWorldN (os : Os) : World :=
  let w0 := World.holding Tryd.prog os ⟨#[], #[], []⟩
  let g := fun s => (Tryd.prog.globalNamed s).getD 0
  { w0 with heap := (((w0.heap.modify (g "math/bits.deBruijn32tab") (laidCells (tabCells Rows.laid_math_bits_deBruijn32tab))).modify (g "math/bits.deBruijn64tab") (laidCells (tabCells Rows.laid_math_bits_deBruijn64tab))).modify (g "internal/strconv.uint64pow10") (laidCells (tabCells Rows.laid_internal_strconv_uint64pow10))).modify 0 (laidCells #[.iface 102 (.agg #[.pointer (some ⟨5, 27, none⟩)])]) }
theorem laidWorldN_met (os : Os) (args : Array Value) : laidMetH Tryd.prog laidDn ((laidWorldN os).forCall (fun _ _ => 0) ⟨#[], args, []⟩).memory :=
  laidMetH_of_parts (laidMet_of_run3 100 (by kernel_rfl) (by kernel_rfl) (by kernel_rfl)) (by kernel_rfl)
end Go.Proofs.YtjjeebocebhhaaaDoor
