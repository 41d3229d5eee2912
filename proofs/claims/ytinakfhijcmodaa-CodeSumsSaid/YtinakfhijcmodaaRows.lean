/-
  No cell of these rows narrows 'for every input' (looked for: loops, veiled, ifaces, maps, wideKeys, modest, calm, conditions, laid).
  DERIVED. THE GIVEN ROWS OF THIS SEAT. 7 by the template 'for every input the law returns true; each argument reads behind the call as it read before'; 0 by the template 'total and deterministic' (their statements: YtinakfhijcmodaaTotals.lean).
  GIVEN WITH THE SEED: the statements are not yours to turn. If you find one false, say at which input.
  Laid BY PROGRAM, IN A SANDBOX (cutbox-rows.mjs): the forced cells as the released guide's own fill.sh prints them over the translation d9bc6bbd1c942b47… (all of the seat's roots in one cut). By AI agents, Wed Nov 11 2026. No macro, syntax, notation, axiom, sorry.
-/
import Derived.Test.YtinakfhijcmodaaChecked
import GoSem.Claim
import GoSem.ClaimJoined
import GoSem.ClaimMapViews
import Derived.JoinedTies
import Derived.KernelRfl
namespace Go.Proofs.Ytinakfhijcmodaa
/- THE CELL 'sum', in the pinned program and in every row, IS THE sha256 OF THE DUMP (.gsa) THAT YtinakfhijcmodaaProg.lean LOADS. Nothing in Lean hashes anything: it is a label: what it is worth is what the hold of that sum in a sandbox is worth. -/
noncomputable def Try.pinned : Pinned := { name := "ytinakfhijcmodaa", sum := "d9bc6bbd1c942b47dd9daefb241671de896ff1afd93e5d6be7c7a7cacb2b3bf2", checked := Try.checked }
namespace Rows
def none {H : Type} : Left H := { results := [], args := [] }

/-- 'interlocklaw08.CodeSums': WHATEVER THE INPUT: true; the input reads as it did. -/
def codeSumsSpec : ChangeSpec := { name := "codeSums", fn := fun _ => fun
  | [d1, d2, d3] => { results := [.lit (.bool true)], args := [d1, d2, d3] }
  | _ => none }
def codeSumsRow : OpenClaim := { program := "ytinakfhijcmodaa", sum := "d9bc6bbd1c942b47dd9daefb241671de896ff1afd93e5d6be7c7a7cacb2b3bf2", func := "interlock/interlocklaw08.CodeSums", spec := "codeSums", apart := false }
def CodeSumsSaid : Prop := codeSumsRow.holds Try.pinned (OpenSpec.ofChange codeSumsSpec)

/-- ITS FALSE NEIGHBOUR: 'it returns false'. Refute it at one input. -/
def codeSumsWrong : ChangeSpec := { name := "codeSums", fn := fun _ => fun
  | [d1, d2, d3] => { results := [.lit (.bool false)], args := [d1, d2, d3] }
  | _ => none }
def CodeSumsWrongFalsely : Prop := codeSumsRow.holds Try.pinned (OpenSpec.ofChange codeSumsWrong)

/-- 'interlocklaw01.ModeTwo': WHATEVER THE INPUT: true; the input reads as it did. -/
def modeTwoSpec : ChangeSpec := { name := "modeTwo", fn := fun _ => fun
  | [d1, d2] => { results := [.lit (.bool true)], args := [d1, d2] }
  | _ => none }
def modeTwoRow : OpenClaim := { program := "ytinakfhijcmodaa", sum := "d9bc6bbd1c942b47dd9daefb241671de896ff1afd93e5d6be7c7a7cacb2b3bf2", func := "interlock/interlocklaw01.ModeTwo", spec := "modeTwo", unfollowed := true, recurses := true, apart := false }
def ModeTwoSaid : Prop := modeTwoRow.holds Try.pinned (OpenSpec.ofChange modeTwoSpec)

/-- ITS FALSE NEIGHBOUR: 'it returns false'. Refute it at one input. -/
def modeTwoWrong : ChangeSpec := { name := "modeTwo", fn := fun _ => fun
  | [d1, d2] => { results := [.lit (.bool false)], args := [d1, d2] }
  | _ => none }
def ModeTwoWrongFalsely : Prop := modeTwoRow.holds Try.pinned (OpenSpec.ofChange modeTwoWrong)

/-- 'interlocklaw01.ModeJoins': WHATEVER THE INPUT: true; the input reads as it did. -/
def modeJoinsSpec : ChangeSpec := { name := "modeJoins", fn := fun _ => fun
  | [d1, d2] => { results := [.lit (.bool true)], args := [d1, d2] }
  | _ => none }
def modeJoinsRow : OpenClaim := { program := "ytinakfhijcmodaa", sum := "d9bc6bbd1c942b47dd9daefb241671de896ff1afd93e5d6be7c7a7cacb2b3bf2", func := "interlock/interlocklaw01.ModeJoins", spec := "modeJoins", unfollowed := true, recurses := true, apart := false }
def ModeJoinsSaid : Prop := modeJoinsRow.holds Try.pinned (OpenSpec.ofChange modeJoinsSpec)

/-- ITS FALSE NEIGHBOUR: 'it returns false'. Refute it at one input. -/
def modeJoinsWrong : ChangeSpec := { name := "modeJoins", fn := fun _ => fun
  | [d1, d2] => { results := [.lit (.bool false)], args := [d1, d2] }
  | _ => none }
def ModeJoinsWrongFalsely : Prop := modeJoinsRow.holds Try.pinned (OpenSpec.ofChange modeJoinsWrong)

/-- 'interlocklaw01.ModeLattice': WHATEVER THE INPUT: true; the input reads as it did. -/
def modeLatticeSpec : ChangeSpec := { name := "modeLattice", fn := fun _ => fun
  | [d1, d2, d3] => { results := [.lit (.bool true)], args := [d1, d2, d3] }
  | _ => none }
def modeLatticeRow : OpenClaim := { program := "ytinakfhijcmodaa", sum := "d9bc6bbd1c942b47dd9daefb241671de896ff1afd93e5d6be7c7a7cacb2b3bf2", func := "interlock/interlocklaw01.ModeLattice", spec := "modeLattice", unfollowed := true, recurses := true, apart := false }
def ModeLatticeSaid : Prop := modeLatticeRow.holds Try.pinned (OpenSpec.ofChange modeLatticeSpec)

/-- ITS FALSE NEIGHBOUR: 'it returns false'. Refute it at one input. -/
def modeLatticeWrong : ChangeSpec := { name := "modeLattice", fn := fun _ => fun
  | [d1, d2, d3] => { results := [.lit (.bool false)], args := [d1, d2, d3] }
  | _ => none }
def ModeLatticeWrongFalsely : Prop := modeLatticeRow.holds Try.pinned (OpenSpec.ofChange modeLatticeWrong)

/-- 'interlocklaw01.ModeBeside': WHATEVER THE INPUT: true; the input reads as it did. -/
def modeBesideSpec : ChangeSpec := { name := "modeBeside", fn := fun _ => fun
  | [d1, d2, d3] => { results := [.lit (.bool true)], args := [d1, d2, d3] }
  | _ => none }
def modeBesideRow : OpenClaim := { program := "ytinakfhijcmodaa", sum := "d9bc6bbd1c942b47dd9daefb241671de896ff1afd93e5d6be7c7a7cacb2b3bf2", func := "interlock/interlocklaw01.ModeBeside", spec := "modeBeside", unfollowed := true, recurses := true, apart := false }
def ModeBesideSaid : Prop := modeBesideRow.holds Try.pinned (OpenSpec.ofChange modeBesideSpec)

/-- ITS FALSE NEIGHBOUR: 'it returns false'. Refute it at one input. -/
def modeBesideWrong : ChangeSpec := { name := "modeBeside", fn := fun _ => fun
  | [d1, d2, d3] => { results := [.lit (.bool false)], args := [d1, d2, d3] }
  | _ => none }
def ModeBesideWrongFalsely : Prop := modeBesideRow.holds Try.pinned (OpenSpec.ofChange modeBesideWrong)

/-- 'interlocklaw01.ModeRises': WHATEVER THE INPUT: true; the input reads as it did. -/
def modeRisesSpec : ChangeSpec := { name := "modeRises", fn := fun _ => fun
  | [d1, d2, d3] => { results := [.lit (.bool true)], args := [d1, d2, d3] }
  | _ => none }
def modeRisesRow : OpenClaim := { program := "ytinakfhijcmodaa", sum := "d9bc6bbd1c942b47dd9daefb241671de896ff1afd93e5d6be7c7a7cacb2b3bf2", func := "interlock/interlocklaw01.ModeRises", spec := "modeRises", unfollowed := true, recurses := true, apart := false }
def ModeRisesSaid : Prop := modeRisesRow.holds Try.pinned (OpenSpec.ofChange modeRisesSpec)

/-- ITS FALSE NEIGHBOUR: 'it returns false'. Refute it at one input. -/
def modeRisesWrong : ChangeSpec := { name := "modeRises", fn := fun _ => fun
  | [d1, d2, d3] => { results := [.lit (.bool false)], args := [d1, d2, d3] }
  | _ => none }
def ModeRisesWrongFalsely : Prop := modeRisesRow.holds Try.pinned (OpenSpec.ofChange modeRisesWrong)

/-- 'interlocklaw01.ModeKnown': WHATEVER THE INPUT: true; the input reads as it did. -/
def modeKnownSpec : ChangeSpec := { name := "modeKnown", fn := fun _ => fun
  | [] => { results := [.lit (.bool true)], args := [] }
  | _ => none }
def modeKnownRow : OpenClaim := { program := "ytinakfhijcmodaa", sum := "d9bc6bbd1c942b47dd9daefb241671de896ff1afd93e5d6be7c7a7cacb2b3bf2", func := "interlock/interlocklaw01.ModeKnown", spec := "modeKnown", unfollowed := true, recurses := true, apart := false }
def ModeKnownSaid : Prop := modeKnownRow.holds Try.pinned (OpenSpec.ofChange modeKnownSpec)

/-- ITS FALSE NEIGHBOUR: 'it returns false'. Refute it at one input. -/
def modeKnownWrong : ChangeSpec := { name := "modeKnown", fn := fun _ => fun
  | [] => { results := [.lit (.bool false)], args := [] }
  | _ => none }
def ModeKnownWrongFalsely : Prop := modeKnownRow.holds Try.pinned (OpenSpec.ofChange modeKnownWrong)

/- THE SECOND FORM. 'bulk': how many values and letters a reading holds, each counted each time it is reached (what is shared counts as often as it is met; a slice's spare places count too). A statement '..UptoSaid' is the law's where the arguments, and the package variables that the reading takes, are together of bulk at most 1048576: NARROWER than '..Said'. Prove '..Said' where nothing that the law and all that it calls make is longer than what came in: it says more and counts as full. Else prove '..UptoSaid'. A law counts once. -/
mutual
def uptoBulk {H : Type} : DataW H → Nat
  | .lit (.string bytes) => bytes.length + 1
  | .lit _ => 1
  | .nil => 1
  | .ptr d => uptoBulk d + 1
  | .slice elems spare => uptoBulkAll elems + uptoBulkAll spare + 1
  | .agg parts => uptoBulkAll parts + 1
  | .iface _ d => uptoBulk d + 1
  | .map entries => uptoBulkEntries entries + 1
  | .held _ => 1
def uptoBulkAll {H : Type} : List (DataW H) → Nat
  | [] => 0
  | d :: r => uptoBulk d + uptoBulkAll r
def uptoBulkEntries {H : Type} : List (Lit × DataW H) → Nat
  | [] => 0
  | x :: r => uptoBulkEntry x + uptoBulkEntries r
def uptoBulkEntry {H : Type} : Lit × DataW H → Nat
  | (.string bytes, d) => bytes.length + uptoBulk d + 1
  | (_, d) => uptoBulk d + 1
 end
def uptoSmall : (H : Type) → List (DataW H) → Bool := fun _ ds => decide (uptoBulkAll ds ≤ 1048576)
def OpenSpec.upto (s : _root_.Go.ChangeSpec) : _root_.Go.OpenSpec := { _root_.Go.OpenSpec.ofChange s with cond := some uptoSmall }

/-- 'interlocklaw08.CodeSums', WHERE WHAT IT READS IS OF BULK AT MOST 1048576: true; the input reads as it did. -/
def codeSumsUptoRow : OpenClaim := { program := "ytinakfhijcmodaa", sum := "d9bc6bbd1c942b47dd9daefb241671de896ff1afd93e5d6be7c7a7cacb2b3bf2", func := "interlock/interlocklaw08.CodeSums", spec := "codeSums", apart := false, narrowed := true }
def CodeSumsUptoSaid : Prop := codeSumsUptoRow.holds Try.pinned (OpenSpec.upto codeSumsSpec)

/-- 'interlocklaw01.ModeTwo', WHERE WHAT IT READS IS OF BULK AT MOST 1048576: true; the input reads as it did. -/
def modeTwoUptoRow : OpenClaim := { program := "ytinakfhijcmodaa", sum := "d9bc6bbd1c942b47dd9daefb241671de896ff1afd93e5d6be7c7a7cacb2b3bf2", func := "interlock/interlocklaw01.ModeTwo", spec := "modeTwo", unfollowed := true, recurses := true, apart := false, narrowed := true }
def ModeTwoUptoSaid : Prop := modeTwoUptoRow.holds Try.pinned (OpenSpec.upto modeTwoSpec)

/-- 'interlocklaw01.ModeJoins', WHERE WHAT IT READS IS OF BULK AT MOST 1048576: true; the input reads as it did. -/
def modeJoinsUptoRow : OpenClaim := { program := "ytinakfhijcmodaa", sum := "d9bc6bbd1c942b47dd9daefb241671de896ff1afd93e5d6be7c7a7cacb2b3bf2", func := "interlock/interlocklaw01.ModeJoins", spec := "modeJoins", unfollowed := true, recurses := true, apart := false, narrowed := true }
def ModeJoinsUptoSaid : Prop := modeJoinsUptoRow.holds Try.pinned (OpenSpec.upto modeJoinsSpec)

/-- 'interlocklaw01.ModeLattice', WHERE WHAT IT READS IS OF BULK AT MOST 1048576: true; the input reads as it did. -/
def modeLatticeUptoRow : OpenClaim := { program := "ytinakfhijcmodaa", sum := "d9bc6bbd1c942b47dd9daefb241671de896ff1afd93e5d6be7c7a7cacb2b3bf2", func := "interlock/interlocklaw01.ModeLattice", spec := "modeLattice", unfollowed := true, recurses := true, apart := false, narrowed := true }
def ModeLatticeUptoSaid : Prop := modeLatticeUptoRow.holds Try.pinned (OpenSpec.upto modeLatticeSpec)

/-- 'interlocklaw01.ModeBeside', WHERE WHAT IT READS IS OF BULK AT MOST 1048576: true; the input reads as it did. -/
def modeBesideUptoRow : OpenClaim := { program := "ytinakfhijcmodaa", sum := "d9bc6bbd1c942b47dd9daefb241671de896ff1afd93e5d6be7c7a7cacb2b3bf2", func := "interlock/interlocklaw01.ModeBeside", spec := "modeBeside", unfollowed := true, recurses := true, apart := false, narrowed := true }
def ModeBesideUptoSaid : Prop := modeBesideUptoRow.holds Try.pinned (OpenSpec.upto modeBesideSpec)

/-- 'interlocklaw01.ModeRises', WHERE WHAT IT READS IS OF BULK AT MOST 1048576: true; the input reads as it did. -/
def modeRisesUptoRow : OpenClaim := { program := "ytinakfhijcmodaa", sum := "d9bc6bbd1c942b47dd9daefb241671de896ff1afd93e5d6be7c7a7cacb2b3bf2", func := "interlock/interlocklaw01.ModeRises", spec := "modeRises", unfollowed := true, recurses := true, apart := false, narrowed := true }
def ModeRisesUptoSaid : Prop := modeRisesUptoRow.holds Try.pinned (OpenSpec.upto modeRisesSpec)

/-- 'interlocklaw01.ModeKnown', WHERE WHAT IT READS IS OF BULK AT MOST 1048576: true; the input reads as it did. -/
def modeKnownUptoRow : OpenClaim := { program := "ytinakfhijcmodaa", sum := "d9bc6bbd1c942b47dd9daefb241671de896ff1afd93e5d6be7c7a7cacb2b3bf2", func := "interlock/interlocklaw01.ModeKnown", spec := "modeKnown", unfollowed := true, recurses := true, apart := false, narrowed := true }
def ModeKnownUptoSaid : Prop := modeKnownUptoRow.holds Try.pinned (OpenSpec.upto modeKnownSpec)

end Rows
end Go.Proofs.Ytinakfhijcmodaa
