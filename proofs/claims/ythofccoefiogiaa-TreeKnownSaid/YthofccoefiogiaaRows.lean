/-
  No cell of these rows narrows 'for every input' (looked for: loops, veiled, ifaces, maps, wideKeys, modest, calm, conditions, laid).
  DERIVED. THE GIVEN ROWS OF THIS SEAT. 11 by the template 'for every input the law returns true; each argument reads behind the call as it read before'; 0 by the template 'total and deterministic' (their statements: YthofccoefiogiaaTotals.lean).
  GIVEN WITH THE SEED: the statements are not yours to turn. If you find one false, say at which input.
  Laid BY PROGRAM, IN A SANDBOX (cutbox-rows.mjs): the forced cells as the released guide's own fill.sh prints them over the translation 225578e81b9d69aa… (all of the seat's roots in one cut). By AI agents, Wed Nov 11 2026. No macro, syntax, notation, axiom, sorry.
-/
import Derived.Test.YthofccoefiogiaaChecked
import GoSem.Claim
import GoSem.ClaimJoined
import GoSem.ClaimMapViews
import Derived.JoinedTies
import Derived.KernelRfl
namespace Go.Proofs.Ythofccoefiogiaa
/- THE CELL 'sum', in the pinned program and in every row, IS THE sha256 OF THE DUMP (.gsa) THAT YthofccoefiogiaaProg.lean LOADS. Nothing in Lean hashes anything: it is a label: what it is worth is what the hold of that sum in a sandbox is worth. -/
noncomputable def Try.pinned : Pinned := { name := "ythofccoefiogiaa", sum := "225578e81b9d69aa6818705692949096935ed2e7525a68c9213e8b2fbbbc14ec", checked := Try.checked }
namespace Rows
def none {H : Type} : Left H := { results := [], args := [] }

/-- 'interlocklaw20.KeyJoins': WHATEVER THE INPUT: true; the input reads as it did. -/
def keyJoinsSpec : ChangeSpec := { name := "keyJoins", fn := fun _ => fun
  | [d1, d2, d3, d4] => { results := [.lit (.bool true)], args := [d1, d2, d3, d4] }
  | _ => none }
def keyJoinsRow : OpenClaim := { program := "ythofccoefiogiaa", sum := "225578e81b9d69aa6818705692949096935ed2e7525a68c9213e8b2fbbbc14ec", func := "interlock/interlocklaw20.KeyJoins", spec := "keyJoins", unfollowed := true, recurses := true, apart := false }
def KeyJoinsSaid : Prop := keyJoinsRow.holds Try.pinned (OpenSpec.ofChange keyJoinsSpec)

/-- ITS FALSE NEIGHBOUR: 'it returns false'. Refute it at one input. -/
def keyJoinsWrong : ChangeSpec := { name := "keyJoins", fn := fun _ => fun
  | [d1, d2, d3, d4] => { results := [.lit (.bool false)], args := [d1, d2, d3, d4] }
  | _ => none }
def KeyJoinsWrongFalsely : Prop := keyJoinsRow.holds Try.pinned (OpenSpec.ofChange keyJoinsWrong)

/-- 'interlocklaw10.PiecesAny': WHATEVER THE INPUT: true; the input reads as it did. -/
def piecesAnySpec : ChangeSpec := { name := "piecesAny", fn := fun _ => fun
  | [d1, d2, d3] => { results := [.lit (.bool true)], args := [d1, d2, d3] }
  | _ => none }
def piecesAnyRow : OpenClaim := { program := "ythofccoefiogiaa", sum := "225578e81b9d69aa6818705692949096935ed2e7525a68c9213e8b2fbbbc14ec", func := "interlock/interlocklaw10.PiecesAny", spec := "piecesAny", unfollowed := true, recurses := true, apart := false }
def PiecesAnySaid : Prop := piecesAnyRow.holds Try.pinned (OpenSpec.ofChange piecesAnySpec)

/-- ITS FALSE NEIGHBOUR: 'it returns false'. Refute it at one input. -/
def piecesAnyWrong : ChangeSpec := { name := "piecesAny", fn := fun _ => fun
  | [d1, d2, d3] => { results := [.lit (.bool false)], args := [d1, d2, d3] }
  | _ => none }
def PiecesAnyWrongFalsely : Prop := piecesAnyRow.holds Try.pinned (OpenSpec.ofChange piecesAnyWrong)

/-- 'interlocklaw10.PiecesCover': WHATEVER THE INPUT: true; the input reads as it did. -/
def piecesCoverSpec : ChangeSpec := { name := "piecesCover", fn := fun _ => fun
  | [d1, d2] => { results := [.lit (.bool true)], args := [d1, d2] }
  | _ => none }
def piecesCoverRow : OpenClaim := { program := "ythofccoefiogiaa", sum := "225578e81b9d69aa6818705692949096935ed2e7525a68c9213e8b2fbbbc14ec", func := "interlock/interlocklaw10.PiecesCover", spec := "piecesCover", unfollowed := true, recurses := true, apart := false }
def PiecesCoverSaid : Prop := piecesCoverRow.holds Try.pinned (OpenSpec.ofChange piecesCoverSpec)

/-- ITS FALSE NEIGHBOUR: 'it returns false'. Refute it at one input. -/
def piecesCoverWrong : ChangeSpec := { name := "piecesCover", fn := fun _ => fun
  | [d1, d2] => { results := [.lit (.bool false)], args := [d1, d2] }
  | _ => none }
def PiecesCoverWrongFalsely : Prop := piecesCoverRow.holds Try.pinned (OpenSpec.ofChange piecesCoverWrong)

/-- 'interlocklaw10.PiecesKnown': WHATEVER THE INPUT: true; the input reads as it did. -/
def piecesKnownSpec : ChangeSpec := { name := "piecesKnown", fn := fun _ => fun
  | [] => { results := [.lit (.bool true)], args := [] }
  | _ => none }
def piecesKnownRow : OpenClaim := { program := "ythofccoefiogiaa", sum := "225578e81b9d69aa6818705692949096935ed2e7525a68c9213e8b2fbbbc14ec", func := "interlock/interlocklaw10.PiecesKnown", spec := "piecesKnown", unfollowed := true, recurses := true, apart := false }
def PiecesKnownSaid : Prop := piecesKnownRow.holds Try.pinned (OpenSpec.ofChange piecesKnownSpec)

/-- ITS FALSE NEIGHBOUR: 'it returns false'. Refute it at one input. -/
def piecesKnownWrong : ChangeSpec := { name := "piecesKnown", fn := fun _ => fun
  | [] => { results := [.lit (.bool false)], args := [] }
  | _ => none }
def PiecesKnownWrongFalsely : Prop := piecesKnownRow.holds Try.pinned (OpenSpec.ofChange piecesKnownWrong)

/-- 'interlocklaw20.KeySums': WHATEVER THE INPUT: true; the input reads as it did. -/
def keySumsSpec : ChangeSpec := { name := "keySums", fn := fun _ => fun
  | [d1, d2, d3, d4] => { results := [.lit (.bool true)], args := [d1, d2, d3, d4] }
  | _ => none }
def keySumsRow : OpenClaim := { program := "ythofccoefiogiaa", sum := "225578e81b9d69aa6818705692949096935ed2e7525a68c9213e8b2fbbbc14ec", func := "interlock/interlocklaw20.KeySums", spec := "keySums", unfollowed := true, recurses := true, apart := false }
def KeySumsSaid : Prop := keySumsRow.holds Try.pinned (OpenSpec.ofChange keySumsSpec)

/-- ITS FALSE NEIGHBOUR: 'it returns false'. Refute it at one input. -/
def keySumsWrong : ChangeSpec := { name := "keySums", fn := fun _ => fun
  | [d1, d2, d3, d4] => { results := [.lit (.bool false)], args := [d1, d2, d3, d4] }
  | _ => none }
def KeySumsWrongFalsely : Prop := keySumsRow.holds Try.pinned (OpenSpec.ofChange keySumsWrong)

/-- 'interlocklaw04.TreeRight': WHATEVER THE INPUT: true; the input reads as it did. -/
def treeRightSpec : ChangeSpec := { name := "treeRight", fn := fun _ => fun
  | [d1, d2] => { results := [.lit (.bool true)], args := [d1, d2] }
  | _ => none }
def treeRightRow : OpenClaim := { program := "ythofccoefiogiaa", sum := "225578e81b9d69aa6818705692949096935ed2e7525a68c9213e8b2fbbbc14ec", func := "interlock/interlocklaw04.TreeRight", spec := "treeRight", inPlace := ["internal/bytealg.IndexByteString"], unfollowed := true, recurses := true, apart := false }
def TreeRightSaid : Prop := treeRightRow.holds Try.pinned (OpenSpec.ofChange treeRightSpec)

/-- ITS FALSE NEIGHBOUR: 'it returns false'. Refute it at one input. -/
def treeRightWrong : ChangeSpec := { name := "treeRight", fn := fun _ => fun
  | [d1, d2] => { results := [.lit (.bool false)], args := [d1, d2] }
  | _ => none }
def TreeRightWrongFalsely : Prop := treeRightRow.holds Try.pinned (OpenSpec.ofChange treeRightWrong)

/-- 'interlocklaw04.TreeSizes': WHATEVER THE INPUT: true; the input reads as it did. -/
def treeSizesSpec : ChangeSpec := { name := "treeSizes", fn := fun _ => fun
  | [d] => { results := [.lit (.bool true)], args := [d] }
  | _ => none }
def treeSizesRow : OpenClaim := { program := "ythofccoefiogiaa", sum := "225578e81b9d69aa6818705692949096935ed2e7525a68c9213e8b2fbbbc14ec", func := "interlock/interlocklaw04.TreeSizes", spec := "treeSizes", inPlace := ["internal/bytealg.IndexByteString"], unfollowed := true, recurses := true, apart := false }
def TreeSizesSaid : Prop := treeSizesRow.holds Try.pinned (OpenSpec.ofChange treeSizesSpec)

/-- ITS FALSE NEIGHBOUR: 'it returns false'. Refute it at one input. -/
def treeSizesWrong : ChangeSpec := { name := "treeSizes", fn := fun _ => fun
  | [d] => { results := [.lit (.bool false)], args := [d] }
  | _ => none }
def TreeSizesWrongFalsely : Prop := treeSizesRow.holds Try.pinned (OpenSpec.ofChange treeSizesWrong)

/-- 'interlocklaw04.TreePlaces': WHATEVER THE INPUT: true; the input reads as it did. -/
def treePlacesSpec : ChangeSpec := { name := "treePlaces", fn := fun _ => fun
  | [d1, d2, d3] => { results := [.lit (.bool true)], args := [d1, d2, d3] }
  | _ => none }
def treePlacesRow : OpenClaim := { program := "ythofccoefiogiaa", sum := "225578e81b9d69aa6818705692949096935ed2e7525a68c9213e8b2fbbbc14ec", func := "interlock/interlocklaw04.TreePlaces", spec := "treePlaces", inPlace := ["internal/bytealg.IndexByteString"], unfollowed := true, recurses := true, apart := false }
def TreePlacesSaid : Prop := treePlacesRow.holds Try.pinned (OpenSpec.ofChange treePlacesSpec)

/-- ITS FALSE NEIGHBOUR: 'it returns false'. Refute it at one input. -/
def treePlacesWrong : ChangeSpec := { name := "treePlaces", fn := fun _ => fun
  | [d1, d2, d3] => { results := [.lit (.bool false)], args := [d1, d2, d3] }
  | _ => none }
def TreePlacesWrongFalsely : Prop := treePlacesRow.holds Try.pinned (OpenSpec.ofChange treePlacesWrong)

/-- 'interlocklaw04.TreeSame': WHATEVER THE INPUT: true; the input reads as it did. -/
def treeSameSpec : ChangeSpec := { name := "treeSame", fn := fun _ => fun
  | [d1, d2, d3] => { results := [.lit (.bool true)], args := [d1, d2, d3] }
  | _ => none }
def treeSameRow : OpenClaim := { program := "ythofccoefiogiaa", sum := "225578e81b9d69aa6818705692949096935ed2e7525a68c9213e8b2fbbbc14ec", func := "interlock/interlocklaw04.TreeSame", spec := "treeSame", inPlace := ["internal/bytealg.IndexByteString"], unfollowed := true, recurses := true, apart := false }
def TreeSameSaid : Prop := treeSameRow.holds Try.pinned (OpenSpec.ofChange treeSameSpec)

/-- ITS FALSE NEIGHBOUR: 'it returns false'. Refute it at one input. -/
def treeSameWrong : ChangeSpec := { name := "treeSame", fn := fun _ => fun
  | [d1, d2, d3] => { results := [.lit (.bool false)], args := [d1, d2, d3] }
  | _ => none }
def TreeSameWrongFalsely : Prop := treeSameRow.holds Try.pinned (OpenSpec.ofChange treeSameWrong)

/-- 'interlocklaw04.TreeKnown': WHATEVER THE INPUT: true; the input reads as it did. -/
def treeKnownSpec : ChangeSpec := { name := "treeKnown", fn := fun _ => fun
  | [] => { results := [.lit (.bool true)], args := [] }
  | _ => none }
def treeKnownRow : OpenClaim := { program := "ythofccoefiogiaa", sum := "225578e81b9d69aa6818705692949096935ed2e7525a68c9213e8b2fbbbc14ec", func := "interlock/interlocklaw04.TreeKnown", spec := "treeKnown", inPlace := ["internal/bytealg.IndexByteString"], unfollowed := true, recurses := true, apart := false }
def TreeKnownSaid : Prop := treeKnownRow.holds Try.pinned (OpenSpec.ofChange treeKnownSpec)

/-- ITS FALSE NEIGHBOUR: 'it returns false'. Refute it at one input. -/
def treeKnownWrong : ChangeSpec := { name := "treeKnown", fn := fun _ => fun
  | [] => { results := [.lit (.bool false)], args := [] }
  | _ => none }
def TreeKnownWrongFalsely : Prop := treeKnownRow.holds Try.pinned (OpenSpec.ofChange treeKnownWrong)

/-- 'interlocklaw08.CodeRight': WHATEVER THE INPUT: true; the input reads as it did. -/
def codeRightSpec : ChangeSpec := { name := "codeRight", fn := fun _ => fun
  | [d1, d2, d3, d4] => { results := [.lit (.bool true)], args := [d1, d2, d3, d4] }
  | _ => none }
def codeRightRow : OpenClaim := { program := "ythofccoefiogiaa", sum := "225578e81b9d69aa6818705692949096935ed2e7525a68c9213e8b2fbbbc14ec", func := "interlock/interlocklaw08.CodeRight", spec := "codeRight", unfollowed := true, recurses := true, apart := false }
def CodeRightSaid : Prop := codeRightRow.holds Try.pinned (OpenSpec.ofChange codeRightSpec)

/-- ITS FALSE NEIGHBOUR: 'it returns false'. Refute it at one input. -/
def codeRightWrong : ChangeSpec := { name := "codeRight", fn := fun _ => fun
  | [d1, d2, d3, d4] => { results := [.lit (.bool false)], args := [d1, d2, d3, d4] }
  | _ => none }
def CodeRightWrongFalsely : Prop := codeRightRow.holds Try.pinned (OpenSpec.ofChange codeRightWrong)

/- THE SECOND FORM. 'bulk': how many values and letters a reading holds, each counted each time it is reached (what is shared counts as often as it is met; a slice's spare places count too). A statement '..UptoSaid' is the law's where the arguments, and the package variables that the reading takes, are together of bulk at most 1048576: NARROWER than '..Said'. Prove '..Said' where nothing that the law and all that it calls make is longer than what came in: it says more and counts as full. Else prove '..UptoSaid'. A law counts once. -/
mutual
def uptoBulk {H : Type} : DataW H → Nat
  | .lit (.string bytes) => bytes.length + 1
  | .lit _ => 1
  | .nil => 1
  | .ptr d => uptoBulk d + 1
  | .slice elems spare => uptoBulkAll elems + uptoBulkAll spare + 1
  | .agg parts => uptoBulkAll parts + 1
  | .iface _ d => uptoBulk d + 1
  | .map entries => uptoBulkEntries entries + 1
  | .held _ => 1
def uptoBulkAll {H : Type} : List (DataW H) → Nat
  | [] => 0
  | d :: r => uptoBulk d + uptoBulkAll r
def uptoBulkEntries {H : Type} : List (Lit × DataW H) → Nat
  | [] => 0
  | x :: r => uptoBulkEntry x + uptoBulkEntries r
def uptoBulkEntry {H : Type} : Lit × DataW H → Nat
  | (.string bytes, d) => bytes.length + uptoBulk d + 1
  | (_, d) => uptoBulk d + 1
 end
def uptoSmall : (H : Type) → List (DataW H) → Bool := fun _ ds => decide (uptoBulkAll ds ≤ 1048576)
def OpenSpec.upto (s : _root_.Go.ChangeSpec) : _root_.Go.OpenSpec := { _root_.Go.OpenSpec.ofChange s with cond := some uptoSmall }

/-- 'interlocklaw20.KeyJoins', WHERE WHAT IT READS IS OF BULK AT MOST 1048576: true; the input reads as it did. -/
def keyJoinsUptoRow : OpenClaim := { program := "ythofccoefiogiaa", sum := "225578e81b9d69aa6818705692949096935ed2e7525a68c9213e8b2fbbbc14ec", func := "interlock/interlocklaw20.KeyJoins", spec := "keyJoins", unfollowed := true, recurses := true, apart := false, narrowed := true }
def KeyJoinsUptoSaid : Prop := keyJoinsUptoRow.holds Try.pinned (OpenSpec.upto keyJoinsSpec)

/-- 'interlocklaw10.PiecesAny', WHERE WHAT IT READS IS OF BULK AT MOST 1048576: true; the input reads as it did. -/
def piecesAnyUptoRow : OpenClaim := { program := "ythofccoefiogiaa", sum := "225578e81b9d69aa6818705692949096935ed2e7525a68c9213e8b2fbbbc14ec", func := "interlock/interlocklaw10.PiecesAny", spec := "piecesAny", unfollowed := true, recurses := true, apart := false, narrowed := true }
def PiecesAnyUptoSaid : Prop := piecesAnyUptoRow.holds Try.pinned (OpenSpec.upto piecesAnySpec)

/-- 'interlocklaw10.PiecesCover', WHERE WHAT IT READS IS OF BULK AT MOST 1048576: true; the input reads as it did. -/
def piecesCoverUptoRow : OpenClaim := { program := "ythofccoefiogiaa", sum := "225578e81b9d69aa6818705692949096935ed2e7525a68c9213e8b2fbbbc14ec", func := "interlock/interlocklaw10.PiecesCover", spec := "piecesCover", unfollowed := true, recurses := true, apart := false, narrowed := true }
def PiecesCoverUptoSaid : Prop := piecesCoverUptoRow.holds Try.pinned (OpenSpec.upto piecesCoverSpec)

/-- 'interlocklaw10.PiecesKnown', WHERE WHAT IT READS IS OF BULK AT MOST 1048576: true; the input reads as it did. -/
def piecesKnownUptoRow : OpenClaim := { program := "ythofccoefiogiaa", sum := "225578e81b9d69aa6818705692949096935ed2e7525a68c9213e8b2fbbbc14ec", func := "interlock/interlocklaw10.PiecesKnown", spec := "piecesKnown", unfollowed := true, recurses := true, apart := false, narrowed := true }
def PiecesKnownUptoSaid : Prop := piecesKnownUptoRow.holds Try.pinned (OpenSpec.upto piecesKnownSpec)

/-- 'interlocklaw20.KeySums', WHERE WHAT IT READS IS OF BULK AT MOST 1048576: true; the input reads as it did. -/
def keySumsUptoRow : OpenClaim := { program := "ythofccoefiogiaa", sum := "225578e81b9d69aa6818705692949096935ed2e7525a68c9213e8b2fbbbc14ec", func := "interlock/interlocklaw20.KeySums", spec := "keySums", unfollowed := true, recurses := true, apart := false, narrowed := true }
def KeySumsUptoSaid : Prop := keySumsUptoRow.holds Try.pinned (OpenSpec.upto keySumsSpec)

/-- 'interlocklaw04.TreeRight', WHERE WHAT IT READS IS OF BULK AT MOST 1048576: true; the input reads as it did. -/
def treeRightUptoRow : OpenClaim := { program := "ythofccoefiogiaa", sum := "225578e81b9d69aa6818705692949096935ed2e7525a68c9213e8b2fbbbc14ec", func := "interlock/interlocklaw04.TreeRight", spec := "treeRight", inPlace := ["internal/bytealg.IndexByteString"], unfollowed := true, recurses := true, apart := false, narrowed := true }
def TreeRightUptoSaid : Prop := treeRightUptoRow.holds Try.pinned (OpenSpec.upto treeRightSpec)

/-- 'interlocklaw04.TreeSizes', WHERE WHAT IT READS IS OF BULK AT MOST 1048576: true; the input reads as it did. -/
def treeSizesUptoRow : OpenClaim := { program := "ythofccoefiogiaa", sum := "225578e81b9d69aa6818705692949096935ed2e7525a68c9213e8b2fbbbc14ec", func := "interlock/interlocklaw04.TreeSizes", spec := "treeSizes", inPlace := ["internal/bytealg.IndexByteString"], unfollowed := true, recurses := true, apart := false, narrowed := true }
def TreeSizesUptoSaid : Prop := treeSizesUptoRow.holds Try.pinned (OpenSpec.upto treeSizesSpec)

/-- 'interlocklaw04.TreePlaces', WHERE WHAT IT READS IS OF BULK AT MOST 1048576: true; the input reads as it did. -/
def treePlacesUptoRow : OpenClaim := { program := "ythofccoefiogiaa", sum := "225578e81b9d69aa6818705692949096935ed2e7525a68c9213e8b2fbbbc14ec", func := "interlock/interlocklaw04.TreePlaces", spec := "treePlaces", inPlace := ["internal/bytealg.IndexByteString"], unfollowed := true, recurses := true, apart := false, narrowed := true }
def TreePlacesUptoSaid : Prop := treePlacesUptoRow.holds Try.pinned (OpenSpec.upto treePlacesSpec)

/-- 'interlocklaw04.TreeSame', WHERE WHAT IT READS IS OF BULK AT MOST 1048576: true; the input reads as it did. -/
def treeSameUptoRow : OpenClaim := { program := "ythofccoefiogiaa", sum := "225578e81b9d69aa6818705692949096935ed2e7525a68c9213e8b2fbbbc14ec", func := "interlock/interlocklaw04.TreeSame", spec := "treeSame", inPlace := ["internal/bytealg.IndexByteString"], unfollowed := true, recurses := true, apart := false, narrowed := true }
def TreeSameUptoSaid : Prop := treeSameUptoRow.holds Try.pinned (OpenSpec.upto treeSameSpec)

/-- 'interlocklaw04.TreeKnown', WHERE WHAT IT READS IS OF BULK AT MOST 1048576: true; the input reads as it did. -/
def treeKnownUptoRow : OpenClaim := { program := "ythofccoefiogiaa", sum := "225578e81b9d69aa6818705692949096935ed2e7525a68c9213e8b2fbbbc14ec", func := "interlock/interlocklaw04.TreeKnown", spec := "treeKnown", inPlace := ["internal/bytealg.IndexByteString"], unfollowed := true, recurses := true, apart := false, narrowed := true }
def TreeKnownUptoSaid : Prop := treeKnownUptoRow.holds Try.pinned (OpenSpec.upto treeKnownSpec)

/-- 'interlocklaw08.CodeRight', WHERE WHAT IT READS IS OF BULK AT MOST 1048576: true; the input reads as it did. -/
def codeRightUptoRow : OpenClaim := { program := "ythofccoefiogiaa", sum := "225578e81b9d69aa6818705692949096935ed2e7525a68c9213e8b2fbbbc14ec", func := "interlock/interlocklaw08.CodeRight", spec := "codeRight", unfollowed := true, recurses := true, apart := false, narrowed := true }
def CodeRightUptoSaid : Prop := codeRightUptoRow.holds Try.pinned (OpenSpec.upto codeRightSpec)

end Rows
end Go.Proofs.Ythofccoefiogiaa
