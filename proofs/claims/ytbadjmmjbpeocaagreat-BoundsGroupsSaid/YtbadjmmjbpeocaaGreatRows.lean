/-
  No cell of these rows narrows 'for every input' (looked for: loops, veiled, ifaces, maps, wideKeys, modest, calm, conditions, laid).
  DERIVED. THE GIVEN ROWS OF THIS SEAT. 4 by the template 'for every input the law returns true; each argument reads behind the call as it read before'; 0 by the template 'total and deterministic' (their statements: YtbadjmmjbpeocaaGreatTotals.lean).
  GIVEN WITH THE SEED: the statements are not yours to turn. If you find one false, say at which input.
  Laid BY PROGRAM, IN A SANDBOX (cutbox-rows.mjs): the forced cells as the released guide's own fill.sh prints them over the translation 69f1afc0644de78f… (all of the seat's roots in one cut). By AI agents, Wed Nov 11 2026. No macro, syntax, notation, axiom, sorry.
-/
import Derived.Test.YtbadjmmjbpeocaaGreatChecked
import GoSem.Claim
import GoSem.ClaimJoined
import GoSem.ClaimMapViews
import Derived.JoinedTies
import Derived.KernelRfl
namespace Go.Proofs.YtbadjmmjbpeocaaGreat
/- THE CELL 'sum', in the pinned program and in every row, IS THE sha256 OF THE DUMP (.gsa) THAT YtbadjmmjbpeocaaGreatProg.lean LOADS. Nothing in Lean hashes anything: it is a label: what it is worth is what the hold of that sum in a sandbox is worth. -/
noncomputable def Tryz.pinned : Pinned := { name := "ytbadjmmjbpeocaagreat", sum := "69f1afc0644de78fb552c6f47a2c079909df78684d4334ad4139758cc5e47d09", checked := Tryz.checked }
namespace Rows
def none {H : Type} : Left H := { results := [], args := [] }

/-- 'interlocklaw08.CodeTerms': WHATEVER THE INPUT: true; the input reads as it did. -/
def codeTermsSpec : ChangeSpec := { name := "codeTerms", fn := fun _ => fun
  | [d1, d2] => { results := [.lit (.bool true)], args := [d1, d2] }
  | _ => none }
def codeTermsRow : OpenClaim := { program := "ytbadjmmjbpeocaagreat", sum := "69f1afc0644de78fb552c6f47a2c079909df78684d4334ad4139758cc5e47d09", func := "interlock/interlocklaw08.CodeTerms", spec := "codeTerms", inPlace := ["internal/bytealg.Count", "internal/bytealg.IndexByte", "internal/bytealg.Index", "internal/bytealg.IndexByteString"], unfollowed := true, recurses := true, named := ["internal/bytealg.MaxLen"], apart := false }
def CodeTermsSaid : Prop := codeTermsRow.holds Tryz.pinned (OpenSpec.ofChange codeTermsSpec)

/-- ITS FALSE NEIGHBOUR: 'it returns false'. Refute it at one input. -/
def codeTermsWrong : ChangeSpec := { name := "codeTerms", fn := fun _ => fun
  | [d1, d2] => { results := [.lit (.bool false)], args := [d1, d2] }
  | _ => none }
def CodeTermsWrongFalsely : Prop := codeTermsRow.holds Tryz.pinned (OpenSpec.ofChange codeTermsWrong)

/-- 'interlocklaw25.BoundsOf': WHATEVER THE INPUT: true; the input reads as it did. -/
def boundsOfSpec : ChangeSpec := { name := "boundsOf", fn := fun _ => fun
  | [d1, d2] => { results := [.lit (.bool true)], args := [d1, d2] }
  | _ => none }
def boundsOfRow : OpenClaim := { program := "ytbadjmmjbpeocaagreat", sum := "69f1afc0644de78fb552c6f47a2c079909df78684d4334ad4139758cc5e47d09", func := "interlock/interlocklaw25.BoundsOf", spec := "boundsOf", inPlace := ["internal/bytealg.Count", "internal/bytealg.IndexByte", "internal/bytealg.Index", "internal/bytealg.IndexByteString", "math/bits.Add64"], unfollowed := true, recurses := true, named := ["internal/bytealg.MaxLen"], apart := false }
def BoundsOfSaid : Prop := boundsOfRow.holds Tryz.pinned (OpenSpec.ofChange boundsOfSpec)

/-- ITS FALSE NEIGHBOUR: 'it returns false'. Refute it at one input. -/
def boundsOfWrong : ChangeSpec := { name := "boundsOf", fn := fun _ => fun
  | [d1, d2] => { results := [.lit (.bool false)], args := [d1, d2] }
  | _ => none }
def BoundsOfWrongFalsely : Prop := boundsOfRow.holds Tryz.pinned (OpenSpec.ofChange boundsOfWrong)

/-- 'interlocklaw25.BoundsAdd': WHATEVER THE INPUT: true; the input reads as it did. -/
def boundsAddSpec : ChangeSpec := { name := "boundsAdd", fn := fun _ => fun
  | [d1, d2] => { results := [.lit (.bool true)], args := [d1, d2] }
  | _ => none }
def boundsAddRow : OpenClaim := { program := "ytbadjmmjbpeocaagreat", sum := "69f1afc0644de78fb552c6f47a2c079909df78684d4334ad4139758cc5e47d09", func := "interlock/interlocklaw25.BoundsAdd", spec := "boundsAdd", inPlace := ["math/bits.Add64", "internal/bytealg.Count", "internal/bytealg.IndexByte", "internal/bytealg.Index", "internal/bytealg.IndexByteString"], unfollowed := true, recurses := true, named := ["internal/bytealg.MaxLen"], apart := false }
def BoundsAddSaid : Prop := boundsAddRow.holds Tryz.pinned (OpenSpec.ofChange boundsAddSpec)

/-- ITS FALSE NEIGHBOUR: 'it returns false'. Refute it at one input. -/
def boundsAddWrong : ChangeSpec := { name := "boundsAdd", fn := fun _ => fun
  | [d1, d2] => { results := [.lit (.bool false)], args := [d1, d2] }
  | _ => none }
def BoundsAddWrongFalsely : Prop := boundsAddRow.holds Tryz.pinned (OpenSpec.ofChange boundsAddWrong)

/-- 'interlocklaw25.BoundsGroups': WHATEVER THE INPUT: true; the input reads as it did. -/
def boundsGroupsSpec : ChangeSpec := { name := "boundsGroups", fn := fun _ => fun
  | [d1, d2, d3] => { results := [.lit (.bool true)], args := [d1, d2, d3] }
  | _ => none }
def boundsGroupsRow : OpenClaim := { program := "ytbadjmmjbpeocaagreat", sum := "69f1afc0644de78fb552c6f47a2c079909df78684d4334ad4139758cc5e47d09", func := "interlock/interlocklaw25.BoundsGroups", spec := "boundsGroups", inPlace := ["math/bits.Add64", "internal/bytealg.Count", "internal/bytealg.IndexByte", "internal/bytealg.Index", "internal/bytealg.IndexByteString"], unfollowed := true, recurses := true, named := ["internal/bytealg.MaxLen"], apart := false }
def BoundsGroupsSaid : Prop := boundsGroupsRow.holds Tryz.pinned (OpenSpec.ofChange boundsGroupsSpec)

/-- ITS FALSE NEIGHBOUR: 'it returns false'. Refute it at one input. -/
def boundsGroupsWrong : ChangeSpec := { name := "boundsGroups", fn := fun _ => fun
  | [d1, d2, d3] => { results := [.lit (.bool false)], args := [d1, d2, d3] }
  | _ => none }
def BoundsGroupsWrongFalsely : Prop := boundsGroupsRow.holds Tryz.pinned (OpenSpec.ofChange boundsGroupsWrong)

/- THE SECOND FORM. 'bulk': how many values and letters a reading holds, each counted each time it is reached (what is shared counts as often as it is met; a slice's spare places count too). A statement '..UptoSaid' is the law's where the arguments, and the package variables that the reading takes, are together of bulk at most 1048576: NARROWER than '..Said'. Prove '..Said' where nothing that the law and all that it calls make is longer than what came in: it says more and counts as full. Else prove '..UptoSaid'. A law counts once. -/
mutual
def uptoBulk {H : Type} : DataW H → Nat
  | .lit (.string bytes) => bytes.length + 1
  | .lit _ => 1
  | .nil => 1
  | .ptr d => uptoBulk d + 1
  | .slice elems spare => uptoBulkAll elems + uptoBulkAll spare + 1
  | .agg parts => uptoBulkAll parts + 1
  | .iface _ d => uptoBulk d + 1
  | .map entries => uptoBulkEntries entries + 1
  | .held _ => 1
def uptoBulkAll {H : Type} : List (DataW H) → Nat
  | [] => 0
  | d :: r => uptoBulk d + uptoBulkAll r
def uptoBulkEntries {H : Type} : List (Lit × DataW H) → Nat
  | [] => 0
  | x :: r => uptoBulkEntry x + uptoBulkEntries r
def uptoBulkEntry {H : Type} : Lit × DataW H → Nat
  | (.string bytes, d) => bytes.length + uptoBulk d + 1
  | (_, d) => uptoBulk d + 1
 end
def uptoSmall : (H : Type) → List (DataW H) → Bool := fun _ ds => decide (uptoBulkAll ds ≤ 1048576)
def OpenSpec.upto (s : _root_.Go.ChangeSpec) : _root_.Go.OpenSpec := { _root_.Go.OpenSpec.ofChange s with cond := some uptoSmall }

/-- 'interlocklaw08.CodeTerms', WHERE WHAT IT READS IS OF BULK AT MOST 1048576: true; the input reads as it did. -/
def codeTermsUptoRow : OpenClaim := { program := "ytbadjmmjbpeocaagreat", sum := "69f1afc0644de78fb552c6f47a2c079909df78684d4334ad4139758cc5e47d09", func := "interlock/interlocklaw08.CodeTerms", spec := "codeTerms", inPlace := ["internal/bytealg.Count", "internal/bytealg.IndexByte", "internal/bytealg.Index", "internal/bytealg.IndexByteString"], unfollowed := true, recurses := true, named := ["internal/bytealg.MaxLen"], apart := false, narrowed := true }
def CodeTermsUptoSaid : Prop := codeTermsUptoRow.holds Tryz.pinned (OpenSpec.upto codeTermsSpec)

/-- 'interlocklaw25.BoundsOf', WHERE WHAT IT READS IS OF BULK AT MOST 1048576: true; the input reads as it did. -/
def boundsOfUptoRow : OpenClaim := { program := "ytbadjmmjbpeocaagreat", sum := "69f1afc0644de78fb552c6f47a2c079909df78684d4334ad4139758cc5e47d09", func := "interlock/interlocklaw25.BoundsOf", spec := "boundsOf", inPlace := ["internal/bytealg.Count", "internal/bytealg.IndexByte", "internal/bytealg.Index", "internal/bytealg.IndexByteString", "math/bits.Add64"], unfollowed := true, recurses := true, named := ["internal/bytealg.MaxLen"], apart := false, narrowed := true }
def BoundsOfUptoSaid : Prop := boundsOfUptoRow.holds Tryz.pinned (OpenSpec.upto boundsOfSpec)

/-- 'interlocklaw25.BoundsAdd', WHERE WHAT IT READS IS OF BULK AT MOST 1048576: true; the input reads as it did. -/
def boundsAddUptoRow : OpenClaim := { program := "ytbadjmmjbpeocaagreat", sum := "69f1afc0644de78fb552c6f47a2c079909df78684d4334ad4139758cc5e47d09", func := "interlock/interlocklaw25.BoundsAdd", spec := "boundsAdd", inPlace := ["math/bits.Add64", "internal/bytealg.Count", "internal/bytealg.IndexByte", "internal/bytealg.Index", "internal/bytealg.IndexByteString"], unfollowed := true, recurses := true, named := ["internal/bytealg.MaxLen"], apart := false, narrowed := true }
def BoundsAddUptoSaid : Prop := boundsAddUptoRow.holds Tryz.pinned (OpenSpec.upto boundsAddSpec)

/-- 'interlocklaw25.BoundsGroups', WHERE WHAT IT READS IS OF BULK AT MOST 1048576: true; the input reads as it did. -/
def boundsGroupsUptoRow : OpenClaim := { program := "ytbadjmmjbpeocaagreat", sum := "69f1afc0644de78fb552c6f47a2c079909df78684d4334ad4139758cc5e47d09", func := "interlock/interlocklaw25.BoundsGroups", spec := "boundsGroups", inPlace := ["math/bits.Add64", "internal/bytealg.Count", "internal/bytealg.IndexByte", "internal/bytealg.Index", "internal/bytealg.IndexByteString"], unfollowed := true, recurses := true, named := ["internal/bytealg.MaxLen"], apart := false, narrowed := true }
def BoundsGroupsUptoSaid : Prop := boundsGroupsUptoRow.holds Tryz.pinned (OpenSpec.upto boundsGroupsSpec)

end Rows
end Go.Proofs.YtbadjmmjbpeocaaGreat
