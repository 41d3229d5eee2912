/-
  DERIVED. GIVEN WITH THE SEED: THE CARDS: each row of YtcccnicldbpieaaGreatDoorRows.lean that lists a variable, with what it lists TIED to the program's text (the seventh form; the later family's looks); each row that meets fmt, with fmt's text TOLD by the authors' own Lean function (tested against real Go, not proved from fmt's source: count such statements apart). THE CARD IS WHAT COUNTS. Prove the row's statement (the work); the ties are given (YtcccnicldbpieaaGreatDoorTie.lean); close each card by the builder's one call (the guide's Derived/Test/ToyasCard.lean, 'card_holds'). Laid BY PROGRAM, IN A SANDBOX (cutbox-door.mjs). By AI agents, Wed Nov 11 2026. No macro, syntax, notation, axiom, sorry.
-/
import Derived.Test.YtcccnicldbpieaaGreatDoorRows
import GoSem.ClaimSeven
namespace Go.Proofs.YtcccnicldbpieaaGreatDoor
namespace Rows

/-- THE TIED CARD OF 'interlocklaw05.ParseAny'. -/
def parseAnyCard : Claim7 := { stood := { row := parseAnyRow, standIns := [], harness := (true, "1263c963f4fad343a8aaa8696a6f6a85e7fe7575e1a0ca2b171174a1f06fa7ed"), looks := true }, kinds := [], alts := [], laidByText := true, laidKinds := [.handle], laidTests := true, laidLooks := .later }
def ParseAnyCardSaid : Prop := Claim7.holds Tryz.pinned (.plain (OpenSpec.ofChange parseAnySpec)) parseAnyCard

/-- THE TIED CARD OF 'interlocklaw05.ParseBegins'. -/
def parseBeginsCard : Claim7 := { stood := { row := parseBeginsRow, standIns := [], harness := (true, "1263c963f4fad343a8aaa8696a6f6a85e7fe7575e1a0ca2b171174a1f06fa7ed"), looks := true }, kinds := [], alts := [], laidByText := true, laidKinds := [.handle], laidTests := true, laidLooks := .later }
def ParseBeginsCardSaid : Prop := Claim7.holds Tryz.pinned (.plain (OpenSpec.ofChange parseBeginsSpec)) parseBeginsCard

/-- THE TIED CARD OF 'interlocklaw05.ParseJoined'. -/
def parseJoinedCard : Claim7 := { stood := { row := parseJoinedRow, standIns := [], harness := (true, "1263c963f4fad343a8aaa8696a6f6a85e7fe7575e1a0ca2b171174a1f06fa7ed"), looks := true }, kinds := [], alts := [], laidByText := true, laidKinds := [.handle], laidTests := true, laidLooks := .later }
def ParseJoinedCardSaid : Prop := Claim7.holds Tryz.pinned (.plain (OpenSpec.ofChange parseJoinedSpec)) parseJoinedCard

/-- THE TIED CARD OF 'interlocklaw05.ParseBlanks'. -/
def parseBlanksCard : Claim7 := { stood := { row := parseBlanksRow, standIns := [], harness := (true, "1263c963f4fad343a8aaa8696a6f6a85e7fe7575e1a0ca2b171174a1f06fa7ed"), looks := true }, kinds := [], alts := [], laidByText := true, laidKinds := [.handle], laidTests := true, laidLooks := .later }
def ParseBlanksCardSaid : Prop := Claim7.holds Tryz.pinned (.plain (OpenSpec.ofChange parseBlanksSpec)) parseBlanksCard

/-- THE TIED CARD OF 'interlocklaw05.ParseKnown'. -/
def parseKnownCard : Claim7 := { stood := { row := parseKnownRow, standIns := [], harness := (true, "1263c963f4fad343a8aaa8696a6f6a85e7fe7575e1a0ca2b171174a1f06fa7ed"), looks := true }, kinds := [], alts := [], laidByText := true, laidKinds := [.handle], laidTests := true, laidLooks := .later }
def ParseKnownCardSaid : Prop := Claim7.holds Tryz.pinned (.plain (OpenSpec.ofChange parseKnownSpec)) parseKnownCard

/-- THE SECOND FORM's CARD OF 'interlocklaw05.ParseAny'. -/
def parseAnyUptoCard : Claim7 := { stood := { row := parseAnyUptoRow, standIns := [], harness := (true, "1263c963f4fad343a8aaa8696a6f6a85e7fe7575e1a0ca2b171174a1f06fa7ed"), looks := true }, kinds := [], alts := [], laidByText := true, laidKinds := [.handle], laidTests := true, laidLooks := .later }
def ParseAnyUptoCardSaid : Prop := Claim7.holds Tryz.pinned (.plain (OpenSpec.upto parseAnySpec)) parseAnyUptoCard

/-- THE SECOND FORM's CARD OF 'interlocklaw05.ParseBegins'. -/
def parseBeginsUptoCard : Claim7 := { stood := { row := parseBeginsUptoRow, standIns := [], harness := (true, "1263c963f4fad343a8aaa8696a6f6a85e7fe7575e1a0ca2b171174a1f06fa7ed"), looks := true }, kinds := [], alts := [], laidByText := true, laidKinds := [.handle], laidTests := true, laidLooks := .later }
def ParseBeginsUptoCardSaid : Prop := Claim7.holds Tryz.pinned (.plain (OpenSpec.upto parseBeginsSpec)) parseBeginsUptoCard

/-- THE SECOND FORM's CARD OF 'interlocklaw05.ParseJoined'. -/
def parseJoinedUptoCard : Claim7 := { stood := { row := parseJoinedUptoRow, standIns := [], harness := (true, "1263c963f4fad343a8aaa8696a6f6a85e7fe7575e1a0ca2b171174a1f06fa7ed"), looks := true }, kinds := [], alts := [], laidByText := true, laidKinds := [.handle], laidTests := true, laidLooks := .later }
def ParseJoinedUptoCardSaid : Prop := Claim7.holds Tryz.pinned (.plain (OpenSpec.upto parseJoinedSpec)) parseJoinedUptoCard

/-- THE SECOND FORM's CARD OF 'interlocklaw05.ParseBlanks'. -/
def parseBlanksUptoCard : Claim7 := { stood := { row := parseBlanksUptoRow, standIns := [], harness := (true, "1263c963f4fad343a8aaa8696a6f6a85e7fe7575e1a0ca2b171174a1f06fa7ed"), looks := true }, kinds := [], alts := [], laidByText := true, laidKinds := [.handle], laidTests := true, laidLooks := .later }
def ParseBlanksUptoCardSaid : Prop := Claim7.holds Tryz.pinned (.plain (OpenSpec.upto parseBlanksSpec)) parseBlanksUptoCard

/-- THE SECOND FORM's CARD OF 'interlocklaw05.ParseKnown'. -/
def parseKnownUptoCard : Claim7 := { stood := { row := parseKnownUptoRow, standIns := [], harness := (true, "1263c963f4fad343a8aaa8696a6f6a85e7fe7575e1a0ca2b171174a1f06fa7ed"), looks := true }, kinds := [], alts := [], laidByText := true, laidKinds := [.handle], laidTests := true, laidLooks := .later }
def ParseKnownUptoCardSaid : Prop := Claim7.holds Tryz.pinned (.plain (OpenSpec.upto parseKnownSpec)) parseKnownUptoCard
end Rows
end Go.Proofs.YtcccnicldbpieaaGreatDoor
