/-
  DERIVED. GIVEN WITH THE SEED: THE CARDS: each row of YtioffpjajhalaaaGreatDoorRows.lean that lists a variable, with what it lists TIED to the program's text (the seventh form; the later family's looks); each row that meets fmt, with fmt's text TOLD by the authors' own Lean function (tested against real Go, not proved from fmt's source: count such statements apart). THE CARD IS WHAT COUNTS. Prove the row's statement (the work); the ties are given (YtioffpjajhalaaaGreatDoorTie.lean); close each card by the builder's one call (the guide's Derived/Test/ToyasCard.lean, 'card_holds'). Laid BY PROGRAM, IN A SANDBOX (cutbox-door.mjs). By AI agents, Wed Nov 11 2026. No macro, syntax, notation, axiom, sorry.
-/
import Derived.Test.YtioffpjajhalaaaGreatDoorRows
import GoSem.ClaimSeven
namespace Go.Proofs.YtioffpjajhalaaaGreatDoor
namespace Rows

/-- THE TIED CARD OF 'interlocklaw05.ParseKnown'. -/
def parseKnownCard : Claim7 := { stood := { row := parseKnownRow, standIns := [], harness := (true, "d75ebf5cbd8b9ff02b74a799e06e7447155754e088c2dd8a3ec9ff4b2b3bfe8c"), looks := true }, kinds := [], alts := [], laidByText := true, laidKinds := [.handle], laidTests := true, laidLooks := .later }
def ParseKnownCardSaid : Prop := Claim7.holds Tryz.pinned (.plain (OpenSpec.ofChange parseKnownSpec)) parseKnownCard

/-- THE TIED CARD OF 'interlocklaw06.PrintSource'. -/
def printSourceCard : Claim7 := { stood := { row := printSourceRow, standIns := [], harness := (true, "d75ebf5cbd8b9ff02b74a799e06e7447155754e088c2dd8a3ec9ff4b2b3bfe8c"), looks := true }, kinds := [], alts := [], laidByText := true, laidKinds := [.data, .data, .data], laidTests := true, laidLooks := .later }
def PrintSourceCardSaid : Prop := Claim7.holds Tryz.pinned (.plain (OpenSpec.ofChange printSourceSpec)) printSourceCard

/-- THE TIED CARD OF 'interlocklaw06.PrintExprs'. -/
def printExprsCard : Claim7 := { stood := { row := printExprsRow, standIns := [], harness := (true, "d75ebf5cbd8b9ff02b74a799e06e7447155754e088c2dd8a3ec9ff4b2b3bfe8c"), looks := true }, kinds := [], alts := [], laidByText := true, laidKinds := [.data, .data, .data], laidTests := true, laidLooks := .later }
def PrintExprsCardSaid : Prop := Claim7.holds Tryz.pinned (.plain (OpenSpec.ofChange printExprsSpec)) printExprsCard

/-- THE TIED CARD OF 'interlocklaw06.PrintAny'. -/
def printAnyCard : Claim7 := { stood := { row := printAnyRow, standIns := [], harness := (true, "d75ebf5cbd8b9ff02b74a799e06e7447155754e088c2dd8a3ec9ff4b2b3bfe8c"), looks := true }, kinds := [], alts := [], laidByText := true, laidKinds := [.data, .data, .data, .handle], laidTests := true, laidLooks := .later }
def PrintAnyCardSaid : Prop := Claim7.holds Tryz.pinned (.plain (OpenSpec.ofChange printAnySpec)) printAnyCard

/-- THE TIED CARD OF 'interlocklaw06.PrintParsed'. -/
def printParsedCard : Claim7 := { stood := { row := printParsedRow, standIns := [], harness := (true, "d75ebf5cbd8b9ff02b74a799e06e7447155754e088c2dd8a3ec9ff4b2b3bfe8c"), looks := true }, kinds := [], alts := [], laidByText := true, laidKinds := [.data, .data, .data, .handle], laidTests := true, laidLooks := .later }
def PrintParsedCardSaid : Prop := Claim7.holds Tryz.pinned (.plain (OpenSpec.ofChange printParsedSpec)) printParsedCard

/-- THE TIED CARD OF 'interlocklaw06.PrintKnown'. -/
def printKnownCard : Claim7 := { stood := { row := printKnownRow, standIns := [], harness := (true, "d75ebf5cbd8b9ff02b74a799e06e7447155754e088c2dd8a3ec9ff4b2b3bfe8c"), looks := true }, kinds := [], alts := [], laidByText := true, laidKinds := [.data, .data, .data, .handle], laidTests := true, laidLooks := .later }
def PrintKnownCardSaid : Prop := Claim7.holds Tryz.pinned (.plain (OpenSpec.ofChange printKnownSpec)) printKnownCard

/-- THE SECOND FORM's CARD OF 'interlocklaw05.ParseKnown'. -/
def parseKnownUptoCard : Claim7 := { stood := { row := parseKnownUptoRow, standIns := [], harness := (true, "d75ebf5cbd8b9ff02b74a799e06e7447155754e088c2dd8a3ec9ff4b2b3bfe8c"), looks := true }, kinds := [], alts := [], laidByText := true, laidKinds := [.handle], laidTests := true, laidLooks := .later }
def ParseKnownUptoCardSaid : Prop := Claim7.holds Tryz.pinned (.plain (OpenSpec.upto parseKnownSpec)) parseKnownUptoCard

/-- THE SECOND FORM's CARD OF 'interlocklaw06.PrintSource'. -/
def printSourceUptoCard : Claim7 := { stood := { row := printSourceUptoRow, standIns := [], harness := (true, "d75ebf5cbd8b9ff02b74a799e06e7447155754e088c2dd8a3ec9ff4b2b3bfe8c"), looks := true }, kinds := [], alts := [], laidByText := true, laidKinds := [.data, .data, .data], laidTests := true, laidLooks := .later }
def PrintSourceUptoCardSaid : Prop := Claim7.holds Tryz.pinned (.plain (OpenSpec.upto printSourceSpec)) printSourceUptoCard

/-- THE SECOND FORM's CARD OF 'interlocklaw06.PrintExprs'. -/
def printExprsUptoCard : Claim7 := { stood := { row := printExprsUptoRow, standIns := [], harness := (true, "d75ebf5cbd8b9ff02b74a799e06e7447155754e088c2dd8a3ec9ff4b2b3bfe8c"), looks := true }, kinds := [], alts := [], laidByText := true, laidKinds := [.data, .data, .data], laidTests := true, laidLooks := .later }
def PrintExprsUptoCardSaid : Prop := Claim7.holds Tryz.pinned (.plain (OpenSpec.upto printExprsSpec)) printExprsUptoCard

/-- THE SECOND FORM's CARD OF 'interlocklaw06.PrintAny'. -/
def printAnyUptoCard : Claim7 := { stood := { row := printAnyUptoRow, standIns := [], harness := (true, "d75ebf5cbd8b9ff02b74a799e06e7447155754e088c2dd8a3ec9ff4b2b3bfe8c"), looks := true }, kinds := [], alts := [], laidByText := true, laidKinds := [.data, .data, .data, .handle], laidTests := true, laidLooks := .later }
def PrintAnyUptoCardSaid : Prop := Claim7.holds Tryz.pinned (.plain (OpenSpec.upto printAnySpec)) printAnyUptoCard

/-- THE SECOND FORM's CARD OF 'interlocklaw06.PrintParsed'. -/
def printParsedUptoCard : Claim7 := { stood := { row := printParsedUptoRow, standIns := [], harness := (true, "d75ebf5cbd8b9ff02b74a799e06e7447155754e088c2dd8a3ec9ff4b2b3bfe8c"), looks := true }, kinds := [], alts := [], laidByText := true, laidKinds := [.data, .data, .data, .handle], laidTests := true, laidLooks := .later }
def PrintParsedUptoCardSaid : Prop := Claim7.holds Tryz.pinned (.plain (OpenSpec.upto printParsedSpec)) printParsedUptoCard

/-- THE SECOND FORM's CARD OF 'interlocklaw06.PrintKnown'. -/
def printKnownUptoCard : Claim7 := { stood := { row := printKnownUptoRow, standIns := [], harness := (true, "d75ebf5cbd8b9ff02b74a799e06e7447155754e088c2dd8a3ec9ff4b2b3bfe8c"), looks := true }, kinds := [], alts := [], laidByText := true, laidKinds := [.data, .data, .data, .handle], laidTests := true, laidLooks := .later }
def PrintKnownUptoCardSaid : Prop := Claim7.holds Tryz.pinned (.plain (OpenSpec.upto printKnownSpec)) printKnownUptoCard
end Rows
end Go.Proofs.YtioffpjajhalaaaGreatDoor
