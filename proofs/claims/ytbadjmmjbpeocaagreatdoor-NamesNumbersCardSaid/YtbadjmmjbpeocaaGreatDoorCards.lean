/-
  DERIVED. GIVEN WITH THE SEED: THE CARDS: each row of YtbadjmmjbpeocaaGreatDoorRows.lean that lists a variable, with what it lists TIED to the program's text (the seventh form; the later family's looks); each row that meets fmt, with fmt's text TOLD by the authors' own Lean function (tested against real Go, not proved from fmt's source: count such statements apart). THE CARD IS WHAT COUNTS. Prove the row's statement (the work); the ties are given (YtbadjmmjbpeocaaGreatDoorTie.lean); close each card by the builder's one call (the guide's Derived/Test/ToyasCard.lean, 'card_holds'). Laid BY PROGRAM, IN A SANDBOX (cutbox-door.mjs). By AI agents, Wed Nov 11 2026. No macro, syntax, notation, axiom, sorry.
-/
import Derived.Test.YtbadjmmjbpeocaaGreatDoorRows
import GoSem.ClaimSeven
namespace Go.Proofs.YtbadjmmjbpeocaaGreatDoor
namespace Rows

/-- THE TIED CARD OF 'interlocklaw07.NamesNumbers'. -/
def namesNumbersCard : Claim7 := { stood := { row := namesNumbersRow, standIns := [], harness := (true, "1b10daf3feee8bfae661469eca5b7726a1348d1c7c348a4cae56c6d33c8fbb9f"), looks := true }, kinds := [], alts := [], laidByText := true, laidKinds := [.handle], laidTests := true, laidLooks := .later }
def NamesNumbersCardSaid : Prop := Claim7.holds Tryz.pinned (.plain (OpenSpec.ofChange namesNumbersSpec)) namesNumbersCard

/-- THE TIED CARD OF 'interlocklaw07.NamesSource'. -/
def namesSourceCard : Claim7 := { stood := { row := namesSourceRow, standIns := [], harness := (true, "1b10daf3feee8bfae661469eca5b7726a1348d1c7c348a4cae56c6d33c8fbb9f"), looks := true }, kinds := [], alts := [], laidByText := true, laidKinds := [.handle], laidTests := true, laidLooks := .later }
def NamesSourceCardSaid : Prop := Claim7.holds Tryz.pinned (.plain (OpenSpec.ofChange namesSourceSpec)) namesSourceCard

/-- THE TIED CARD OF 'interlocklaw07.NamesAny'. -/
def namesAnyCard : Claim7 := { stood := { row := namesAnyRow, standIns := [], harness := (true, "1b10daf3feee8bfae661469eca5b7726a1348d1c7c348a4cae56c6d33c8fbb9f"), looks := true }, kinds := [], alts := [], laidByText := true, laidKinds := [.handle], laidTests := true, laidLooks := .later }
def NamesAnyCardSaid : Prop := Claim7.holds Tryz.pinned (.plain (OpenSpec.ofChange namesAnySpec)) namesAnyCard

/-- THE SECOND FORM's CARD OF 'interlocklaw07.NamesNumbers'. -/
def namesNumbersUptoCard : Claim7 := { stood := { row := namesNumbersUptoRow, standIns := [], harness := (true, "1b10daf3feee8bfae661469eca5b7726a1348d1c7c348a4cae56c6d33c8fbb9f"), looks := true }, kinds := [], alts := [], laidByText := true, laidKinds := [.handle], laidTests := true, laidLooks := .later }
def NamesNumbersUptoCardSaid : Prop := Claim7.holds Tryz.pinned (.plain (OpenSpec.upto namesNumbersSpec)) namesNumbersUptoCard

/-- THE SECOND FORM's CARD OF 'interlocklaw07.NamesSource'. -/
def namesSourceUptoCard : Claim7 := { stood := { row := namesSourceUptoRow, standIns := [], harness := (true, "1b10daf3feee8bfae661469eca5b7726a1348d1c7c348a4cae56c6d33c8fbb9f"), looks := true }, kinds := [], alts := [], laidByText := true, laidKinds := [.handle], laidTests := true, laidLooks := .later }
def NamesSourceUptoCardSaid : Prop := Claim7.holds Tryz.pinned (.plain (OpenSpec.upto namesSourceSpec)) namesSourceUptoCard

/-- THE SECOND FORM's CARD OF 'interlocklaw07.NamesAny'. -/
def namesAnyUptoCard : Claim7 := { stood := { row := namesAnyUptoRow, standIns := [], harness := (true, "1b10daf3feee8bfae661469eca5b7726a1348d1c7c348a4cae56c6d33c8fbb9f"), looks := true }, kinds := [], alts := [], laidByText := true, laidKinds := [.handle], laidTests := true, laidLooks := .later }
def NamesAnyUptoCardSaid : Prop := Claim7.holds Tryz.pinned (.plain (OpenSpec.upto namesAnySpec)) namesAnyUptoCard
end Rows
end Go.Proofs.YtbadjmmjbpeocaaGreatDoor
