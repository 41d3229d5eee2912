/-
  DERIVED. GIVEN WITH THE SEED: THE CARDS: each row of YtjjeebocebhhaaaDoorRows.lean that lists a variable, with what it lists TIED to the program's text (the seventh form; the later family's looks); each row that meets fmt, with fmt's text TOLD by the authors' own Lean function (tested against real Go, not proved from fmt's source: count such statements apart). THE CARD IS WHAT COUNTS. Prove the row's statement (the work); the ties are given (YtjjeebocebhhaaaDoorTie.lean); close each card by the builder's one call (the guide's Derived/Test/ToyasCard.lean, 'card_holds'). Laid BY PROGRAM, IN A SANDBOX (cutbox-door.mjs). By AI agents, Wed Nov 11 2026. No macro, syntax, notation, axiom, sorry.
-/
import Derived.Test.YtjjeebocebhhaaaDoorRows
import GoSem.ClaimSeven
namespace Go.Proofs.YtjjeebocebhhaaaDoor
namespace Rows

/-- THE TIED CARD OF 'interlocklaw02.DiagPlaces'. -/
def diagPlacesCard : Claim7 := { stood := { row := diagPlacesRow, standIns := [], harness := (true, "70eebd13ff518c90df7d887320b351af499de02b3496d954eaca788fa0336262"), looks := true }, kinds := [], alts := [], laidByText := true, laidKinds := [.handle], laidTests := true, laidLooks := .later }
def DiagPlacesCardSaid : Prop := Claim7.holds Tryd.pinned (.plain (OpenSpec.ofChange diagPlacesSpec)) diagPlacesCard

/-- THE TIED CARD OF 'interlocklaw03.LexAny'. -/
def lexAnyCard : Claim7 := { stood := { row := lexAnyRow, standIns := [], harness := (true, "70eebd13ff518c90df7d887320b351af499de02b3496d954eaca788fa0336262"), looks := true }, kinds := [], alts := [], laidByText := true, laidKinds := [.handle], laidTests := true, laidLooks := .later }
def LexAnyCardSaid : Prop := Claim7.holds Tryd.pinned (.plain (OpenSpec.ofChange lexAnySpec)) lexAnyCard

/-- THE TIED CARD OF 'interlocklaw03.LexRises'. -/
def lexRisesCard : Claim7 := { stood := { row := lexRisesRow, standIns := [], harness := (true, "70eebd13ff518c90df7d887320b351af499de02b3496d954eaca788fa0336262"), looks := true }, kinds := [], alts := [], laidByText := true, laidKinds := [.handle], laidTests := true, laidLooks := .later }
def LexRisesCardSaid : Prop := Claim7.holds Tryd.pinned (.plain (OpenSpec.ofChange lexRisesSpec)) lexRisesCard

/-- THE TIED CARD OF 'interlocklaw03.LexBlanks'. -/
def lexBlanksCard : Claim7 := { stood := { row := lexBlanksRow, standIns := [], harness := (true, "70eebd13ff518c90df7d887320b351af499de02b3496d954eaca788fa0336262"), looks := true }, kinds := [], alts := [], laidByText := true, laidKinds := [.handle], laidTests := true, laidLooks := .later }
def LexBlanksCardSaid : Prop := Claim7.holds Tryd.pinned (.plain (OpenSpec.ofChange lexBlanksSpec)) lexBlanksCard

/-- THE TIED CARD OF 'interlocklaw03.LexJoined'. -/
def lexJoinedCard : Claim7 := { stood := { row := lexJoinedRow, standIns := [], harness := (true, "70eebd13ff518c90df7d887320b351af499de02b3496d954eaca788fa0336262"), looks := true }, kinds := [], alts := [], laidByText := true, laidKinds := [.handle], laidTests := true, laidLooks := .later }
def LexJoinedCardSaid : Prop := Claim7.holds Tryd.pinned (.plain (OpenSpec.ofChange lexJoinedSpec)) lexJoinedCard

/-- THE TIED CARD OF 'interlocklaw03.LexNames'. -/
def lexNamesCard : Claim7 := { stood := { row := lexNamesRow, standIns := [], harness := (true, "70eebd13ff518c90df7d887320b351af499de02b3496d954eaca788fa0336262"), looks := true }, kinds := [], alts := [], laidByText := true, laidKinds := [.handle], laidTests := true, laidLooks := .later }
def LexNamesCardSaid : Prop := Claim7.holds Tryd.pinned (.plain (OpenSpec.ofChange lexNamesSpec)) lexNamesCard

/-- THE TIED CARD OF 'interlocklaw03.LexKnown'. -/
def lexKnownCard : Claim7 := { stood := { row := lexKnownRow, standIns := [], harness := (true, "70eebd13ff518c90df7d887320b351af499de02b3496d954eaca788fa0336262"), looks := true }, kinds := [], alts := [], laidByText := true, laidKinds := [.handle], laidTests := true, laidLooks := .later }
def LexKnownCardSaid : Prop := Claim7.holds Tryd.pinned (.plain (OpenSpec.ofChange lexKnownSpec)) lexKnownCard

/-- THE TIED CARD OF 'interlocklaw02.DiagNew'. -/
def diagNewCard : Claim7 := { stood := { row := diagNewRow, standIns := [], harness := (true, "70eebd13ff518c90df7d887320b351af499de02b3496d954eaca788fa0336262"), looks := true }, kinds := [], alts := [], laidByText := true, laidKinds := [.data, .data, .data, .handle], laidTests := true, laidLooks := .later }
def DiagNewCardSaid : Prop := Claim7.holds Tryd.pinned (.plain (OpenSpec.ofChange diagNewSpec)) diagNewCard

/-- THE TIED CARD OF 'interlocklaw02.DiagIn'. -/
def diagInCard : Claim7 := { stood := { row := diagInRow, standIns := [], harness := (true, "70eebd13ff518c90df7d887320b351af499de02b3496d954eaca788fa0336262"), looks := true }, kinds := [], alts := [], laidByText := true, laidKinds := [.handle], laidTests := true, laidLooks := .later }
def DiagInCardSaid : Prop := Claim7.holds Tryd.pinned (.plain (OpenSpec.ofChange diagInSpec)) diagInCard

/-- THE SECOND FORM's CARD OF 'interlocklaw02.DiagPlaces'. -/
def diagPlacesUptoCard : Claim7 := { stood := { row := diagPlacesUptoRow, standIns := [], harness := (true, "70eebd13ff518c90df7d887320b351af499de02b3496d954eaca788fa0336262"), looks := true }, kinds := [], alts := [], laidByText := true, laidKinds := [.handle], laidTests := true, laidLooks := .later }
def DiagPlacesUptoCardSaid : Prop := Claim7.holds Tryd.pinned (.plain (OpenSpec.upto diagPlacesSpec)) diagPlacesUptoCard

/-- THE SECOND FORM's CARD OF 'interlocklaw03.LexAny'. -/
def lexAnyUptoCard : Claim7 := { stood := { row := lexAnyUptoRow, standIns := [], harness := (true, "70eebd13ff518c90df7d887320b351af499de02b3496d954eaca788fa0336262"), looks := true }, kinds := [], alts := [], laidByText := true, laidKinds := [.handle], laidTests := true, laidLooks := .later }
def LexAnyUptoCardSaid : Prop := Claim7.holds Tryd.pinned (.plain (OpenSpec.upto lexAnySpec)) lexAnyUptoCard

/-- THE SECOND FORM's CARD OF 'interlocklaw03.LexRises'. -/
def lexRisesUptoCard : Claim7 := { stood := { row := lexRisesUptoRow, standIns := [], harness := (true, "70eebd13ff518c90df7d887320b351af499de02b3496d954eaca788fa0336262"), looks := true }, kinds := [], alts := [], laidByText := true, laidKinds := [.handle], laidTests := true, laidLooks := .later }
def LexRisesUptoCardSaid : Prop := Claim7.holds Tryd.pinned (.plain (OpenSpec.upto lexRisesSpec)) lexRisesUptoCard

/-- THE SECOND FORM's CARD OF 'interlocklaw03.LexBlanks'. -/
def lexBlanksUptoCard : Claim7 := { stood := { row := lexBlanksUptoRow, standIns := [], harness := (true, "70eebd13ff518c90df7d887320b351af499de02b3496d954eaca788fa0336262"), looks := true }, kinds := [], alts := [], laidByText := true, laidKinds := [.handle], laidTests := true, laidLooks := .later }
def LexBlanksUptoCardSaid : Prop := Claim7.holds Tryd.pinned (.plain (OpenSpec.upto lexBlanksSpec)) lexBlanksUptoCard

/-- THE SECOND FORM's CARD OF 'interlocklaw03.LexJoined'. -/
def lexJoinedUptoCard : Claim7 := { stood := { row := lexJoinedUptoRow, standIns := [], harness := (true, "70eebd13ff518c90df7d887320b351af499de02b3496d954eaca788fa0336262"), looks := true }, kinds := [], alts := [], laidByText := true, laidKinds := [.handle], laidTests := true, laidLooks := .later }
def LexJoinedUptoCardSaid : Prop := Claim7.holds Tryd.pinned (.plain (OpenSpec.upto lexJoinedSpec)) lexJoinedUptoCard

/-- THE SECOND FORM's CARD OF 'interlocklaw03.LexNames'. -/
def lexNamesUptoCard : Claim7 := { stood := { row := lexNamesUptoRow, standIns := [], harness := (true, "70eebd13ff518c90df7d887320b351af499de02b3496d954eaca788fa0336262"), looks := true }, kinds := [], alts := [], laidByText := true, laidKinds := [.handle], laidTests := true, laidLooks := .later }
def LexNamesUptoCardSaid : Prop := Claim7.holds Tryd.pinned (.plain (OpenSpec.upto lexNamesSpec)) lexNamesUptoCard

/-- THE SECOND FORM's CARD OF 'interlocklaw03.LexKnown'. -/
def lexKnownUptoCard : Claim7 := { stood := { row := lexKnownUptoRow, standIns := [], harness := (true, "70eebd13ff518c90df7d887320b351af499de02b3496d954eaca788fa0336262"), looks := true }, kinds := [], alts := [], laidByText := true, laidKinds := [.handle], laidTests := true, laidLooks := .later }
def LexKnownUptoCardSaid : Prop := Claim7.holds Tryd.pinned (.plain (OpenSpec.upto lexKnownSpec)) lexKnownUptoCard

/-- THE SECOND FORM's CARD OF 'interlocklaw02.DiagNew'. -/
def diagNewUptoCard : Claim7 := { stood := { row := diagNewUptoRow, standIns := [], harness := (true, "70eebd13ff518c90df7d887320b351af499de02b3496d954eaca788fa0336262"), looks := true }, kinds := [], alts := [], laidByText := true, laidKinds := [.data, .data, .data, .handle], laidTests := true, laidLooks := .later }
def DiagNewUptoCardSaid : Prop := Claim7.holds Tryd.pinned (.plain (OpenSpec.upto diagNewSpec)) diagNewUptoCard

/-- THE SECOND FORM's CARD OF 'interlocklaw02.DiagIn'. -/
def diagInUptoCard : Claim7 := { stood := { row := diagInUptoRow, standIns := [], harness := (true, "70eebd13ff518c90df7d887320b351af499de02b3496d954eaca788fa0336262"), looks := true }, kinds := [], alts := [], laidByText := true, laidKinds := [.handle], laidTests := true, laidLooks := .later }
def DiagInUptoCardSaid : Prop := Claim7.holds Tryd.pinned (.plain (OpenSpec.upto diagInSpec)) diagInUptoCard
end Rows
end Go.Proofs.YtjjeebocebhhaaaDoor
