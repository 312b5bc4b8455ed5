/-
  DERIVED. GIVEN WITH THE SEED: THE CARDS: each row of YteaiejippkikpaaDoorRows.lean that lists a variable, with what it lists TIED to the program's text (the seventh form; the later family's looks); each row that meets fmt, with fmt's text TOLD by the authors' own Lean function (tested against real Go, not proved from fmt's source: count such statements apart). THE CARD IS WHAT COUNTS. Prove the row's statement (the work); the ties are given (YteaiejippkikpaaDoorTie.lean); close each card by the builder's one call (the guide's Derived/Test/ToyasCard.lean, 'card_holds'). Laid BY PROGRAM, IN A SANDBOX (cutbox-door.mjs). By AI agents, Wed Nov 11 2026. No macro, syntax, notation, axiom, sorry.
-/
import Derived.Test.YteaiejippkikpaaDoorRows
import GoSem.ClaimSeven
namespace Go.Proofs.YteaiejippkikpaaDoor
namespace Rows

/-- THE TIED CARD OF 'dovetaillaw03.GramNames'. -/
def gramNamesCard : Claim7 := { stood := { row := gramNamesRow, standIns := [], harness := (true, "4b6b7bfc57c656f332dec11e120ea6295f338219cc25c047dd9b54e561bec09c"), looks := true }, kinds := [], alts := [], laidByText := true, laidKinds := [.sentinel, .sentinel, .sentinel], laidTests := true, laidLooks := .later }
def GramNamesCardSaid : Prop := Claim7.holds Tryd.pinned (.plain (OpenSpec.ofChange gramNamesSpec)) gramNamesCard

/-- THE TIED CARD OF 'dovetaillaw03.GramAbove'. -/
def gramAboveCard : Claim7 := { stood := { row := gramAboveRow, standIns := [], harness := (true, "4b6b7bfc57c656f332dec11e120ea6295f338219cc25c047dd9b54e561bec09c"), looks := true }, kinds := [], alts := [], laidByText := true, laidKinds := [.sentinel, .sentinel, .sentinel], laidTests := true, laidLooks := .later }
def GramAboveCardSaid : Prop := Claim7.holds Tryd.pinned (.plain (OpenSpec.ofChange gramAboveSpec)) gramAboveCard

/-- THE TIED CARD OF 'dovetaillaw03.GramSame'. -/
def gramSameCard : Claim7 := { stood := { row := gramSameRow, standIns := [], harness := (true, "4b6b7bfc57c656f332dec11e120ea6295f338219cc25c047dd9b54e561bec09c"), looks := true }, kinds := [], alts := [], laidByText := true, laidKinds := [.sentinel, .sentinel, .sentinel], laidTests := true, laidLooks := .later }
def GramSameCardSaid : Prop := Claim7.holds Tryd.pinned (.plain (OpenSpec.ofChange gramSameSpec)) gramSameCard

/-- THE TIED CARD OF 'dovetaillaw03.GramLess'. -/
def gramLessCard : Claim7 := { stood := { row := gramLessRow, standIns := [], harness := (true, "4b6b7bfc57c656f332dec11e120ea6295f338219cc25c047dd9b54e561bec09c"), looks := true }, kinds := [], alts := [], laidByText := true, laidKinds := [.handle, .sentinel, .sentinel, .sentinel, .sentinel, .sentinel, .sentinel, .sentinel, .sentinel, .sentinel, .sentinel, .sentinel, .sentinel, .sentinel, .sentinel, .sentinel], laidTests := true, laidLooks := .later }
def GramLessCardSaid : Prop := Claim7.holds Tryd.pinned (.plain (OpenSpec.ofChange gramLessSpec)) gramLessCard

/-- THE TIED CARD OF 'dovetaillaw02.WordsLines'. -/
def wordsLinesCard : Claim7 := { stood := { row := wordsLinesRow, standIns := [], harness := (true, "4b6b7bfc57c656f332dec11e120ea6295f338219cc25c047dd9b54e561bec09c"), looks := true }, kinds := [], alts := [], laidByText := true, laidKinds := [.handle, .sentinel, .sentinel, .sentinel, .sentinel, .sentinel, .sentinel, .sentinel, .sentinel, .sentinel, .sentinel, .sentinel, .sentinel, .sentinel, .sentinel, .sentinel], laidTests := true, laidLooks := .later }
def WordsLinesCardSaid : Prop := Claim7.holds Tryd.pinned (.plain (OpenSpec.ofChange wordsLinesSpec)) wordsLinesCard

/-- THE TIED CARD OF 'dovetaillaw03.GramBuilds'. -/
def gramBuildsCard : Claim7 := { stood := { row := gramBuildsRow, standIns := [], harness := (true, "4b6b7bfc57c656f332dec11e120ea6295f338219cc25c047dd9b54e561bec09c"), looks := true }, kinds := [], alts := [], laidByText := true, laidKinds := [.handle, .sentinel, .sentinel, .sentinel, .sentinel, .sentinel, .sentinel, .sentinel, .sentinel, .sentinel, .sentinel, .sentinel, .sentinel, .sentinel, .sentinel, .sentinel], laidTests := true, laidLooks := .later }
def GramBuildsCardSaid : Prop := Claim7.holds Tryd.pinned (.plain (OpenSpec.ofChange gramBuildsSpec)) gramBuildsCard

/-- THE TIED CARD OF 'dovetaillaw02.WordsPlaces'. -/
def wordsPlacesCard : Claim7 := { stood := { row := wordsPlacesRow, standIns := [], harness := (true, "4b6b7bfc57c656f332dec11e120ea6295f338219cc25c047dd9b54e561bec09c"), looks := true }, kinds := [], alts := [], laidByText := true, laidKinds := [.handle, .sentinel, .sentinel, .sentinel, .sentinel, .sentinel, .sentinel, .sentinel, .sentinel, .sentinel, .sentinel, .sentinel, .sentinel, .sentinel, .sentinel, .sentinel], laidTests := true, laidLooks := .later }
def WordsPlacesCardSaid : Prop := Claim7.holds Tryd.pinned (.plain (OpenSpec.ofChange wordsPlacesSpec)) wordsPlacesCard

/-- THE TIED CARD OF 'dovetaillaw02.WordsOwn'. -/
def wordsOwnCard : Claim7 := { stood := { row := wordsOwnRow, standIns := [], harness := (true, "4b6b7bfc57c656f332dec11e120ea6295f338219cc25c047dd9b54e561bec09c"), looks := true }, kinds := [], alts := [], laidByText := true, laidKinds := [.handle, .sentinel, .sentinel, .sentinel, .sentinel, .sentinel, .sentinel, .sentinel, .sentinel, .sentinel, .sentinel, .sentinel, .sentinel, .sentinel, .sentinel, .sentinel], laidTests := true, laidLooks := .later }
def WordsOwnCardSaid : Prop := Claim7.holds Tryd.pinned (.plain (OpenSpec.ofChange wordsOwnSpec)) wordsOwnCard

/-- THE TIED CARD OF 'dovetaillaw02.WordsBack'. -/
def wordsBackCard : Claim7 := { stood := { row := wordsBackRow, standIns := [], harness := (true, "4b6b7bfc57c656f332dec11e120ea6295f338219cc25c047dd9b54e561bec09c"), looks := true }, kinds := [], alts := [], laidByText := true, laidKinds := [.handle, .sentinel, .sentinel, .sentinel, .sentinel, .sentinel, .sentinel, .sentinel, .sentinel, .sentinel, .sentinel, .sentinel, .sentinel, .sentinel, .sentinel, .sentinel], laidTests := true, laidLooks := .later }
def WordsBackCardSaid : Prop := Claim7.holds Tryd.pinned (.plain (OpenSpec.ofChange wordsBackSpec)) wordsBackCard

/-- THE TIED CARD OF 'dovetaillaw03.GramKnown'. -/
def gramKnownCard : Claim7 := { stood := { row := gramKnownRow, standIns := [], harness := (true, "4b6b7bfc57c656f332dec11e120ea6295f338219cc25c047dd9b54e561bec09c"), looks := true }, kinds := [], alts := [], laidByText := true, laidKinds := [.handle, .sentinel, .sentinel, .sentinel, .sentinel, .sentinel, .sentinel, .sentinel, .sentinel, .sentinel, .sentinel, .sentinel, .sentinel, .sentinel, .sentinel, .sentinel], laidTests := true, laidLooks := .later }
def GramKnownCardSaid : Prop := Claim7.holds Tryd.pinned (.plain (OpenSpec.ofChange gramKnownSpec)) gramKnownCard

/-- THE SECOND FORM's CARD OF 'dovetaillaw03.GramNames'. -/
def gramNamesUptoCard : Claim7 := { stood := { row := gramNamesUptoRow, standIns := [], harness := (true, "4b6b7bfc57c656f332dec11e120ea6295f338219cc25c047dd9b54e561bec09c"), looks := true }, kinds := [], alts := [], laidByText := true, laidKinds := [.sentinel, .sentinel, .sentinel], laidTests := true, laidLooks := .later }
def GramNamesUptoCardSaid : Prop := Claim7.holds Tryd.pinned (.plain (OpenSpec.upto gramNamesSpec)) gramNamesUptoCard

/-- THE SECOND FORM's CARD OF 'dovetaillaw03.GramAbove'. -/
def gramAboveUptoCard : Claim7 := { stood := { row := gramAboveUptoRow, standIns := [], harness := (true, "4b6b7bfc57c656f332dec11e120ea6295f338219cc25c047dd9b54e561bec09c"), looks := true }, kinds := [], alts := [], laidByText := true, laidKinds := [.sentinel, .sentinel, .sentinel], laidTests := true, laidLooks := .later }
def GramAboveUptoCardSaid : Prop := Claim7.holds Tryd.pinned (.plain (OpenSpec.upto gramAboveSpec)) gramAboveUptoCard

/-- THE SECOND FORM's CARD OF 'dovetaillaw03.GramSame'. -/
def gramSameUptoCard : Claim7 := { stood := { row := gramSameUptoRow, standIns := [], harness := (true, "4b6b7bfc57c656f332dec11e120ea6295f338219cc25c047dd9b54e561bec09c"), looks := true }, kinds := [], alts := [], laidByText := true, laidKinds := [.sentinel, .sentinel, .sentinel], laidTests := true, laidLooks := .later }
def GramSameUptoCardSaid : Prop := Claim7.holds Tryd.pinned (.plain (OpenSpec.upto gramSameSpec)) gramSameUptoCard

/-- THE SECOND FORM's CARD OF 'dovetaillaw03.GramLess'. -/
def gramLessUptoCard : Claim7 := { stood := { row := gramLessUptoRow, standIns := [], harness := (true, "4b6b7bfc57c656f332dec11e120ea6295f338219cc25c047dd9b54e561bec09c"), looks := true }, kinds := [], alts := [], laidByText := true, laidKinds := [.handle, .sentinel, .sentinel, .sentinel, .sentinel, .sentinel, .sentinel, .sentinel, .sentinel, .sentinel, .sentinel, .sentinel, .sentinel, .sentinel, .sentinel, .sentinel], laidTests := true, laidLooks := .later }
def GramLessUptoCardSaid : Prop := Claim7.holds Tryd.pinned (.plain (OpenSpec.upto gramLessSpec)) gramLessUptoCard

/-- THE SECOND FORM's CARD OF 'dovetaillaw02.WordsLines'. -/
def wordsLinesUptoCard : Claim7 := { stood := { row := wordsLinesUptoRow, standIns := [], harness := (true, "4b6b7bfc57c656f332dec11e120ea6295f338219cc25c047dd9b54e561bec09c"), looks := true }, kinds := [], alts := [], laidByText := true, laidKinds := [.handle, .sentinel, .sentinel, .sentinel, .sentinel, .sentinel, .sentinel, .sentinel, .sentinel, .sentinel, .sentinel, .sentinel, .sentinel, .sentinel, .sentinel, .sentinel], laidTests := true, laidLooks := .later }
def WordsLinesUptoCardSaid : Prop := Claim7.holds Tryd.pinned (.plain (OpenSpec.upto wordsLinesSpec)) wordsLinesUptoCard

/-- THE SECOND FORM's CARD OF 'dovetaillaw03.GramBuilds'. -/
def gramBuildsUptoCard : Claim7 := { stood := { row := gramBuildsUptoRow, standIns := [], harness := (true, "4b6b7bfc57c656f332dec11e120ea6295f338219cc25c047dd9b54e561bec09c"), looks := true }, kinds := [], alts := [], laidByText := true, laidKinds := [.handle, .sentinel, .sentinel, .sentinel, .sentinel, .sentinel, .sentinel, .sentinel, .sentinel, .sentinel, .sentinel, .sentinel, .sentinel, .sentinel, .sentinel, .sentinel], laidTests := true, laidLooks := .later }
def GramBuildsUptoCardSaid : Prop := Claim7.holds Tryd.pinned (.plain (OpenSpec.upto gramBuildsSpec)) gramBuildsUptoCard

/-- THE SECOND FORM's CARD OF 'dovetaillaw02.WordsPlaces'. -/
def wordsPlacesUptoCard : Claim7 := { stood := { row := wordsPlacesUptoRow, standIns := [], harness := (true, "4b6b7bfc57c656f332dec11e120ea6295f338219cc25c047dd9b54e561bec09c"), looks := true }, kinds := [], alts := [], laidByText := true, laidKinds := [.handle, .sentinel, .sentinel, .sentinel, .sentinel, .sentinel, .sentinel, .sentinel, .sentinel, .sentinel, .sentinel, .sentinel, .sentinel, .sentinel, .sentinel, .sentinel], laidTests := true, laidLooks := .later }
def WordsPlacesUptoCardSaid : Prop := Claim7.holds Tryd.pinned (.plain (OpenSpec.upto wordsPlacesSpec)) wordsPlacesUptoCard

/-- THE SECOND FORM's CARD OF 'dovetaillaw02.WordsOwn'. -/
def wordsOwnUptoCard : Claim7 := { stood := { row := wordsOwnUptoRow, standIns := [], harness := (true, "4b6b7bfc57c656f332dec11e120ea6295f338219cc25c047dd9b54e561bec09c"), looks := true }, kinds := [], alts := [], laidByText := true, laidKinds := [.handle, .sentinel, .sentinel, .sentinel, .sentinel, .sentinel, .sentinel, .sentinel, .sentinel, .sentinel, .sentinel, .sentinel, .sentinel, .sentinel, .sentinel, .sentinel], laidTests := true, laidLooks := .later }
def WordsOwnUptoCardSaid : Prop := Claim7.holds Tryd.pinned (.plain (OpenSpec.upto wordsOwnSpec)) wordsOwnUptoCard

/-- THE SECOND FORM's CARD OF 'dovetaillaw02.WordsBack'. -/
def wordsBackUptoCard : Claim7 := { stood := { row := wordsBackUptoRow, standIns := [], harness := (true, "4b6b7bfc57c656f332dec11e120ea6295f338219cc25c047dd9b54e561bec09c"), looks := true }, kinds := [], alts := [], laidByText := true, laidKinds := [.handle, .sentinel, .sentinel, .sentinel, .sentinel, .sentinel, .sentinel, .sentinel, .sentinel, .sentinel, .sentinel, .sentinel, .sentinel, .sentinel, .sentinel, .sentinel], laidTests := true, laidLooks := .later }
def WordsBackUptoCardSaid : Prop := Claim7.holds Tryd.pinned (.plain (OpenSpec.upto wordsBackSpec)) wordsBackUptoCard

/-- THE SECOND FORM's CARD OF 'dovetaillaw03.GramKnown'. -/
def gramKnownUptoCard : Claim7 := { stood := { row := gramKnownUptoRow, standIns := [], harness := (true, "4b6b7bfc57c656f332dec11e120ea6295f338219cc25c047dd9b54e561bec09c"), looks := true }, kinds := [], alts := [], laidByText := true, laidKinds := [.handle, .sentinel, .sentinel, .sentinel, .sentinel, .sentinel, .sentinel, .sentinel, .sentinel, .sentinel, .sentinel, .sentinel, .sentinel, .sentinel, .sentinel, .sentinel], laidTests := true, laidLooks := .later }
def GramKnownUptoCardSaid : Prop := Claim7.holds Tryd.pinned (.plain (OpenSpec.upto gramKnownSpec)) gramKnownUptoCard
end Rows
end Go.Proofs.YteaiejippkikpaaDoor
