/-
  DERIVED. GIVEN WITH THE SEED: THE CARDS: each row of YtjkifeladmhkoaaDoorRows.lean that lists a variable, with what it lists TIED to the program's text (the seventh form; the later family's looks); each row that meets fmt, with fmt's text TOLD by the authors' own Lean function (tested against real Go, not proved from fmt's source: count such statements apart). THE CARD IS WHAT COUNTS. Prove the row's statement (the work); the ties are given (YtjkifeladmhkoaaDoorTie.lean); close each card by the builder's one call (the guide's Derived/Test/ToyasCard.lean, 'card_holds'). Laid BY PROGRAM, IN A SANDBOX (cutbox-door.mjs). By AI agents, Wed Nov 11 2026. No macro, syntax, notation, axiom, sorry.
-/
import Derived.Test.YtjkifeladmhkoaaDoorRows
import GoSem.ClaimSeven
namespace Go.Proofs.YtjkifeladmhkoaaDoor
namespace Rows

/-- THE TIED CARD OF 'dovetaillaw08.EndsKnown'. -/
def endsKnownCard : Claim7 := { stood := { row := endsKnownRow, standIns := [], harness := (true, "3743a9b9dda5efd69b19d85f0f349f53d6f45a5f6fa91ce932a23b9218d631f4"), looks := true }, kinds := [], alts := [], laidByText := true, laidKinds := [.sentinel, .sentinel, .sentinel, .sentinel, .sentinel, .sentinel, .sentinel, .sentinel, .sentinel, .sentinel, .sentinel, .sentinel, .sentinel, .sentinel, .sentinel], laidTests := true, laidLooks := .later }
def EndsKnownCardSaid : Prop := Claim7.holds Tryd.pinned (.plain (OpenSpec.ofChange endsKnownSpec)) endsKnownCard

/-- THE TIED CARD OF 'dovetaillaw08.EndsTurned'. -/
def endsTurnedCard : Claim7 := { stood := { row := endsTurnedRow, standIns := [], harness := (true, "3743a9b9dda5efd69b19d85f0f349f53d6f45a5f6fa91ce932a23b9218d631f4"), looks := true }, kinds := [], alts := [], laidByText := true, laidKinds := [.sentinel, .sentinel, .sentinel, .sentinel, .sentinel, .sentinel, .sentinel, .sentinel, .sentinel, .sentinel, .sentinel, .sentinel, .sentinel, .sentinel, .sentinel], laidTests := true, laidLooks := .later }
def EndsTurnedCardSaid : Prop := Claim7.holds Tryd.pinned (.plain (OpenSpec.ofChange endsTurnedSpec)) endsTurnedCard

/-- THE TIED CARD OF 'dovetaillaw08.EndsWhy'. -/
def endsWhyCard : Claim7 := { stood := { row := endsWhyRow, standIns := [], harness := (true, "3743a9b9dda5efd69b19d85f0f349f53d6f45a5f6fa91ce932a23b9218d631f4"), looks := true }, kinds := [], alts := [], laidByText := true, laidKinds := [.sentinel, .sentinel, .sentinel, .sentinel, .sentinel, .sentinel, .sentinel, .sentinel, .sentinel, .sentinel, .sentinel, .sentinel, .sentinel, .sentinel, .sentinel], laidTests := true, laidLooks := .later }
def EndsWhyCardSaid : Prop := Claim7.holds Tryd.pinned (.plain (OpenSpec.ofChange endsWhySpec)) endsWhyCard

/-- THE TIED CARD OF 'dovetaillaw09.MatrixTurned'. -/
def matrixTurnedCard : Claim7 := { stood := { row := matrixTurnedRow, standIns := [], harness := (true, "3743a9b9dda5efd69b19d85f0f349f53d6f45a5f6fa91ce932a23b9218d631f4"), looks := true }, kinds := [], alts := [], laidByText := true, laidKinds := [.data, .sentinel, .sentinel, .sentinel], laidTests := true, laidLooks := .later }
def MatrixTurnedCardSaid : Prop := Claim7.holds Tryd.pinned (.plain (OpenSpec.ofChange matrixTurnedSpec)) matrixTurnedCard

/-- THE TIED CARD OF 'dovetaillaw08.EndsSets'. -/
def endsSetsCard : Claim7 := { stood := { row := endsSetsRow, standIns := [], harness := (true, "3743a9b9dda5efd69b19d85f0f349f53d6f45a5f6fa91ce932a23b9218d631f4"), looks := true }, kinds := [], alts := [], laidByText := true, laidKinds := [.handle, .sentinel, .sentinel, .sentinel, .sentinel, .sentinel, .sentinel, .sentinel, .sentinel, .sentinel, .sentinel, .sentinel, .sentinel, .sentinel, .sentinel, .sentinel], laidTests := true, laidLooks := .later }
def EndsSetsCardSaid : Prop := Claim7.holds Tryd.pinned (.plain (OpenSpec.ofChange endsSetsSpec)) endsSetsCard

/-- THE TIED CARD OF 'dovetaillaw08.EndsChains'. -/
def endsChainsCard : Claim7 := { stood := { row := endsChainsRow, standIns := [], harness := (true, "3743a9b9dda5efd69b19d85f0f349f53d6f45a5f6fa91ce932a23b9218d631f4"), looks := true }, kinds := [], alts := [], laidByText := true, laidKinds := [.handle, .sentinel, .sentinel, .sentinel, .sentinel, .sentinel, .sentinel, .sentinel, .sentinel, .sentinel, .sentinel, .sentinel, .sentinel, .sentinel, .sentinel, .sentinel], laidTests := true, laidLooks := .later }
def EndsChainsCardSaid : Prop := Claim7.holds Tryd.pinned (.plain (OpenSpec.ofChange endsChainsSpec)) endsChainsCard

/-- THE TIED CARD OF 'dovetaillaw09.MatrixReasons'. -/
def matrixReasonsCard : Claim7 := { stood := { row := matrixReasonsRow, standIns := [], harness := (true, "3743a9b9dda5efd69b19d85f0f349f53d6f45a5f6fa91ce932a23b9218d631f4"), looks := true }, kinds := [], alts := [], laidByText := true, laidKinds := [.data, .sentinel, .sentinel, .sentinel, .sentinel, .sentinel, .sentinel, .sentinel, .sentinel, .sentinel, .sentinel, .sentinel, .sentinel, .sentinel, .sentinel, .sentinel], laidTests := true, laidLooks := .later }
def MatrixReasonsCardSaid : Prop := Claim7.holds Tryd.pinned (.plain (OpenSpec.ofChange matrixReasonsSpec)) matrixReasonsCard

/-- THE TIED CARD OF 'dovetaillaw09.MatrixKnown'. -/
def matrixKnownCard : Claim7 := { stood := { row := matrixKnownRow, standIns := [], harness := (true, "3743a9b9dda5efd69b19d85f0f349f53d6f45a5f6fa91ce932a23b9218d631f4"), looks := true }, kinds := [], alts := [], laidByText := true, laidKinds := [.data, .sentinel, .sentinel, .sentinel, .sentinel, .sentinel, .sentinel, .sentinel, .sentinel, .sentinel, .sentinel, .sentinel, .sentinel, .sentinel, .sentinel, .sentinel], laidTests := true, laidLooks := .later }
def MatrixKnownCardSaid : Prop := Claim7.holds Tryd.pinned (.plain (OpenSpec.ofChange matrixKnownSpec)) matrixKnownCard

/-- THE TIED CARD OF 'dovetaillaw09.MatrixTells'. -/
def matrixTellsCard : Claim7 := { stood := { row := matrixTellsRow, standIns := [], harness := (true, "3743a9b9dda5efd69b19d85f0f349f53d6f45a5f6fa91ce932a23b9218d631f4"), looks := true }, kinds := [], alts := [], laidByText := true, laidKinds := [.data, .handle, .sentinel, .sentinel, .sentinel, .sentinel, .sentinel, .sentinel, .sentinel, .sentinel, .sentinel, .sentinel, .sentinel, .sentinel, .sentinel, .sentinel, .sentinel], laidTests := true, laidLooks := .later }
def MatrixTellsCardSaid : Prop := Claim7.holds Tryd.pinned (.plain (OpenSpec.ofChange matrixTellsSpec)) matrixTellsCard

/-- THE TIED CARD OF 'dovetaillaw09.MatrixWhy'. -/
def matrixWhyCard : Claim7 := { stood := { row := matrixWhyRow, standIns := [], harness := (true, "3743a9b9dda5efd69b19d85f0f349f53d6f45a5f6fa91ce932a23b9218d631f4"), looks := true }, kinds := [], alts := [], laidByText := true, laidKinds := [.data, .handle, .sentinel, .sentinel, .sentinel, .sentinel, .sentinel, .sentinel, .sentinel, .sentinel, .sentinel, .sentinel, .sentinel, .sentinel, .sentinel, .sentinel, .sentinel], laidTests := true, laidLooks := .later }
def MatrixWhyCardSaid : Prop := Claim7.holds Tryd.pinned (.plain (OpenSpec.ofChange matrixWhySpec)) matrixWhyCard

/-- THE SECOND FORM's CARD OF 'dovetaillaw08.EndsKnown'. -/
def endsKnownUptoCard : Claim7 := { stood := { row := endsKnownUptoRow, standIns := [], harness := (true, "3743a9b9dda5efd69b19d85f0f349f53d6f45a5f6fa91ce932a23b9218d631f4"), looks := true }, kinds := [], alts := [], laidByText := true, laidKinds := [.sentinel, .sentinel, .sentinel, .sentinel, .sentinel, .sentinel, .sentinel, .sentinel, .sentinel, .sentinel, .sentinel, .sentinel, .sentinel, .sentinel, .sentinel], laidTests := true, laidLooks := .later }
def EndsKnownUptoCardSaid : Prop := Claim7.holds Tryd.pinned (.plain (OpenSpec.upto endsKnownSpec)) endsKnownUptoCard

/-- THE SECOND FORM's CARD OF 'dovetaillaw08.EndsTurned'. -/
def endsTurnedUptoCard : Claim7 := { stood := { row := endsTurnedUptoRow, standIns := [], harness := (true, "3743a9b9dda5efd69b19d85f0f349f53d6f45a5f6fa91ce932a23b9218d631f4"), looks := true }, kinds := [], alts := [], laidByText := true, laidKinds := [.sentinel, .sentinel, .sentinel, .sentinel, .sentinel, .sentinel, .sentinel, .sentinel, .sentinel, .sentinel, .sentinel, .sentinel, .sentinel, .sentinel, .sentinel], laidTests := true, laidLooks := .later }
def EndsTurnedUptoCardSaid : Prop := Claim7.holds Tryd.pinned (.plain (OpenSpec.upto endsTurnedSpec)) endsTurnedUptoCard

/-- THE SECOND FORM's CARD OF 'dovetaillaw08.EndsWhy'. -/
def endsWhyUptoCard : Claim7 := { stood := { row := endsWhyUptoRow, standIns := [], harness := (true, "3743a9b9dda5efd69b19d85f0f349f53d6f45a5f6fa91ce932a23b9218d631f4"), looks := true }, kinds := [], alts := [], laidByText := true, laidKinds := [.sentinel, .sentinel, .sentinel, .sentinel, .sentinel, .sentinel, .sentinel, .sentinel, .sentinel, .sentinel, .sentinel, .sentinel, .sentinel, .sentinel, .sentinel], laidTests := true, laidLooks := .later }
def EndsWhyUptoCardSaid : Prop := Claim7.holds Tryd.pinned (.plain (OpenSpec.upto endsWhySpec)) endsWhyUptoCard

/-- THE SECOND FORM's CARD OF 'dovetaillaw09.MatrixTurned'. -/
def matrixTurnedUptoCard : Claim7 := { stood := { row := matrixTurnedUptoRow, standIns := [], harness := (true, "3743a9b9dda5efd69b19d85f0f349f53d6f45a5f6fa91ce932a23b9218d631f4"), looks := true }, kinds := [], alts := [], laidByText := true, laidKinds := [.data, .sentinel, .sentinel, .sentinel], laidTests := true, laidLooks := .later }
def MatrixTurnedUptoCardSaid : Prop := Claim7.holds Tryd.pinned (.plain (OpenSpec.upto matrixTurnedSpec)) matrixTurnedUptoCard

/-- THE SECOND FORM's CARD OF 'dovetaillaw08.EndsSets'. -/
def endsSetsUptoCard : Claim7 := { stood := { row := endsSetsUptoRow, standIns := [], harness := (true, "3743a9b9dda5efd69b19d85f0f349f53d6f45a5f6fa91ce932a23b9218d631f4"), looks := true }, kinds := [], alts := [], laidByText := true, laidKinds := [.handle, .sentinel, .sentinel, .sentinel, .sentinel, .sentinel, .sentinel, .sentinel, .sentinel, .sentinel, .sentinel, .sentinel, .sentinel, .sentinel, .sentinel, .sentinel], laidTests := true, laidLooks := .later }
def EndsSetsUptoCardSaid : Prop := Claim7.holds Tryd.pinned (.plain (OpenSpec.upto endsSetsSpec)) endsSetsUptoCard

/-- THE SECOND FORM's CARD OF 'dovetaillaw08.EndsChains'. -/
def endsChainsUptoCard : Claim7 := { stood := { row := endsChainsUptoRow, standIns := [], harness := (true, "3743a9b9dda5efd69b19d85f0f349f53d6f45a5f6fa91ce932a23b9218d631f4"), looks := true }, kinds := [], alts := [], laidByText := true, laidKinds := [.handle, .sentinel, .sentinel, .sentinel, .sentinel, .sentinel, .sentinel, .sentinel, .sentinel, .sentinel, .sentinel, .sentinel, .sentinel, .sentinel, .sentinel, .sentinel], laidTests := true, laidLooks := .later }
def EndsChainsUptoCardSaid : Prop := Claim7.holds Tryd.pinned (.plain (OpenSpec.upto endsChainsSpec)) endsChainsUptoCard

/-- THE SECOND FORM's CARD OF 'dovetaillaw09.MatrixReasons'. -/
def matrixReasonsUptoCard : Claim7 := { stood := { row := matrixReasonsUptoRow, standIns := [], harness := (true, "3743a9b9dda5efd69b19d85f0f349f53d6f45a5f6fa91ce932a23b9218d631f4"), looks := true }, kinds := [], alts := [], laidByText := true, laidKinds := [.data, .sentinel, .sentinel, .sentinel, .sentinel, .sentinel, .sentinel, .sentinel, .sentinel, .sentinel, .sentinel, .sentinel, .sentinel, .sentinel, .sentinel, .sentinel], laidTests := true, laidLooks := .later }
def MatrixReasonsUptoCardSaid : Prop := Claim7.holds Tryd.pinned (.plain (OpenSpec.upto matrixReasonsSpec)) matrixReasonsUptoCard

/-- THE SECOND FORM's CARD OF 'dovetaillaw09.MatrixKnown'. -/
def matrixKnownUptoCard : Claim7 := { stood := { row := matrixKnownUptoRow, standIns := [], harness := (true, "3743a9b9dda5efd69b19d85f0f349f53d6f45a5f6fa91ce932a23b9218d631f4"), looks := true }, kinds := [], alts := [], laidByText := true, laidKinds := [.data, .sentinel, .sentinel, .sentinel, .sentinel, .sentinel, .sentinel, .sentinel, .sentinel, .sentinel, .sentinel, .sentinel, .sentinel, .sentinel, .sentinel, .sentinel], laidTests := true, laidLooks := .later }
def MatrixKnownUptoCardSaid : Prop := Claim7.holds Tryd.pinned (.plain (OpenSpec.upto matrixKnownSpec)) matrixKnownUptoCard

/-- THE SECOND FORM's CARD OF 'dovetaillaw09.MatrixTells'. -/
def matrixTellsUptoCard : Claim7 := { stood := { row := matrixTellsUptoRow, standIns := [], harness := (true, "3743a9b9dda5efd69b19d85f0f349f53d6f45a5f6fa91ce932a23b9218d631f4"), looks := true }, kinds := [], alts := [], laidByText := true, laidKinds := [.data, .handle, .sentinel, .sentinel, .sentinel, .sentinel, .sentinel, .sentinel, .sentinel, .sentinel, .sentinel, .sentinel, .sentinel, .sentinel, .sentinel, .sentinel, .sentinel], laidTests := true, laidLooks := .later }
def MatrixTellsUptoCardSaid : Prop := Claim7.holds Tryd.pinned (.plain (OpenSpec.upto matrixTellsSpec)) matrixTellsUptoCard

/-- THE SECOND FORM's CARD OF 'dovetaillaw09.MatrixWhy'. -/
def matrixWhyUptoCard : Claim7 := { stood := { row := matrixWhyUptoRow, standIns := [], harness := (true, "3743a9b9dda5efd69b19d85f0f349f53d6f45a5f6fa91ce932a23b9218d631f4"), looks := true }, kinds := [], alts := [], laidByText := true, laidKinds := [.data, .handle, .sentinel, .sentinel, .sentinel, .sentinel, .sentinel, .sentinel, .sentinel, .sentinel, .sentinel, .sentinel, .sentinel, .sentinel, .sentinel, .sentinel, .sentinel], laidTests := true, laidLooks := .later }
def MatrixWhyUptoCardSaid : Prop := Claim7.holds Tryd.pinned (.plain (OpenSpec.upto matrixWhySpec)) matrixWhyUptoCard
end Rows
end Go.Proofs.YtjkifeladmhkoaaDoor
