/-
  DERIVED. GIVEN WITH THE SEED: THE CARDS: each row of YtaeaookonhaliaaDoorRows.lean that lists a variable, with what it lists TIED to the program's text (the seventh form; the later family's looks); each row that meets fmt, with fmt's text TOLD by the authors' own Lean function (tested against real Go, not proved from fmt's source: count such statements apart). THE CARD IS WHAT COUNTS. Prove the row's statement (the work); the ties are given (YtaeaookonhaliaaDoorTie.lean); close each card by the builder's one call (the guide's Derived/Test/ToyasCard.lean, 'card_holds'). Laid BY PROGRAM, IN A SANDBOX (cutbox-door.mjs). By AI agents, Wed Nov 11 2026. No macro, syntax, notation, axiom, sorry.
-/
import Derived.Test.YtaeaookonhaliaaDoorRows
import GoSem.ClaimSeven
namespace Go.Proofs.YtaeaookonhaliaaDoor
namespace Rows

/-- THE TIED CARD OF 'dovetaillaw06.OpformSkeletons'. -/
def opformSkeletonsCard : Claim7 := { stood := { row := opformSkeletonsRow, standIns := [], harness := (true, "4275c0f1b87d96ea98d1c537017b52ed6105cb9ea42f62e70f27c72eadc3c5d3"), looks := true }, kinds := [], alts := [], laidByText := true, laidKinds := [.handle, .sentinel, .sentinel, .sentinel, .sentinel, .sentinel, .sentinel, .sentinel, .sentinel, .sentinel, .sentinel, .sentinel, .sentinel, .sentinel, .sentinel, .sentinel], laidTests := true, laidLooks := .later }
def OpformSkeletonsCardSaid : Prop := Claim7.holds Tryd.pinned (.plain (OpenSpec.ofChange opformSkeletonsSpec)) opformSkeletonsCard

/-- THE TIED CARD OF 'dovetaillaw06.OpformChecks'. -/
def opformChecksCard : Claim7 := { stood := { row := opformChecksRow, standIns := [], harness := (true, "4275c0f1b87d96ea98d1c537017b52ed6105cb9ea42f62e70f27c72eadc3c5d3"), looks := true }, kinds := [], alts := [], laidByText := true, laidKinds := [.handle, .sentinel, .sentinel, .sentinel, .sentinel, .sentinel, .sentinel, .sentinel, .sentinel, .sentinel, .sentinel, .sentinel, .sentinel, .sentinel, .sentinel, .sentinel], laidTests := true, laidLooks := .later }
def OpformChecksCardSaid : Prop := Claim7.holds Tryd.pinned (.plain (OpenSpec.ofChange opformChecksSpec)) opformChecksCard

/-- THE TIED CARD OF 'dovetaillaw06.OpformSides'. -/
def opformSidesCard : Claim7 := { stood := { row := opformSidesRow, standIns := [], harness := (true, "4275c0f1b87d96ea98d1c537017b52ed6105cb9ea42f62e70f27c72eadc3c5d3"), looks := true }, kinds := [], alts := [], laidByText := true, laidKinds := [.handle, .sentinel, .sentinel, .sentinel, .sentinel, .sentinel, .sentinel, .sentinel, .sentinel, .sentinel, .sentinel, .sentinel, .sentinel, .sentinel, .sentinel, .sentinel], laidTests := true, laidLooks := .later }
def OpformSidesCardSaid : Prop := Claim7.holds Tryd.pinned (.plain (OpenSpec.ofChange opformSidesSpec)) opformSidesCard

/-- THE TIED CARD OF 'dovetaillaw06.OpformKnown'. -/
def opformKnownCard : Claim7 := { stood := { row := opformKnownRow, standIns := [], harness := (true, "4275c0f1b87d96ea98d1c537017b52ed6105cb9ea42f62e70f27c72eadc3c5d3"), looks := true }, kinds := [], alts := [], laidByText := true, laidKinds := [.handle, .sentinel, .sentinel, .sentinel, .sentinel, .sentinel, .sentinel, .sentinel, .sentinel, .sentinel, .sentinel, .sentinel, .sentinel, .sentinel, .sentinel, .sentinel], laidTests := true, laidLooks := .later }
def OpformKnownCardSaid : Prop := Claim7.holds Tryd.pinned (.plain (OpenSpec.ofChange opformKnownSpec)) opformKnownCard

/-- THE TIED CARD OF 'dovetaillaw06.OpformForm'. -/
def opformFormCard : Claim7 := { stood := { row := opformFormRow, standIns := [], harness := (true, "4275c0f1b87d96ea98d1c537017b52ed6105cb9ea42f62e70f27c72eadc3c5d3"), looks := true }, kinds := [], alts := [], laidByText := true, laidKinds := [.handle, .sentinel, .sentinel, .sentinel, .sentinel, .sentinel, .sentinel, .sentinel, .sentinel, .sentinel, .sentinel, .sentinel, .sentinel, .sentinel, .sentinel, .sentinel], laidTests := true, laidLooks := .later }
def OpformFormCardSaid : Prop := Claim7.holds Tryd.pinned (.plain (OpenSpec.ofChange opformFormSpec)) opformFormCard

/-- THE SECOND FORM's CARD OF 'dovetaillaw06.OpformSkeletons'. -/
def opformSkeletonsUptoCard : Claim7 := { stood := { row := opformSkeletonsUptoRow, standIns := [], harness := (true, "4275c0f1b87d96ea98d1c537017b52ed6105cb9ea42f62e70f27c72eadc3c5d3"), looks := true }, kinds := [], alts := [], laidByText := true, laidKinds := [.handle, .sentinel, .sentinel, .sentinel, .sentinel, .sentinel, .sentinel, .sentinel, .sentinel, .sentinel, .sentinel, .sentinel, .sentinel, .sentinel, .sentinel, .sentinel], laidTests := true, laidLooks := .later }
def OpformSkeletonsUptoCardSaid : Prop := Claim7.holds Tryd.pinned (.plain (OpenSpec.upto opformSkeletonsSpec)) opformSkeletonsUptoCard

/-- THE SECOND FORM's CARD OF 'dovetaillaw06.OpformChecks'. -/
def opformChecksUptoCard : Claim7 := { stood := { row := opformChecksUptoRow, standIns := [], harness := (true, "4275c0f1b87d96ea98d1c537017b52ed6105cb9ea42f62e70f27c72eadc3c5d3"), looks := true }, kinds := [], alts := [], laidByText := true, laidKinds := [.handle, .sentinel, .sentinel, .sentinel, .sentinel, .sentinel, .sentinel, .sentinel, .sentinel, .sentinel, .sentinel, .sentinel, .sentinel, .sentinel, .sentinel, .sentinel], laidTests := true, laidLooks := .later }
def OpformChecksUptoCardSaid : Prop := Claim7.holds Tryd.pinned (.plain (OpenSpec.upto opformChecksSpec)) opformChecksUptoCard

/-- THE SECOND FORM's CARD OF 'dovetaillaw06.OpformSides'. -/
def opformSidesUptoCard : Claim7 := { stood := { row := opformSidesUptoRow, standIns := [], harness := (true, "4275c0f1b87d96ea98d1c537017b52ed6105cb9ea42f62e70f27c72eadc3c5d3"), looks := true }, kinds := [], alts := [], laidByText := true, laidKinds := [.handle, .sentinel, .sentinel, .sentinel, .sentinel, .sentinel, .sentinel, .sentinel, .sentinel, .sentinel, .sentinel, .sentinel, .sentinel, .sentinel, .sentinel, .sentinel], laidTests := true, laidLooks := .later }
def OpformSidesUptoCardSaid : Prop := Claim7.holds Tryd.pinned (.plain (OpenSpec.upto opformSidesSpec)) opformSidesUptoCard

/-- THE SECOND FORM's CARD OF 'dovetaillaw06.OpformKnown'. -/
def opformKnownUptoCard : Claim7 := { stood := { row := opformKnownUptoRow, standIns := [], harness := (true, "4275c0f1b87d96ea98d1c537017b52ed6105cb9ea42f62e70f27c72eadc3c5d3"), looks := true }, kinds := [], alts := [], laidByText := true, laidKinds := [.handle, .sentinel, .sentinel, .sentinel, .sentinel, .sentinel, .sentinel, .sentinel, .sentinel, .sentinel, .sentinel, .sentinel, .sentinel, .sentinel, .sentinel, .sentinel], laidTests := true, laidLooks := .later }
def OpformKnownUptoCardSaid : Prop := Claim7.holds Tryd.pinned (.plain (OpenSpec.upto opformKnownSpec)) opformKnownUptoCard

/-- THE SECOND FORM's CARD OF 'dovetaillaw06.OpformForm'. -/
def opformFormUptoCard : Claim7 := { stood := { row := opformFormUptoRow, standIns := [], harness := (true, "4275c0f1b87d96ea98d1c537017b52ed6105cb9ea42f62e70f27c72eadc3c5d3"), looks := true }, kinds := [], alts := [], laidByText := true, laidKinds := [.handle, .sentinel, .sentinel, .sentinel, .sentinel, .sentinel, .sentinel, .sentinel, .sentinel, .sentinel, .sentinel, .sentinel, .sentinel, .sentinel, .sentinel, .sentinel], laidTests := true, laidLooks := .later }
def OpformFormUptoCardSaid : Prop := Claim7.holds Tryd.pinned (.plain (OpenSpec.upto opformFormSpec)) opformFormUptoCard
end Rows
end Go.Proofs.YtaeaookonhaliaaDoor
