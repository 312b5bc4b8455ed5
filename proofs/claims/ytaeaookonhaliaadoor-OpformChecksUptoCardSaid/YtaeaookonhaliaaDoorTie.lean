/-
  DERIVED. GIVEN WITH THE SEED: THE PROGRAM's TIES (one call each: nine closed facts by the kernel) AND EACH ROW's TIE, after the 31st guide's Derived/Test/Toyas{Tie, Card}.lean. No idea stands in it: it is a product of the set-up. Laid BY PROGRAM, IN A SANDBOX (cutbox-door.mjs). By AI agents, Wed Nov 11 2026. No macro, syntax, notation, axiom, sorry.
-/
import Derived.Test.YtaeaookonhaliaaDoorRows
import Derived.LaidByTextLater
import Derived.SevenTiedAt
import Derived.LaidSub
import Derived.LaidOnce
namespace Go.Proofs.YtaeaookonhaliaaDoor
open Go
set_option maxRecDepth 100000
theorem seatTie1 : Tryd.prog.laidByTextLater [("errors.errorType", Rows.laid_errors_errorType), ("dovetail/api.ErrArg", Rows.laid_dovetail_api_ErrArg), ("dovetail/api.ErrSyntax", Rows.laid_dovetail_api_ErrSyntax), ("dovetail/api.ErrBounds", Rows.laid_dovetail_api_ErrBounds), ("dovetail/api.ErrNotOperator", Rows.laid_dovetail_api_ErrNotOperator), ("dovetail/api.ErrMatrix", Rows.laid_dovetail_api_ErrMatrix), ("dovetail/api.ErrTooBig", Rows.laid_dovetail_api_ErrTooBig), ("dovetail/api.ErrRefused", Rows.laid_dovetail_api_ErrRefused), ("dovetail/api.ErrCut", Rows.laid_dovetail_api_ErrCut), ("dovetail/api.ErrPlan", Rows.laid_dovetail_api_ErrPlan), ("dovetail/api.ErrName", Rows.laid_dovetail_api_ErrName), ("dovetail/api.ErrTree", Rows.laid_dovetail_api_ErrTree), ("dovetail/api.ErrLong", Rows.laid_dovetail_api_ErrLong), ("dovetail/api.ErrForm", Rows.laid_dovetail_api_ErrForm), ("dovetail/api.ErrSum", Rows.laid_dovetail_api_ErrSum), ("dovetail/api.ErrNone", Rows.laid_dovetail_api_ErrNone)] [.handle, .sentinel, .sentinel, .sentinel, .sentinel, .sentinel, .sentinel, .sentinel, .sentinel, .sentinel, .sentinel, .sentinel, .sentinel, .sentinel, .sentinel, .sentinel] true :=
  Program.laidByTextLater_by_one 301 8 2 (by kernel_rfl) (by kernel_rfl) (by kernel_rfl) (by kernel_rfl) (by kernel_rfl) (by kernel_rfl) (fun _ _ => by kernel_rfl)
theorem noOwnUnsafe : Tryd.pinned.checked.prog.headLifts.contains "ownunsafe" = false := by kernel_rfl
theorem tie : Tryd.prog.laidByTextLater [("errors.errorType", Rows.laid_errors_errorType), ("dovetail/api.ErrArg", Rows.laid_dovetail_api_ErrArg), ("dovetail/api.ErrSyntax", Rows.laid_dovetail_api_ErrSyntax), ("dovetail/api.ErrBounds", Rows.laid_dovetail_api_ErrBounds), ("dovetail/api.ErrNotOperator", Rows.laid_dovetail_api_ErrNotOperator), ("dovetail/api.ErrMatrix", Rows.laid_dovetail_api_ErrMatrix), ("dovetail/api.ErrTooBig", Rows.laid_dovetail_api_ErrTooBig), ("dovetail/api.ErrRefused", Rows.laid_dovetail_api_ErrRefused), ("dovetail/api.ErrCut", Rows.laid_dovetail_api_ErrCut), ("dovetail/api.ErrPlan", Rows.laid_dovetail_api_ErrPlan), ("dovetail/api.ErrName", Rows.laid_dovetail_api_ErrName), ("dovetail/api.ErrTree", Rows.laid_dovetail_api_ErrTree), ("dovetail/api.ErrLong", Rows.laid_dovetail_api_ErrLong), ("dovetail/api.ErrForm", Rows.laid_dovetail_api_ErrForm), ("dovetail/api.ErrSum", Rows.laid_dovetail_api_ErrSum), ("dovetail/api.ErrNone", Rows.laid_dovetail_api_ErrNone)] [.handle, .sentinel, .sentinel, .sentinel, .sentinel, .sentinel, .sentinel, .sentinel, .sentinel, .sentinel, .sentinel, .sentinel, .sentinel, .sentinel, .sentinel, .sentinel] true :=
  Program.laidByTextLater.sub seatTie1 ["errors.errorType", "dovetail/api.ErrArg", "dovetail/api.ErrSyntax", "dovetail/api.ErrBounds", "dovetail/api.ErrNotOperator", "dovetail/api.ErrMatrix", "dovetail/api.ErrTooBig", "dovetail/api.ErrRefused", "dovetail/api.ErrCut", "dovetail/api.ErrPlan", "dovetail/api.ErrName", "dovetail/api.ErrTree", "dovetail/api.ErrLong", "dovetail/api.ErrForm", "dovetail/api.ErrSum", "dovetail/api.ErrNone"] (by kernel_rfl) (by kernel_rfl)
theorem opformSkeletons_row_tie : Rows.opformSkeletonsRow.laidByTextAt .later Tryd.pinned [.handle, .sentinel, .sentinel, .sentinel, .sentinel, .sentinel, .sentinel, .sentinel, .sentinel, .sentinel, .sentinel, .sentinel, .sentinel, .sentinel, .sentinel, .sentinel] true :=
  OpenClaim.laidByTextAt_later rfl rfl tie noOwnUnsafe
theorem opformChecks_row_tie : Rows.opformChecksRow.laidByTextAt .later Tryd.pinned [.handle, .sentinel, .sentinel, .sentinel, .sentinel, .sentinel, .sentinel, .sentinel, .sentinel, .sentinel, .sentinel, .sentinel, .sentinel, .sentinel, .sentinel, .sentinel] true :=
  OpenClaim.laidByTextAt_later rfl rfl tie noOwnUnsafe
theorem opformSides_row_tie : Rows.opformSidesRow.laidByTextAt .later Tryd.pinned [.handle, .sentinel, .sentinel, .sentinel, .sentinel, .sentinel, .sentinel, .sentinel, .sentinel, .sentinel, .sentinel, .sentinel, .sentinel, .sentinel, .sentinel, .sentinel] true :=
  OpenClaim.laidByTextAt_later rfl rfl tie noOwnUnsafe
theorem opformKnown_row_tie : Rows.opformKnownRow.laidByTextAt .later Tryd.pinned [.handle, .sentinel, .sentinel, .sentinel, .sentinel, .sentinel, .sentinel, .sentinel, .sentinel, .sentinel, .sentinel, .sentinel, .sentinel, .sentinel, .sentinel, .sentinel] true :=
  OpenClaim.laidByTextAt_later rfl rfl tie noOwnUnsafe
theorem opformForm_row_tie : Rows.opformFormRow.laidByTextAt .later Tryd.pinned [.handle, .sentinel, .sentinel, .sentinel, .sentinel, .sentinel, .sentinel, .sentinel, .sentinel, .sentinel, .sentinel, .sentinel, .sentinel, .sentinel, .sentinel, .sentinel] true :=
  OpenClaim.laidByTextAt_later rfl rfl tie noOwnUnsafe
theorem opformSkeletonsUpto_row_tie : Rows.opformSkeletonsUptoRow.laidByTextAt .later Tryd.pinned [.handle, .sentinel, .sentinel, .sentinel, .sentinel, .sentinel, .sentinel, .sentinel, .sentinel, .sentinel, .sentinel, .sentinel, .sentinel, .sentinel, .sentinel, .sentinel] true :=
  OpenClaim.laidByTextAt_later rfl rfl tie noOwnUnsafe
theorem opformChecksUpto_row_tie : Rows.opformChecksUptoRow.laidByTextAt .later Tryd.pinned [.handle, .sentinel, .sentinel, .sentinel, .sentinel, .sentinel, .sentinel, .sentinel, .sentinel, .sentinel, .sentinel, .sentinel, .sentinel, .sentinel, .sentinel, .sentinel] true :=
  OpenClaim.laidByTextAt_later rfl rfl tie noOwnUnsafe
theorem opformSidesUpto_row_tie : Rows.opformSidesUptoRow.laidByTextAt .later Tryd.pinned [.handle, .sentinel, .sentinel, .sentinel, .sentinel, .sentinel, .sentinel, .sentinel, .sentinel, .sentinel, .sentinel, .sentinel, .sentinel, .sentinel, .sentinel, .sentinel] true :=
  OpenClaim.laidByTextAt_later rfl rfl tie noOwnUnsafe
theorem opformKnownUpto_row_tie : Rows.opformKnownUptoRow.laidByTextAt .later Tryd.pinned [.handle, .sentinel, .sentinel, .sentinel, .sentinel, .sentinel, .sentinel, .sentinel, .sentinel, .sentinel, .sentinel, .sentinel, .sentinel, .sentinel, .sentinel, .sentinel] true :=
  OpenClaim.laidByTextAt_later rfl rfl tie noOwnUnsafe
theorem opformFormUpto_row_tie : Rows.opformFormUptoRow.laidByTextAt .later Tryd.pinned [.handle, .sentinel, .sentinel, .sentinel, .sentinel, .sentinel, .sentinel, .sentinel, .sentinel, .sentinel, .sentinel, .sentinel, .sentinel, .sentinel, .sentinel, .sentinel] true :=
  OpenClaim.laidByTextAt_later rfl rfl tie noOwnUnsafe
end Go.Proofs.YtaeaookonhaliaaDoor
