/-
  DERIVED. GIVEN WITH THE SEED: THE PROGRAM's TIES (one call each: nine closed facts by the kernel) AND EACH ROW's TIE, after the 31st guide's Derived/Test/Toyas{Tie, Card}.lean. No idea stands in it: it is a product of the set-up. Laid BY PROGRAM, IN A SANDBOX (cutbox-door.mjs). By AI agents, Wed Nov 11 2026. No macro, syntax, notation, axiom, sorry.
-/
import Derived.Test.YteaiejippkikpaaDoorRows
import Derived.LaidByTextLater
import Derived.SevenTiedAt
import Derived.LaidSub
import Derived.LaidOnce
namespace Go.Proofs.YteaiejippkikpaaDoor
open Go
set_option maxRecDepth 100000
theorem seatTie1 : Tryd.prog.laidByTextLater [("errors.errorType", Rows.laid_errors_errorType), ("dovetail/api.ErrArg", Rows.laid_dovetail_api_ErrArg), ("dovetail/api.ErrSyntax", Rows.laid_dovetail_api_ErrSyntax), ("dovetail/api.ErrBounds", Rows.laid_dovetail_api_ErrBounds), ("dovetail/api.ErrNotOperator", Rows.laid_dovetail_api_ErrNotOperator), ("dovetail/api.ErrMatrix", Rows.laid_dovetail_api_ErrMatrix), ("dovetail/api.ErrTooBig", Rows.laid_dovetail_api_ErrTooBig), ("dovetail/api.ErrRefused", Rows.laid_dovetail_api_ErrRefused), ("dovetail/api.ErrCut", Rows.laid_dovetail_api_ErrCut), ("dovetail/api.ErrPlan", Rows.laid_dovetail_api_ErrPlan), ("dovetail/api.ErrName", Rows.laid_dovetail_api_ErrName), ("dovetail/api.ErrTree", Rows.laid_dovetail_api_ErrTree), ("dovetail/api.ErrLong", Rows.laid_dovetail_api_ErrLong), ("dovetail/api.ErrForm", Rows.laid_dovetail_api_ErrForm), ("dovetail/api.ErrSum", Rows.laid_dovetail_api_ErrSum), ("dovetail/api.ErrNone", Rows.laid_dovetail_api_ErrNone)] [.handle, .sentinel, .sentinel, .sentinel, .sentinel, .sentinel, .sentinel, .sentinel, .sentinel, .sentinel, .sentinel, .sentinel, .sentinel, .sentinel, .sentinel, .sentinel] true :=
  Program.laidByTextLater_by_one 301 8 2 (by kernel_rfl) (by kernel_rfl) (by kernel_rfl) (by kernel_rfl) (by kernel_rfl) (by kernel_rfl) (fun _ _ => by kernel_rfl)
theorem noOwnUnsafe : Tryd.pinned.checked.prog.headLifts.contains "ownunsafe" = false := by kernel_rfl
theorem tie : Tryd.prog.laidByTextLater [("dovetail/api.ErrArg", Rows.laid_dovetail_api_ErrArg), ("dovetail/api.ErrBounds", Rows.laid_dovetail_api_ErrBounds), ("dovetail/api.ErrName", Rows.laid_dovetail_api_ErrName)] [.sentinel, .sentinel, .sentinel] true :=
  Program.laidByTextLater.sub seatTie1 ["dovetail/api.ErrArg", "dovetail/api.ErrBounds", "dovetail/api.ErrName"] (by kernel_rfl) (by kernel_rfl)
theorem gramNames_row_tie : Rows.gramNamesRow.laidByTextAt .later Tryd.pinned [.sentinel, .sentinel, .sentinel] true :=
  OpenClaim.laidByTextAt_later rfl rfl tie noOwnUnsafe
theorem gramAbove_row_tie : Rows.gramAboveRow.laidByTextAt .later Tryd.pinned [.sentinel, .sentinel, .sentinel] true :=
  OpenClaim.laidByTextAt_later rfl rfl tie noOwnUnsafe
theorem gramSame_row_tie : Rows.gramSameRow.laidByTextAt .later Tryd.pinned [.sentinel, .sentinel, .sentinel] true :=
  OpenClaim.laidByTextAt_later rfl rfl tie noOwnUnsafe
theorem tie2 : Tryd.prog.laidByTextLater [("errors.errorType", Rows.laid_errors_errorType), ("dovetail/api.ErrArg", Rows.laid_dovetail_api_ErrArg), ("dovetail/api.ErrSyntax", Rows.laid_dovetail_api_ErrSyntax), ("dovetail/api.ErrBounds", Rows.laid_dovetail_api_ErrBounds), ("dovetail/api.ErrNotOperator", Rows.laid_dovetail_api_ErrNotOperator), ("dovetail/api.ErrMatrix", Rows.laid_dovetail_api_ErrMatrix), ("dovetail/api.ErrTooBig", Rows.laid_dovetail_api_ErrTooBig), ("dovetail/api.ErrRefused", Rows.laid_dovetail_api_ErrRefused), ("dovetail/api.ErrCut", Rows.laid_dovetail_api_ErrCut), ("dovetail/api.ErrPlan", Rows.laid_dovetail_api_ErrPlan), ("dovetail/api.ErrName", Rows.laid_dovetail_api_ErrName), ("dovetail/api.ErrTree", Rows.laid_dovetail_api_ErrTree), ("dovetail/api.ErrLong", Rows.laid_dovetail_api_ErrLong), ("dovetail/api.ErrForm", Rows.laid_dovetail_api_ErrForm), ("dovetail/api.ErrSum", Rows.laid_dovetail_api_ErrSum), ("dovetail/api.ErrNone", Rows.laid_dovetail_api_ErrNone)] [.handle, .sentinel, .sentinel, .sentinel, .sentinel, .sentinel, .sentinel, .sentinel, .sentinel, .sentinel, .sentinel, .sentinel, .sentinel, .sentinel, .sentinel, .sentinel] true :=
  Program.laidByTextLater.sub seatTie1 ["errors.errorType", "dovetail/api.ErrArg", "dovetail/api.ErrSyntax", "dovetail/api.ErrBounds", "dovetail/api.ErrNotOperator", "dovetail/api.ErrMatrix", "dovetail/api.ErrTooBig", "dovetail/api.ErrRefused", "dovetail/api.ErrCut", "dovetail/api.ErrPlan", "dovetail/api.ErrName", "dovetail/api.ErrTree", "dovetail/api.ErrLong", "dovetail/api.ErrForm", "dovetail/api.ErrSum", "dovetail/api.ErrNone"] (by kernel_rfl) (by kernel_rfl)
theorem gramLess_row_tie : Rows.gramLessRow.laidByTextAt .later Tryd.pinned [.handle, .sentinel, .sentinel, .sentinel, .sentinel, .sentinel, .sentinel, .sentinel, .sentinel, .sentinel, .sentinel, .sentinel, .sentinel, .sentinel, .sentinel, .sentinel] true :=
  OpenClaim.laidByTextAt_later rfl rfl tie2 noOwnUnsafe
theorem wordsLines_row_tie : Rows.wordsLinesRow.laidByTextAt .later Tryd.pinned [.handle, .sentinel, .sentinel, .sentinel, .sentinel, .sentinel, .sentinel, .sentinel, .sentinel, .sentinel, .sentinel, .sentinel, .sentinel, .sentinel, .sentinel, .sentinel] true :=
  OpenClaim.laidByTextAt_later rfl rfl tie2 noOwnUnsafe
theorem gramBuilds_row_tie : Rows.gramBuildsRow.laidByTextAt .later Tryd.pinned [.handle, .sentinel, .sentinel, .sentinel, .sentinel, .sentinel, .sentinel, .sentinel, .sentinel, .sentinel, .sentinel, .sentinel, .sentinel, .sentinel, .sentinel, .sentinel] true :=
  OpenClaim.laidByTextAt_later rfl rfl tie2 noOwnUnsafe
theorem wordsPlaces_row_tie : Rows.wordsPlacesRow.laidByTextAt .later Tryd.pinned [.handle, .sentinel, .sentinel, .sentinel, .sentinel, .sentinel, .sentinel, .sentinel, .sentinel, .sentinel, .sentinel, .sentinel, .sentinel, .sentinel, .sentinel, .sentinel] true :=
  OpenClaim.laidByTextAt_later rfl rfl tie2 noOwnUnsafe
theorem wordsOwn_row_tie : Rows.wordsOwnRow.laidByTextAt .later Tryd.pinned [.handle, .sentinel, .sentinel, .sentinel, .sentinel, .sentinel, .sentinel, .sentinel, .sentinel, .sentinel, .sentinel, .sentinel, .sentinel, .sentinel, .sentinel, .sentinel] true :=
  OpenClaim.laidByTextAt_later rfl rfl tie2 noOwnUnsafe
theorem wordsBack_row_tie : Rows.wordsBackRow.laidByTextAt .later Tryd.pinned [.handle, .sentinel, .sentinel, .sentinel, .sentinel, .sentinel, .sentinel, .sentinel, .sentinel, .sentinel, .sentinel, .sentinel, .sentinel, .sentinel, .sentinel, .sentinel] true :=
  OpenClaim.laidByTextAt_later rfl rfl tie2 noOwnUnsafe
theorem gramKnown_row_tie : Rows.gramKnownRow.laidByTextAt .later Tryd.pinned [.handle, .sentinel, .sentinel, .sentinel, .sentinel, .sentinel, .sentinel, .sentinel, .sentinel, .sentinel, .sentinel, .sentinel, .sentinel, .sentinel, .sentinel, .sentinel] true :=
  OpenClaim.laidByTextAt_later rfl rfl tie2 noOwnUnsafe
theorem gramNamesUpto_row_tie : Rows.gramNamesUptoRow.laidByTextAt .later Tryd.pinned [.sentinel, .sentinel, .sentinel] true :=
  OpenClaim.laidByTextAt_later rfl rfl tie noOwnUnsafe
theorem gramAboveUpto_row_tie : Rows.gramAboveUptoRow.laidByTextAt .later Tryd.pinned [.sentinel, .sentinel, .sentinel] true :=
  OpenClaim.laidByTextAt_later rfl rfl tie noOwnUnsafe
theorem gramSameUpto_row_tie : Rows.gramSameUptoRow.laidByTextAt .later Tryd.pinned [.sentinel, .sentinel, .sentinel] true :=
  OpenClaim.laidByTextAt_later rfl rfl tie noOwnUnsafe
theorem gramLessUpto_row_tie : Rows.gramLessUptoRow.laidByTextAt .later Tryd.pinned [.handle, .sentinel, .sentinel, .sentinel, .sentinel, .sentinel, .sentinel, .sentinel, .sentinel, .sentinel, .sentinel, .sentinel, .sentinel, .sentinel, .sentinel, .sentinel] true :=
  OpenClaim.laidByTextAt_later rfl rfl tie2 noOwnUnsafe
theorem wordsLinesUpto_row_tie : Rows.wordsLinesUptoRow.laidByTextAt .later Tryd.pinned [.handle, .sentinel, .sentinel, .sentinel, .sentinel, .sentinel, .sentinel, .sentinel, .sentinel, .sentinel, .sentinel, .sentinel, .sentinel, .sentinel, .sentinel, .sentinel] true :=
  OpenClaim.laidByTextAt_later rfl rfl tie2 noOwnUnsafe
theorem gramBuildsUpto_row_tie : Rows.gramBuildsUptoRow.laidByTextAt .later Tryd.pinned [.handle, .sentinel, .sentinel, .sentinel, .sentinel, .sentinel, .sentinel, .sentinel, .sentinel, .sentinel, .sentinel, .sentinel, .sentinel, .sentinel, .sentinel, .sentinel] true :=
  OpenClaim.laidByTextAt_later rfl rfl tie2 noOwnUnsafe
theorem wordsPlacesUpto_row_tie : Rows.wordsPlacesUptoRow.laidByTextAt .later Tryd.pinned [.handle, .sentinel, .sentinel, .sentinel, .sentinel, .sentinel, .sentinel, .sentinel, .sentinel, .sentinel, .sentinel, .sentinel, .sentinel, .sentinel, .sentinel, .sentinel] true :=
  OpenClaim.laidByTextAt_later rfl rfl tie2 noOwnUnsafe
theorem wordsOwnUpto_row_tie : Rows.wordsOwnUptoRow.laidByTextAt .later Tryd.pinned [.handle, .sentinel, .sentinel, .sentinel, .sentinel, .sentinel, .sentinel, .sentinel, .sentinel, .sentinel, .sentinel, .sentinel, .sentinel, .sentinel, .sentinel, .sentinel] true :=
  OpenClaim.laidByTextAt_later rfl rfl tie2 noOwnUnsafe
theorem wordsBackUpto_row_tie : Rows.wordsBackUptoRow.laidByTextAt .later Tryd.pinned [.handle, .sentinel, .sentinel, .sentinel, .sentinel, .sentinel, .sentinel, .sentinel, .sentinel, .sentinel, .sentinel, .sentinel, .sentinel, .sentinel, .sentinel, .sentinel] true :=
  OpenClaim.laidByTextAt_later rfl rfl tie2 noOwnUnsafe
theorem gramKnownUpto_row_tie : Rows.gramKnownUptoRow.laidByTextAt .later Tryd.pinned [.handle, .sentinel, .sentinel, .sentinel, .sentinel, .sentinel, .sentinel, .sentinel, .sentinel, .sentinel, .sentinel, .sentinel, .sentinel, .sentinel, .sentinel, .sentinel] true :=
  OpenClaim.laidByTextAt_later rfl rfl tie2 noOwnUnsafe
end Go.Proofs.YteaiejippkikpaaDoor
