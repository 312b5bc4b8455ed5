/-
  NARROWER THAN 'FOR EVERY INPUT', by the rows' own cells (each row's printed sentence says how): GramNames: laid · GramAbove: laid · GramSame: laid · GramLess: laid · WordsLines: laid · GramBuilds: laid · WordsPlaces: laid · WordsOwn: laid · WordsBack: laid · GramKnown: laid.
  DERIVED. THE GIVEN ROWS OF THIS SEAT. 10 by the template 'for every input the law returns true; each argument reads behind the call as it read before'; 0 by the template 'total and deterministic' (their statements: YteaiejippkikpaaDoorTotals.lean).
  GIVEN WITH THE SEED: the statements are not yours to turn. If you find one false, say at which input.
  Laid BY PROGRAM, IN A SANDBOX (cutbox-rows.mjs): the forced cells as the released guide's own fill.sh prints them over the translation 5ca68c4bba709c78… (all of the seat's roots in one cut). By AI agents, Wed Nov 11 2026. No macro, syntax, notation, axiom, sorry.
-/
import Derived.Test.YteaiejippkikpaaDoorChecked
import GoSem.Claim
import GoSem.ClaimJoined
import GoSem.ClaimMapViews
import Derived.JoinedTies
import Derived.KernelRfl
namespace Go.Proofs.YteaiejippkikpaaDoor
/- THE CELL 'sum', in the pinned program and in every row, IS THE sha256 OF THE DUMP (.gsa) THAT YteaiejippkikpaaDoorProg.lean LOADS. Nothing in Lean hashes anything: it is a label: what it is worth is what the hold of that sum in a sandbox is worth. -/
noncomputable def Tryd.pinned : Pinned := { name := "yteaiejippkikpaadoor", sum := "5ca68c4bba709c78cab447ede157d84a433f4f8a2c59d0badd46812b8c2f3fc9", checked := Tryd.checked }
namespace Rows
def none {H : Type} : Left H := { results := [], args := [] }

/- WHAT THE LISTED PACKAGE-LEVEL VARIABLES READ AS WHEN THE CALL BEGINS. Each datum BY PROGRAM (the guide's laid-datum.mjs) off the statement by which the dump's own 'gosem.cut.vars' lays the variable. In a bare row this is a premise. The card (YteaiejippkikpaaDoorCards.lean) ties it to the program's text. -/
def laid_dovetail_api_ErrArg {H : Type} : DataW H := .iface "*errors.errorString" (.ptr (.agg [.lit (.string [100, 111, 118, 101, 116, 97, 105, 108, 58, 32, 97, 114, 103, 117, 109, 101, 110, 116])]))
def laid_dovetail_api_ErrBounds {H : Type} : DataW H := .iface "*errors.errorString" (.ptr (.agg [.lit (.string [100, 111, 118, 101, 116, 97, 105, 108, 58, 32, 98, 111, 117, 110, 100, 115])]))
def laid_dovetail_api_ErrName {H : Type} : DataW H := .iface "*errors.errorString" (.ptr (.agg [.lit (.string [100, 111, 118, 101, 116, 97, 105, 108, 58, 32, 110, 97, 109, 101])]))
def laid_errors_errorType {H : Type} : DataW H := .iface "internal/reflectlite.rtype" (.agg [.ptr (.lit (.string [101, 114, 114, 111, 114]))])
def laid_dovetail_api_ErrSyntax {H : Type} : DataW H := .iface "*errors.errorString" (.ptr (.agg [.lit (.string [100, 111, 118, 101, 116, 97, 105, 108, 58, 32, 115, 121, 110, 116, 97, 120])]))
def laid_dovetail_api_ErrNotOperator {H : Type} : DataW H := .iface "*errors.errorString" (.ptr (.agg [.lit (.string [100, 111, 118, 101, 116, 97, 105, 108, 58, 32, 110, 111, 116, 32, 97, 110, 32, 111, 112, 101, 114, 97, 116, 111, 114, 32, 103, 114, 97, 109, 109, 97, 114])]))
def laid_dovetail_api_ErrMatrix {H : Type} : DataW H := .iface "*errors.errorString" (.ptr (.agg [.lit (.string [100, 111, 118, 101, 116, 97, 105, 108, 58, 32, 116, 119, 111, 32, 114, 101, 108, 97, 116, 105, 111, 110, 115])]))
def laid_dovetail_api_ErrTooBig {H : Type} : DataW H := .iface "*errors.errorString" (.ptr (.agg [.lit (.string [100, 111, 118, 101, 116, 97, 105, 108, 58, 32, 116, 111, 111, 32, 98, 105, 103])]))
def laid_dovetail_api_ErrRefused {H : Type} : DataW H := .iface "*errors.errorString" (.ptr (.agg [.lit (.string [100, 111, 118, 101, 116, 97, 105, 108, 58, 32, 114, 101, 102, 117, 115, 101, 100])]))
def laid_dovetail_api_ErrCut {H : Type} : DataW H := .iface "*errors.errorString" (.ptr (.agg [.lit (.string [100, 111, 118, 101, 116, 97, 105, 108, 58, 32, 99, 117, 116])]))
def laid_dovetail_api_ErrPlan {H : Type} : DataW H := .iface "*errors.errorString" (.ptr (.agg [.lit (.string [100, 111, 118, 101, 116, 97, 105, 108, 58, 32, 112, 108, 97, 110])]))
def laid_dovetail_api_ErrTree {H : Type} : DataW H := .iface "*errors.errorString" (.ptr (.agg [.lit (.string [100, 111, 118, 101, 116, 97, 105, 108, 58, 32, 116, 114, 101, 101])]))
def laid_dovetail_api_ErrLong {H : Type} : DataW H := .iface "*errors.errorString" (.ptr (.agg [.lit (.string [100, 111, 118, 101, 116, 97, 105, 108, 58, 32, 108, 111, 110, 103])]))
def laid_dovetail_api_ErrForm {H : Type} : DataW H := .iface "*errors.errorString" (.ptr (.agg [.lit (.string [100, 111, 118, 101, 116, 97, 105, 108, 58, 32, 102, 111, 114, 109])]))
def laid_dovetail_api_ErrSum {H : Type} : DataW H := .iface "*errors.errorString" (.ptr (.agg [.lit (.string [100, 111, 118, 101, 116, 97, 105, 108, 58, 32, 115, 117, 109])]))
def laid_dovetail_api_ErrNone {H : Type} : DataW H := .iface "*errors.errorString" (.ptr (.agg [.lit (.string [100, 111, 118, 101, 116, 97, 105, 108, 58, 32, 110, 111, 110, 101])]))

/-- 'dovetaillaw03.GramNames': WHATEVER THE INPUT: true; the input reads as it did. -/
def gramNamesSpec : ChangeSpec := { name := "gramNames", fn := fun _ => fun
  | [d1, d2, d3] => { results := [.lit (.bool true)], args := [d1, d2, d3] }
  | _ => none }
def gramNamesRow : OpenClaim := { program := "yteaiejippkikpaadoor", sum := "5ca68c4bba709c78cab447ede157d84a433f4f8a2c59d0badd46812b8c2f3fc9", func := "dovetail/dovetaillaw03.GramNames", spec := "gramNames", unfollowed := true, recurses := true, named := ["dovetail/api.ErrBounds", "dovetail/api.ErrName", "dovetail/api.ErrArg"], apart := false, laid := [("dovetail/api.ErrArg", laid_dovetail_api_ErrArg), ("dovetail/api.ErrBounds", laid_dovetail_api_ErrBounds), ("dovetail/api.ErrName", laid_dovetail_api_ErrName)] }
def GramNamesSaid : Prop := gramNamesRow.holds Tryd.pinned (OpenSpec.ofChange gramNamesSpec)

/-- ITS FALSE NEIGHBOUR: 'it returns false'. Refute it at one input. -/
def gramNamesWrong : ChangeSpec := { name := "gramNames", fn := fun _ => fun
  | [d1, d2, d3] => { results := [.lit (.bool false)], args := [d1, d2, d3] }
  | _ => none }
def GramNamesWrongFalsely : Prop := gramNamesRow.holds Tryd.pinned (OpenSpec.ofChange gramNamesWrong)

/-- 'dovetaillaw03.GramAbove': WHATEVER THE INPUT: true; the input reads as it did. -/
def gramAboveSpec : ChangeSpec := { name := "gramAbove", fn := fun _ => fun
  | [d] => { results := [.lit (.bool true)], args := [d] }
  | _ => none }
def gramAboveRow : OpenClaim := { program := "yteaiejippkikpaadoor", sum := "5ca68c4bba709c78cab447ede157d84a433f4f8a2c59d0badd46812b8c2f3fc9", func := "dovetail/dovetaillaw03.GramAbove", spec := "gramAbove", unfollowed := true, recurses := true, named := ["dovetail/api.ErrBounds", "dovetail/api.ErrName", "dovetail/api.ErrArg"], apart := false, laid := [("dovetail/api.ErrArg", laid_dovetail_api_ErrArg), ("dovetail/api.ErrBounds", laid_dovetail_api_ErrBounds), ("dovetail/api.ErrName", laid_dovetail_api_ErrName)] }
def GramAboveSaid : Prop := gramAboveRow.holds Tryd.pinned (OpenSpec.ofChange gramAboveSpec)

/-- ITS FALSE NEIGHBOUR: 'it returns false'. Refute it at one input. -/
def gramAboveWrong : ChangeSpec := { name := "gramAbove", fn := fun _ => fun
  | [d] => { results := [.lit (.bool false)], args := [d] }
  | _ => none }
def GramAboveWrongFalsely : Prop := gramAboveRow.holds Tryd.pinned (OpenSpec.ofChange gramAboveWrong)

/-- 'dovetaillaw03.GramSame': WHATEVER THE INPUT: true; the input reads as it did. -/
def gramSameSpec : ChangeSpec := { name := "gramSame", fn := fun _ => fun
  | [d1, d2] => { results := [.lit (.bool true)], args := [d1, d2] }
  | _ => none }
def gramSameRow : OpenClaim := { program := "yteaiejippkikpaadoor", sum := "5ca68c4bba709c78cab447ede157d84a433f4f8a2c59d0badd46812b8c2f3fc9", func := "dovetail/dovetaillaw03.GramSame", spec := "gramSame", unfollowed := true, recurses := true, named := ["dovetail/api.ErrBounds", "dovetail/api.ErrName", "dovetail/api.ErrArg"], apart := false, laid := [("dovetail/api.ErrArg", laid_dovetail_api_ErrArg), ("dovetail/api.ErrBounds", laid_dovetail_api_ErrBounds), ("dovetail/api.ErrName", laid_dovetail_api_ErrName)] }
def GramSameSaid : Prop := gramSameRow.holds Tryd.pinned (OpenSpec.ofChange gramSameSpec)

/-- ITS FALSE NEIGHBOUR: 'it returns false'. Refute it at one input. -/
def gramSameWrong : ChangeSpec := { name := "gramSame", fn := fun _ => fun
  | [d1, d2] => { results := [.lit (.bool false)], args := [d1, d2] }
  | _ => none }
def GramSameWrongFalsely : Prop := gramSameRow.holds Tryd.pinned (OpenSpec.ofChange gramSameWrong)

/-- 'dovetaillaw03.GramLess': WHATEVER THE INPUT: true; the input reads as it did. -/
def gramLessSpec : ChangeSpec := { name := "gramLess", fn := fun _ => fun
  | [d1, d2, d3] => { results := [.lit (.bool true)], args := [d1, d2, d3] }
  | _ => none }
def gramLessRow : OpenClaim := { program := "yteaiejippkikpaadoor", sum := "5ca68c4bba709c78cab447ede157d84a433f4f8a2c59d0badd46812b8c2f3fc9", func := "dovetail/dovetaillaw03.GramLess", spec := "gramLess", inPlace := ["internal/reflectlite.TypeOf", "internal/reflectlite.ValueOf", "(internal/reflectlite.Value).Type", "(internal/reflectlite.Value).IsNil", "(internal/reflectlite.Value).Elem", "(internal/reflectlite.Value).Set"], unfollowed := true, recurses := true, named := ["dovetail/api.ErrBounds", "dovetail/api.ErrName", "dovetail/api.ErrArg", "dovetail/api.ErrSyntax", "dovetail/api.ErrNotOperator", "dovetail/api.ErrMatrix", "dovetail/api.ErrTooBig", "dovetail/api.ErrRefused", "dovetail/api.ErrCut", "dovetail/api.ErrPlan", "dovetail/api.ErrTree", "dovetail/api.ErrLong", "dovetail/api.ErrForm", "dovetail/api.ErrSum", "dovetail/api.ErrNone", "errors.errorType"], apart := false, laid := [("errors.errorType", laid_errors_errorType), ("dovetail/api.ErrArg", laid_dovetail_api_ErrArg), ("dovetail/api.ErrSyntax", laid_dovetail_api_ErrSyntax), ("dovetail/api.ErrBounds", laid_dovetail_api_ErrBounds), ("dovetail/api.ErrNotOperator", laid_dovetail_api_ErrNotOperator), ("dovetail/api.ErrMatrix", laid_dovetail_api_ErrMatrix), ("dovetail/api.ErrTooBig", laid_dovetail_api_ErrTooBig), ("dovetail/api.ErrRefused", laid_dovetail_api_ErrRefused), ("dovetail/api.ErrCut", laid_dovetail_api_ErrCut), ("dovetail/api.ErrPlan", laid_dovetail_api_ErrPlan), ("dovetail/api.ErrName", laid_dovetail_api_ErrName), ("dovetail/api.ErrTree", laid_dovetail_api_ErrTree), ("dovetail/api.ErrLong", laid_dovetail_api_ErrLong), ("dovetail/api.ErrForm", laid_dovetail_api_ErrForm), ("dovetail/api.ErrSum", laid_dovetail_api_ErrSum), ("dovetail/api.ErrNone", laid_dovetail_api_ErrNone)] }
def GramLessSaid : Prop := gramLessRow.holds Tryd.pinned (OpenSpec.ofChange gramLessSpec)

/-- ITS FALSE NEIGHBOUR: 'it returns false'. Refute it at one input. -/
def gramLessWrong : ChangeSpec := { name := "gramLess", fn := fun _ => fun
  | [d1, d2, d3] => { results := [.lit (.bool false)], args := [d1, d2, d3] }
  | _ => none }
def GramLessWrongFalsely : Prop := gramLessRow.holds Tryd.pinned (OpenSpec.ofChange gramLessWrong)

/-- 'dovetaillaw02.WordsLines': WHATEVER THE INPUT: true; the input reads as it did. -/
def wordsLinesSpec : ChangeSpec := { name := "wordsLines", fn := fun _ => fun
  | [d] => { results := [.lit (.bool true)], args := [d] }
  | _ => none }
def wordsLinesRow : OpenClaim := { program := "yteaiejippkikpaadoor", sum := "5ca68c4bba709c78cab447ede157d84a433f4f8a2c59d0badd46812b8c2f3fc9", func := "dovetail/dovetaillaw02.WordsLines", spec := "wordsLines", inPlace := ["internal/bytealg.IndexByteString", "internal/abi.NoEscape", "internal/reflectlite.TypeOf", "internal/reflectlite.ValueOf", "(internal/reflectlite.Value).Type", "(internal/reflectlite.Value).IsNil", "(internal/reflectlite.Value).Elem", "(internal/reflectlite.Value).Set"], unfollowed := true, recurses := true, named := ["dovetail/api.ErrLong", "dovetail/api.ErrSyntax", "dovetail/api.ErrArg", "dovetail/api.ErrBounds", "dovetail/api.ErrNotOperator", "dovetail/api.ErrMatrix", "dovetail/api.ErrTooBig", "dovetail/api.ErrRefused", "dovetail/api.ErrCut", "dovetail/api.ErrPlan", "dovetail/api.ErrName", "dovetail/api.ErrTree", "dovetail/api.ErrForm", "dovetail/api.ErrSum", "dovetail/api.ErrNone", "errors.errorType"], apart := false, laid := [("errors.errorType", laid_errors_errorType), ("dovetail/api.ErrArg", laid_dovetail_api_ErrArg), ("dovetail/api.ErrSyntax", laid_dovetail_api_ErrSyntax), ("dovetail/api.ErrBounds", laid_dovetail_api_ErrBounds), ("dovetail/api.ErrNotOperator", laid_dovetail_api_ErrNotOperator), ("dovetail/api.ErrMatrix", laid_dovetail_api_ErrMatrix), ("dovetail/api.ErrTooBig", laid_dovetail_api_ErrTooBig), ("dovetail/api.ErrRefused", laid_dovetail_api_ErrRefused), ("dovetail/api.ErrCut", laid_dovetail_api_ErrCut), ("dovetail/api.ErrPlan", laid_dovetail_api_ErrPlan), ("dovetail/api.ErrName", laid_dovetail_api_ErrName), ("dovetail/api.ErrTree", laid_dovetail_api_ErrTree), ("dovetail/api.ErrLong", laid_dovetail_api_ErrLong), ("dovetail/api.ErrForm", laid_dovetail_api_ErrForm), ("dovetail/api.ErrSum", laid_dovetail_api_ErrSum), ("dovetail/api.ErrNone", laid_dovetail_api_ErrNone)] }
def WordsLinesSaid : Prop := wordsLinesRow.holds Tryd.pinned (OpenSpec.ofChange wordsLinesSpec)

/-- ITS FALSE NEIGHBOUR: 'it returns false'. Refute it at one input. -/
def wordsLinesWrong : ChangeSpec := { name := "wordsLines", fn := fun _ => fun
  | [d] => { results := [.lit (.bool false)], args := [d] }
  | _ => none }
def WordsLinesWrongFalsely : Prop := wordsLinesRow.holds Tryd.pinned (OpenSpec.ofChange wordsLinesWrong)

/-- 'dovetaillaw03.GramBuilds': WHATEVER THE INPUT: true; the input reads as it did. -/
def gramBuildsSpec : ChangeSpec := { name := "gramBuilds", fn := fun _ => fun
  | [d] => { results := [.lit (.bool true)], args := [d] }
  | _ => none }
def gramBuildsRow : OpenClaim := { program := "yteaiejippkikpaadoor", sum := "5ca68c4bba709c78cab447ede157d84a433f4f8a2c59d0badd46812b8c2f3fc9", func := "dovetail/dovetaillaw03.GramBuilds", spec := "gramBuilds", inPlace := ["internal/reflectlite.TypeOf", "internal/reflectlite.ValueOf", "(internal/reflectlite.Value).Type", "(internal/reflectlite.Value).IsNil", "(internal/reflectlite.Value).Elem", "(internal/reflectlite.Value).Set"], unfollowed := true, recurses := true, named := ["dovetail/api.ErrArg", "dovetail/api.ErrBounds", "dovetail/api.ErrName", "dovetail/api.ErrSyntax", "dovetail/api.ErrNotOperator", "dovetail/api.ErrMatrix", "dovetail/api.ErrTooBig", "dovetail/api.ErrRefused", "dovetail/api.ErrCut", "dovetail/api.ErrPlan", "dovetail/api.ErrTree", "dovetail/api.ErrLong", "dovetail/api.ErrForm", "dovetail/api.ErrSum", "dovetail/api.ErrNone", "errors.errorType"], apart := false, laid := [("errors.errorType", laid_errors_errorType), ("dovetail/api.ErrArg", laid_dovetail_api_ErrArg), ("dovetail/api.ErrSyntax", laid_dovetail_api_ErrSyntax), ("dovetail/api.ErrBounds", laid_dovetail_api_ErrBounds), ("dovetail/api.ErrNotOperator", laid_dovetail_api_ErrNotOperator), ("dovetail/api.ErrMatrix", laid_dovetail_api_ErrMatrix), ("dovetail/api.ErrTooBig", laid_dovetail_api_ErrTooBig), ("dovetail/api.ErrRefused", laid_dovetail_api_ErrRefused), ("dovetail/api.ErrCut", laid_dovetail_api_ErrCut), ("dovetail/api.ErrPlan", laid_dovetail_api_ErrPlan), ("dovetail/api.ErrName", laid_dovetail_api_ErrName), ("dovetail/api.ErrTree", laid_dovetail_api_ErrTree), ("dovetail/api.ErrLong", laid_dovetail_api_ErrLong), ("dovetail/api.ErrForm", laid_dovetail_api_ErrForm), ("dovetail/api.ErrSum", laid_dovetail_api_ErrSum), ("dovetail/api.ErrNone", laid_dovetail_api_ErrNone)] }
def GramBuildsSaid : Prop := gramBuildsRow.holds Tryd.pinned (OpenSpec.ofChange gramBuildsSpec)

/-- ITS FALSE NEIGHBOUR: 'it returns false'. Refute it at one input. -/
def gramBuildsWrong : ChangeSpec := { name := "gramBuilds", fn := fun _ => fun
  | [d] => { results := [.lit (.bool false)], args := [d] }
  | _ => none }
def GramBuildsWrongFalsely : Prop := gramBuildsRow.holds Tryd.pinned (OpenSpec.ofChange gramBuildsWrong)

/-- 'dovetaillaw02.WordsPlaces': WHATEVER THE INPUT: true; the input reads as it did. -/
def wordsPlacesSpec : ChangeSpec := { name := "wordsPlaces", fn := fun _ => fun
  | [d1, d2] => { results := [.lit (.bool true)], args := [d1, d2] }
  | _ => none }
def wordsPlacesRow : OpenClaim := { program := "yteaiejippkikpaadoor", sum := "5ca68c4bba709c78cab447ede157d84a433f4f8a2c59d0badd46812b8c2f3fc9", func := "dovetail/dovetaillaw02.WordsPlaces", spec := "wordsPlaces", inPlace := ["internal/bytealg.IndexByteString", "internal/abi.NoEscape", "internal/reflectlite.TypeOf", "internal/reflectlite.ValueOf", "(internal/reflectlite.Value).Type", "(internal/reflectlite.Value).IsNil", "(internal/reflectlite.Value).Elem", "(internal/reflectlite.Value).Set"], unfollowed := true, recurses := true, named := ["dovetail/api.ErrLong", "dovetail/api.ErrSyntax", "dovetail/api.ErrArg", "dovetail/api.ErrBounds", "dovetail/api.ErrNotOperator", "dovetail/api.ErrMatrix", "dovetail/api.ErrTooBig", "dovetail/api.ErrRefused", "dovetail/api.ErrCut", "dovetail/api.ErrPlan", "dovetail/api.ErrName", "dovetail/api.ErrTree", "dovetail/api.ErrForm", "dovetail/api.ErrSum", "dovetail/api.ErrNone", "errors.errorType"], apart := false, laid := [("errors.errorType", laid_errors_errorType), ("dovetail/api.ErrArg", laid_dovetail_api_ErrArg), ("dovetail/api.ErrSyntax", laid_dovetail_api_ErrSyntax), ("dovetail/api.ErrBounds", laid_dovetail_api_ErrBounds), ("dovetail/api.ErrNotOperator", laid_dovetail_api_ErrNotOperator), ("dovetail/api.ErrMatrix", laid_dovetail_api_ErrMatrix), ("dovetail/api.ErrTooBig", laid_dovetail_api_ErrTooBig), ("dovetail/api.ErrRefused", laid_dovetail_api_ErrRefused), ("dovetail/api.ErrCut", laid_dovetail_api_ErrCut), ("dovetail/api.ErrPlan", laid_dovetail_api_ErrPlan), ("dovetail/api.ErrName", laid_dovetail_api_ErrName), ("dovetail/api.ErrTree", laid_dovetail_api_ErrTree), ("dovetail/api.ErrLong", laid_dovetail_api_ErrLong), ("dovetail/api.ErrForm", laid_dovetail_api_ErrForm), ("dovetail/api.ErrSum", laid_dovetail_api_ErrSum), ("dovetail/api.ErrNone", laid_dovetail_api_ErrNone)] }
def WordsPlacesSaid : Prop := wordsPlacesRow.holds Tryd.pinned (OpenSpec.ofChange wordsPlacesSpec)

/-- ITS FALSE NEIGHBOUR: 'it returns false'. Refute it at one input. -/
def wordsPlacesWrong : ChangeSpec := { name := "wordsPlaces", fn := fun _ => fun
  | [d1, d2] => { results := [.lit (.bool false)], args := [d1, d2] }
  | _ => none }
def WordsPlacesWrongFalsely : Prop := wordsPlacesRow.holds Tryd.pinned (OpenSpec.ofChange wordsPlacesWrong)

/-- 'dovetaillaw02.WordsOwn': WHATEVER THE INPUT: true; the input reads as it did. -/
def wordsOwnSpec : ChangeSpec := { name := "wordsOwn", fn := fun _ => fun
  | [d] => { results := [.lit (.bool true)], args := [d] }
  | _ => none }
def wordsOwnRow : OpenClaim := { program := "yteaiejippkikpaadoor", sum := "5ca68c4bba709c78cab447ede157d84a433f4f8a2c59d0badd46812b8c2f3fc9", func := "dovetail/dovetaillaw02.WordsOwn", spec := "wordsOwn", inPlace := ["internal/bytealg.IndexByteString", "internal/abi.NoEscape", "internal/reflectlite.TypeOf", "internal/reflectlite.ValueOf", "(internal/reflectlite.Value).Type", "(internal/reflectlite.Value).IsNil", "(internal/reflectlite.Value).Elem", "(internal/reflectlite.Value).Set"], unfollowed := true, recurses := true, named := ["dovetail/api.ErrLong", "dovetail/api.ErrSyntax", "dovetail/api.ErrArg", "dovetail/api.ErrBounds", "dovetail/api.ErrNotOperator", "dovetail/api.ErrMatrix", "dovetail/api.ErrTooBig", "dovetail/api.ErrRefused", "dovetail/api.ErrCut", "dovetail/api.ErrPlan", "dovetail/api.ErrName", "dovetail/api.ErrTree", "dovetail/api.ErrForm", "dovetail/api.ErrSum", "dovetail/api.ErrNone", "errors.errorType"], apart := false, laid := [("errors.errorType", laid_errors_errorType), ("dovetail/api.ErrArg", laid_dovetail_api_ErrArg), ("dovetail/api.ErrSyntax", laid_dovetail_api_ErrSyntax), ("dovetail/api.ErrBounds", laid_dovetail_api_ErrBounds), ("dovetail/api.ErrNotOperator", laid_dovetail_api_ErrNotOperator), ("dovetail/api.ErrMatrix", laid_dovetail_api_ErrMatrix), ("dovetail/api.ErrTooBig", laid_dovetail_api_ErrTooBig), ("dovetail/api.ErrRefused", laid_dovetail_api_ErrRefused), ("dovetail/api.ErrCut", laid_dovetail_api_ErrCut), ("dovetail/api.ErrPlan", laid_dovetail_api_ErrPlan), ("dovetail/api.ErrName", laid_dovetail_api_ErrName), ("dovetail/api.ErrTree", laid_dovetail_api_ErrTree), ("dovetail/api.ErrLong", laid_dovetail_api_ErrLong), ("dovetail/api.ErrForm", laid_dovetail_api_ErrForm), ("dovetail/api.ErrSum", laid_dovetail_api_ErrSum), ("dovetail/api.ErrNone", laid_dovetail_api_ErrNone)] }
def WordsOwnSaid : Prop := wordsOwnRow.holds Tryd.pinned (OpenSpec.ofChange wordsOwnSpec)

/-- ITS FALSE NEIGHBOUR: 'it returns false'. Refute it at one input. -/
def wordsOwnWrong : ChangeSpec := { name := "wordsOwn", fn := fun _ => fun
  | [d] => { results := [.lit (.bool false)], args := [d] }
  | _ => none }
def WordsOwnWrongFalsely : Prop := wordsOwnRow.holds Tryd.pinned (OpenSpec.ofChange wordsOwnWrong)

/-- 'dovetaillaw02.WordsBack': WHATEVER THE INPUT: true; the input reads as it did. -/
def wordsBackSpec : ChangeSpec := { name := "wordsBack", fn := fun _ => fun
  | [d1, d2, d3] => { results := [.lit (.bool true)], args := [d1, d2, d3] }
  | _ => none }
def wordsBackRow : OpenClaim := { program := "yteaiejippkikpaadoor", sum := "5ca68c4bba709c78cab447ede157d84a433f4f8a2c59d0badd46812b8c2f3fc9", func := "dovetail/dovetaillaw02.WordsBack", spec := "wordsBack", inPlace := ["internal/bytealg.IndexByteString", "internal/abi.NoEscape", "internal/reflectlite.TypeOf", "internal/reflectlite.ValueOf", "(internal/reflectlite.Value).Type", "(internal/reflectlite.Value).IsNil", "(internal/reflectlite.Value).Elem", "(internal/reflectlite.Value).Set"], unfollowed := true, recurses := true, named := ["dovetail/api.ErrLong", "dovetail/api.ErrSyntax", "dovetail/api.ErrArg", "dovetail/api.ErrBounds", "dovetail/api.ErrNotOperator", "dovetail/api.ErrMatrix", "dovetail/api.ErrTooBig", "dovetail/api.ErrRefused", "dovetail/api.ErrCut", "dovetail/api.ErrPlan", "dovetail/api.ErrName", "dovetail/api.ErrTree", "dovetail/api.ErrForm", "dovetail/api.ErrSum", "dovetail/api.ErrNone", "errors.errorType"], apart := false, laid := [("errors.errorType", laid_errors_errorType), ("dovetail/api.ErrArg", laid_dovetail_api_ErrArg), ("dovetail/api.ErrSyntax", laid_dovetail_api_ErrSyntax), ("dovetail/api.ErrBounds", laid_dovetail_api_ErrBounds), ("dovetail/api.ErrNotOperator", laid_dovetail_api_ErrNotOperator), ("dovetail/api.ErrMatrix", laid_dovetail_api_ErrMatrix), ("dovetail/api.ErrTooBig", laid_dovetail_api_ErrTooBig), ("dovetail/api.ErrRefused", laid_dovetail_api_ErrRefused), ("dovetail/api.ErrCut", laid_dovetail_api_ErrCut), ("dovetail/api.ErrPlan", laid_dovetail_api_ErrPlan), ("dovetail/api.ErrName", laid_dovetail_api_ErrName), ("dovetail/api.ErrTree", laid_dovetail_api_ErrTree), ("dovetail/api.ErrLong", laid_dovetail_api_ErrLong), ("dovetail/api.ErrForm", laid_dovetail_api_ErrForm), ("dovetail/api.ErrSum", laid_dovetail_api_ErrSum), ("dovetail/api.ErrNone", laid_dovetail_api_ErrNone)] }
def WordsBackSaid : Prop := wordsBackRow.holds Tryd.pinned (OpenSpec.ofChange wordsBackSpec)

/-- ITS FALSE NEIGHBOUR: 'it returns false'. Refute it at one input. -/
def wordsBackWrong : ChangeSpec := { name := "wordsBack", fn := fun _ => fun
  | [d1, d2, d3] => { results := [.lit (.bool false)], args := [d1, d2, d3] }
  | _ => none }
def WordsBackWrongFalsely : Prop := wordsBackRow.holds Tryd.pinned (OpenSpec.ofChange wordsBackWrong)

/-- 'dovetaillaw03.GramKnown': WHATEVER THE INPUT: true; the input reads as it did. -/
def gramKnownSpec : ChangeSpec := { name := "gramKnown", fn := fun _ => fun
  | [] => { results := [.lit (.bool true)], args := [] }
  | _ => none }
def gramKnownRow : OpenClaim := { program := "yteaiejippkikpaadoor", sum := "5ca68c4bba709c78cab447ede157d84a433f4f8a2c59d0badd46812b8c2f3fc9", func := "dovetail/dovetaillaw03.GramKnown", spec := "gramKnown", inPlace := ["internal/reflectlite.TypeOf", "internal/reflectlite.ValueOf", "(internal/reflectlite.Value).Type", "(internal/reflectlite.Value).IsNil", "(internal/reflectlite.Value).Elem", "(internal/reflectlite.Value).Set"], unfollowed := true, recurses := true, named := ["dovetail/api.ErrBounds", "dovetail/api.ErrName", "dovetail/api.ErrArg", "dovetail/api.ErrSyntax", "dovetail/api.ErrNotOperator", "dovetail/api.ErrMatrix", "dovetail/api.ErrTooBig", "dovetail/api.ErrRefused", "dovetail/api.ErrCut", "dovetail/api.ErrPlan", "dovetail/api.ErrTree", "dovetail/api.ErrLong", "dovetail/api.ErrForm", "dovetail/api.ErrSum", "dovetail/api.ErrNone", "errors.errorType"], apart := false, laid := [("errors.errorType", laid_errors_errorType), ("dovetail/api.ErrArg", laid_dovetail_api_ErrArg), ("dovetail/api.ErrSyntax", laid_dovetail_api_ErrSyntax), ("dovetail/api.ErrBounds", laid_dovetail_api_ErrBounds), ("dovetail/api.ErrNotOperator", laid_dovetail_api_ErrNotOperator), ("dovetail/api.ErrMatrix", laid_dovetail_api_ErrMatrix), ("dovetail/api.ErrTooBig", laid_dovetail_api_ErrTooBig), ("dovetail/api.ErrRefused", laid_dovetail_api_ErrRefused), ("dovetail/api.ErrCut", laid_dovetail_api_ErrCut), ("dovetail/api.ErrPlan", laid_dovetail_api_ErrPlan), ("dovetail/api.ErrName", laid_dovetail_api_ErrName), ("dovetail/api.ErrTree", laid_dovetail_api_ErrTree), ("dovetail/api.ErrLong", laid_dovetail_api_ErrLong), ("dovetail/api.ErrForm", laid_dovetail_api_ErrForm), ("dovetail/api.ErrSum", laid_dovetail_api_ErrSum), ("dovetail/api.ErrNone", laid_dovetail_api_ErrNone)] }
def GramKnownSaid : Prop := gramKnownRow.holds Tryd.pinned (OpenSpec.ofChange gramKnownSpec)

/-- ITS FALSE NEIGHBOUR: 'it returns false'. Refute it at one input. -/
def gramKnownWrong : ChangeSpec := { name := "gramKnown", fn := fun _ => fun
  | [] => { results := [.lit (.bool false)], args := [] }
  | _ => none }
def GramKnownWrongFalsely : Prop := gramKnownRow.holds Tryd.pinned (OpenSpec.ofChange gramKnownWrong)

/- THE SECOND FORM. 'bulk': how many values and letters a reading holds, each counted each time it is reached (what is shared counts as often as it is met; a slice's spare places count too). A statement '..UptoSaid' is the law's where the arguments, and the package variables that the reading takes, are together of bulk at most 1048576: NARROWER than '..Said'. Prove '..Said' where nothing that the law and all that it calls make is longer than what came in: it says more and counts as full. Else prove '..UptoSaid'. A law counts once. -/
mutual
def uptoBulk {H : Type} : DataW H → Nat
  | .lit (.string bytes) => bytes.length + 1
  | .lit _ => 1
  | .nil => 1
  | .ptr d => uptoBulk d + 1
  | .slice elems spare => uptoBulkAll elems + uptoBulkAll spare + 1
  | .agg parts => uptoBulkAll parts + 1
  | .iface _ d => uptoBulk d + 1
  | .map entries => uptoBulkEntries entries + 1
  | .held _ => 1
def uptoBulkAll {H : Type} : List (DataW H) → Nat
  | [] => 0
  | d :: r => uptoBulk d + uptoBulkAll r
def uptoBulkEntries {H : Type} : List (Lit × DataW H) → Nat
  | [] => 0
  | x :: r => uptoBulkEntry x + uptoBulkEntries r
def uptoBulkEntry {H : Type} : Lit × DataW H → Nat
  | (.string bytes, d) => bytes.length + uptoBulk d + 1
  | (_, d) => uptoBulk d + 1
 end
def uptoSmall : (H : Type) → List (DataW H) → Bool := fun _ ds => decide (uptoBulkAll ds ≤ 1048576)
def OpenSpec.upto (s : _root_.Go.ChangeSpec) : _root_.Go.OpenSpec := { _root_.Go.OpenSpec.ofChange s with cond := some uptoSmall }

/-- 'dovetaillaw03.GramNames', WHERE WHAT IT READS IS OF BULK AT MOST 1048576: true; the input reads as it did. -/
def gramNamesUptoRow : OpenClaim := { program := "yteaiejippkikpaadoor", sum := "5ca68c4bba709c78cab447ede157d84a433f4f8a2c59d0badd46812b8c2f3fc9", func := "dovetail/dovetaillaw03.GramNames", spec := "gramNames", unfollowed := true, recurses := true, named := ["dovetail/api.ErrBounds", "dovetail/api.ErrName", "dovetail/api.ErrArg"], apart := false, laid := [("dovetail/api.ErrArg", laid_dovetail_api_ErrArg), ("dovetail/api.ErrBounds", laid_dovetail_api_ErrBounds), ("dovetail/api.ErrName", laid_dovetail_api_ErrName)], narrowed := true }
def GramNamesUptoSaid : Prop := gramNamesUptoRow.holds Tryd.pinned (OpenSpec.upto gramNamesSpec)

/-- 'dovetaillaw03.GramAbove', WHERE WHAT IT READS IS OF BULK AT MOST 1048576: true; the input reads as it did. -/
def gramAboveUptoRow : OpenClaim := { program := "yteaiejippkikpaadoor", sum := "5ca68c4bba709c78cab447ede157d84a433f4f8a2c59d0badd46812b8c2f3fc9", func := "dovetail/dovetaillaw03.GramAbove", spec := "gramAbove", unfollowed := true, recurses := true, named := ["dovetail/api.ErrBounds", "dovetail/api.ErrName", "dovetail/api.ErrArg"], apart := false, laid := [("dovetail/api.ErrArg", laid_dovetail_api_ErrArg), ("dovetail/api.ErrBounds", laid_dovetail_api_ErrBounds), ("dovetail/api.ErrName", laid_dovetail_api_ErrName)], narrowed := true }
def GramAboveUptoSaid : Prop := gramAboveUptoRow.holds Tryd.pinned (OpenSpec.upto gramAboveSpec)

/-- 'dovetaillaw03.GramSame', WHERE WHAT IT READS IS OF BULK AT MOST 1048576: true; the input reads as it did. -/
def gramSameUptoRow : OpenClaim := { program := "yteaiejippkikpaadoor", sum := "5ca68c4bba709c78cab447ede157d84a433f4f8a2c59d0badd46812b8c2f3fc9", func := "dovetail/dovetaillaw03.GramSame", spec := "gramSame", unfollowed := true, recurses := true, named := ["dovetail/api.ErrBounds", "dovetail/api.ErrName", "dovetail/api.ErrArg"], apart := false, laid := [("dovetail/api.ErrArg", laid_dovetail_api_ErrArg), ("dovetail/api.ErrBounds", laid_dovetail_api_ErrBounds), ("dovetail/api.ErrName", laid_dovetail_api_ErrName)], narrowed := true }
def GramSameUptoSaid : Prop := gramSameUptoRow.holds Tryd.pinned (OpenSpec.upto gramSameSpec)

/-- 'dovetaillaw03.GramLess', WHERE WHAT IT READS IS OF BULK AT MOST 1048576: true; the input reads as it did. -/
def gramLessUptoRow : OpenClaim := { program := "yteaiejippkikpaadoor", sum := "5ca68c4bba709c78cab447ede157d84a433f4f8a2c59d0badd46812b8c2f3fc9", func := "dovetail/dovetaillaw03.GramLess", spec := "gramLess", inPlace := ["internal/reflectlite.TypeOf", "internal/reflectlite.ValueOf", "(internal/reflectlite.Value).Type", "(internal/reflectlite.Value).IsNil", "(internal/reflectlite.Value).Elem", "(internal/reflectlite.Value).Set"], unfollowed := true, recurses := true, named := ["dovetail/api.ErrBounds", "dovetail/api.ErrName", "dovetail/api.ErrArg", "dovetail/api.ErrSyntax", "dovetail/api.ErrNotOperator", "dovetail/api.ErrMatrix", "dovetail/api.ErrTooBig", "dovetail/api.ErrRefused", "dovetail/api.ErrCut", "dovetail/api.ErrPlan", "dovetail/api.ErrTree", "dovetail/api.ErrLong", "dovetail/api.ErrForm", "dovetail/api.ErrSum", "dovetail/api.ErrNone", "errors.errorType"], apart := false, laid := [("errors.errorType", laid_errors_errorType), ("dovetail/api.ErrArg", laid_dovetail_api_ErrArg), ("dovetail/api.ErrSyntax", laid_dovetail_api_ErrSyntax), ("dovetail/api.ErrBounds", laid_dovetail_api_ErrBounds), ("dovetail/api.ErrNotOperator", laid_dovetail_api_ErrNotOperator), ("dovetail/api.ErrMatrix", laid_dovetail_api_ErrMatrix), ("dovetail/api.ErrTooBig", laid_dovetail_api_ErrTooBig), ("dovetail/api.ErrRefused", laid_dovetail_api_ErrRefused), ("dovetail/api.ErrCut", laid_dovetail_api_ErrCut), ("dovetail/api.ErrPlan", laid_dovetail_api_ErrPlan), ("dovetail/api.ErrName", laid_dovetail_api_ErrName), ("dovetail/api.ErrTree", laid_dovetail_api_ErrTree), ("dovetail/api.ErrLong", laid_dovetail_api_ErrLong), ("dovetail/api.ErrForm", laid_dovetail_api_ErrForm), ("dovetail/api.ErrSum", laid_dovetail_api_ErrSum), ("dovetail/api.ErrNone", laid_dovetail_api_ErrNone)], narrowed := true }
def GramLessUptoSaid : Prop := gramLessUptoRow.holds Tryd.pinned (OpenSpec.upto gramLessSpec)

/-- 'dovetaillaw02.WordsLines', WHERE WHAT IT READS IS OF BULK AT MOST 1048576: true; the input reads as it did. -/
def wordsLinesUptoRow : OpenClaim := { program := "yteaiejippkikpaadoor", sum := "5ca68c4bba709c78cab447ede157d84a433f4f8a2c59d0badd46812b8c2f3fc9", func := "dovetail/dovetaillaw02.WordsLines", spec := "wordsLines", inPlace := ["internal/bytealg.IndexByteString", "internal/abi.NoEscape", "internal/reflectlite.TypeOf", "internal/reflectlite.ValueOf", "(internal/reflectlite.Value).Type", "(internal/reflectlite.Value).IsNil", "(internal/reflectlite.Value).Elem", "(internal/reflectlite.Value).Set"], unfollowed := true, recurses := true, named := ["dovetail/api.ErrLong", "dovetail/api.ErrSyntax", "dovetail/api.ErrArg", "dovetail/api.ErrBounds", "dovetail/api.ErrNotOperator", "dovetail/api.ErrMatrix", "dovetail/api.ErrTooBig", "dovetail/api.ErrRefused", "dovetail/api.ErrCut", "dovetail/api.ErrPlan", "dovetail/api.ErrName", "dovetail/api.ErrTree", "dovetail/api.ErrForm", "dovetail/api.ErrSum", "dovetail/api.ErrNone", "errors.errorType"], apart := false, laid := [("errors.errorType", laid_errors_errorType), ("dovetail/api.ErrArg", laid_dovetail_api_ErrArg), ("dovetail/api.ErrSyntax", laid_dovetail_api_ErrSyntax), ("dovetail/api.ErrBounds", laid_dovetail_api_ErrBounds), ("dovetail/api.ErrNotOperator", laid_dovetail_api_ErrNotOperator), ("dovetail/api.ErrMatrix", laid_dovetail_api_ErrMatrix), ("dovetail/api.ErrTooBig", laid_dovetail_api_ErrTooBig), ("dovetail/api.ErrRefused", laid_dovetail_api_ErrRefused), ("dovetail/api.ErrCut", laid_dovetail_api_ErrCut), ("dovetail/api.ErrPlan", laid_dovetail_api_ErrPlan), ("dovetail/api.ErrName", laid_dovetail_api_ErrName), ("dovetail/api.ErrTree", laid_dovetail_api_ErrTree), ("dovetail/api.ErrLong", laid_dovetail_api_ErrLong), ("dovetail/api.ErrForm", laid_dovetail_api_ErrForm), ("dovetail/api.ErrSum", laid_dovetail_api_ErrSum), ("dovetail/api.ErrNone", laid_dovetail_api_ErrNone)], narrowed := true }
def WordsLinesUptoSaid : Prop := wordsLinesUptoRow.holds Tryd.pinned (OpenSpec.upto wordsLinesSpec)

/-- 'dovetaillaw03.GramBuilds', WHERE WHAT IT READS IS OF BULK AT MOST 1048576: true; the input reads as it did. -/
def gramBuildsUptoRow : OpenClaim := { program := "yteaiejippkikpaadoor", sum := "5ca68c4bba709c78cab447ede157d84a433f4f8a2c59d0badd46812b8c2f3fc9", func := "dovetail/dovetaillaw03.GramBuilds", spec := "gramBuilds", inPlace := ["internal/reflectlite.TypeOf", "internal/reflectlite.ValueOf", "(internal/reflectlite.Value).Type", "(internal/reflectlite.Value).IsNil", "(internal/reflectlite.Value).Elem", "(internal/reflectlite.Value).Set"], unfollowed := true, recurses := true, named := ["dovetail/api.ErrArg", "dovetail/api.ErrBounds", "dovetail/api.ErrName", "dovetail/api.ErrSyntax", "dovetail/api.ErrNotOperator", "dovetail/api.ErrMatrix", "dovetail/api.ErrTooBig", "dovetail/api.ErrRefused", "dovetail/api.ErrCut", "dovetail/api.ErrPlan", "dovetail/api.ErrTree", "dovetail/api.ErrLong", "dovetail/api.ErrForm", "dovetail/api.ErrSum", "dovetail/api.ErrNone", "errors.errorType"], apart := false, laid := [("errors.errorType", laid_errors_errorType), ("dovetail/api.ErrArg", laid_dovetail_api_ErrArg), ("dovetail/api.ErrSyntax", laid_dovetail_api_ErrSyntax), ("dovetail/api.ErrBounds", laid_dovetail_api_ErrBounds), ("dovetail/api.ErrNotOperator", laid_dovetail_api_ErrNotOperator), ("dovetail/api.ErrMatrix", laid_dovetail_api_ErrMatrix), ("dovetail/api.ErrTooBig", laid_dovetail_api_ErrTooBig), ("dovetail/api.ErrRefused", laid_dovetail_api_ErrRefused), ("dovetail/api.ErrCut", laid_dovetail_api_ErrCut), ("dovetail/api.ErrPlan", laid_dovetail_api_ErrPlan), ("dovetail/api.ErrName", laid_dovetail_api_ErrName), ("dovetail/api.ErrTree", laid_dovetail_api_ErrTree), ("dovetail/api.ErrLong", laid_dovetail_api_ErrLong), ("dovetail/api.ErrForm", laid_dovetail_api_ErrForm), ("dovetail/api.ErrSum", laid_dovetail_api_ErrSum), ("dovetail/api.ErrNone", laid_dovetail_api_ErrNone)], narrowed := true }
def GramBuildsUptoSaid : Prop := gramBuildsUptoRow.holds Tryd.pinned (OpenSpec.upto gramBuildsSpec)

/-- 'dovetaillaw02.WordsPlaces', WHERE WHAT IT READS IS OF BULK AT MOST 1048576: true; the input reads as it did. -/
def wordsPlacesUptoRow : OpenClaim := { program := "yteaiejippkikpaadoor", sum := "5ca68c4bba709c78cab447ede157d84a433f4f8a2c59d0badd46812b8c2f3fc9", func := "dovetail/dovetaillaw02.WordsPlaces", spec := "wordsPlaces", inPlace := ["internal/bytealg.IndexByteString", "internal/abi.NoEscape", "internal/reflectlite.TypeOf", "internal/reflectlite.ValueOf", "(internal/reflectlite.Value).Type", "(internal/reflectlite.Value).IsNil", "(internal/reflectlite.Value).Elem", "(internal/reflectlite.Value).Set"], unfollowed := true, recurses := true, named := ["dovetail/api.ErrLong", "dovetail/api.ErrSyntax", "dovetail/api.ErrArg", "dovetail/api.ErrBounds", "dovetail/api.ErrNotOperator", "dovetail/api.ErrMatrix", "dovetail/api.ErrTooBig", "dovetail/api.ErrRefused", "dovetail/api.ErrCut", "dovetail/api.ErrPlan", "dovetail/api.ErrName", "dovetail/api.ErrTree", "dovetail/api.ErrForm", "dovetail/api.ErrSum", "dovetail/api.ErrNone", "errors.errorType"], apart := false, laid := [("errors.errorType", laid_errors_errorType), ("dovetail/api.ErrArg", laid_dovetail_api_ErrArg), ("dovetail/api.ErrSyntax", laid_dovetail_api_ErrSyntax), ("dovetail/api.ErrBounds", laid_dovetail_api_ErrBounds), ("dovetail/api.ErrNotOperator", laid_dovetail_api_ErrNotOperator), ("dovetail/api.ErrMatrix", laid_dovetail_api_ErrMatrix), ("dovetail/api.ErrTooBig", laid_dovetail_api_ErrTooBig), ("dovetail/api.ErrRefused", laid_dovetail_api_ErrRefused), ("dovetail/api.ErrCut", laid_dovetail_api_ErrCut), ("dovetail/api.ErrPlan", laid_dovetail_api_ErrPlan), ("dovetail/api.ErrName", laid_dovetail_api_ErrName), ("dovetail/api.ErrTree", laid_dovetail_api_ErrTree), ("dovetail/api.ErrLong", laid_dovetail_api_ErrLong), ("dovetail/api.ErrForm", laid_dovetail_api_ErrForm), ("dovetail/api.ErrSum", laid_dovetail_api_ErrSum), ("dovetail/api.ErrNone", laid_dovetail_api_ErrNone)], narrowed := true }
def WordsPlacesUptoSaid : Prop := wordsPlacesUptoRow.holds Tryd.pinned (OpenSpec.upto wordsPlacesSpec)

/-- 'dovetaillaw02.WordsOwn', WHERE WHAT IT READS IS OF BULK AT MOST 1048576: true; the input reads as it did. -/
def wordsOwnUptoRow : OpenClaim := { program := "yteaiejippkikpaadoor", sum := "5ca68c4bba709c78cab447ede157d84a433f4f8a2c59d0badd46812b8c2f3fc9", func := "dovetail/dovetaillaw02.WordsOwn", spec := "wordsOwn", inPlace := ["internal/bytealg.IndexByteString", "internal/abi.NoEscape", "internal/reflectlite.TypeOf", "internal/reflectlite.ValueOf", "(internal/reflectlite.Value).Type", "(internal/reflectlite.Value).IsNil", "(internal/reflectlite.Value).Elem", "(internal/reflectlite.Value).Set"], unfollowed := true, recurses := true, named := ["dovetail/api.ErrLong", "dovetail/api.ErrSyntax", "dovetail/api.ErrArg", "dovetail/api.ErrBounds", "dovetail/api.ErrNotOperator", "dovetail/api.ErrMatrix", "dovetail/api.ErrTooBig", "dovetail/api.ErrRefused", "dovetail/api.ErrCut", "dovetail/api.ErrPlan", "dovetail/api.ErrName", "dovetail/api.ErrTree", "dovetail/api.ErrForm", "dovetail/api.ErrSum", "dovetail/api.ErrNone", "errors.errorType"], apart := false, laid := [("errors.errorType", laid_errors_errorType), ("dovetail/api.ErrArg", laid_dovetail_api_ErrArg), ("dovetail/api.ErrSyntax", laid_dovetail_api_ErrSyntax), ("dovetail/api.ErrBounds", laid_dovetail_api_ErrBounds), ("dovetail/api.ErrNotOperator", laid_dovetail_api_ErrNotOperator), ("dovetail/api.ErrMatrix", laid_dovetail_api_ErrMatrix), ("dovetail/api.ErrTooBig", laid_dovetail_api_ErrTooBig), ("dovetail/api.ErrRefused", laid_dovetail_api_ErrRefused), ("dovetail/api.ErrCut", laid_dovetail_api_ErrCut), ("dovetail/api.ErrPlan", laid_dovetail_api_ErrPlan), ("dovetail/api.ErrName", laid_dovetail_api_ErrName), ("dovetail/api.ErrTree", laid_dovetail_api_ErrTree), ("dovetail/api.ErrLong", laid_dovetail_api_ErrLong), ("dovetail/api.ErrForm", laid_dovetail_api_ErrForm), ("dovetail/api.ErrSum", laid_dovetail_api_ErrSum), ("dovetail/api.ErrNone", laid_dovetail_api_ErrNone)], narrowed := true }
def WordsOwnUptoSaid : Prop := wordsOwnUptoRow.holds Tryd.pinned (OpenSpec.upto wordsOwnSpec)

/-- 'dovetaillaw02.WordsBack', WHERE WHAT IT READS IS OF BULK AT MOST 1048576: true; the input reads as it did. -/
def wordsBackUptoRow : OpenClaim := { program := "yteaiejippkikpaadoor", sum := "5ca68c4bba709c78cab447ede157d84a433f4f8a2c59d0badd46812b8c2f3fc9", func := "dovetail/dovetaillaw02.WordsBack", spec := "wordsBack", inPlace := ["internal/bytealg.IndexByteString", "internal/abi.NoEscape", "internal/reflectlite.TypeOf", "internal/reflectlite.ValueOf", "(internal/reflectlite.Value).Type", "(internal/reflectlite.Value).IsNil", "(internal/reflectlite.Value).Elem", "(internal/reflectlite.Value).Set"], unfollowed := true, recurses := true, named := ["dovetail/api.ErrLong", "dovetail/api.ErrSyntax", "dovetail/api.ErrArg", "dovetail/api.ErrBounds", "dovetail/api.ErrNotOperator", "dovetail/api.ErrMatrix", "dovetail/api.ErrTooBig", "dovetail/api.ErrRefused", "dovetail/api.ErrCut", "dovetail/api.ErrPlan", "dovetail/api.ErrName", "dovetail/api.ErrTree", "dovetail/api.ErrForm", "dovetail/api.ErrSum", "dovetail/api.ErrNone", "errors.errorType"], apart := false, laid := [("errors.errorType", laid_errors_errorType), ("dovetail/api.ErrArg", laid_dovetail_api_ErrArg), ("dovetail/api.ErrSyntax", laid_dovetail_api_ErrSyntax), ("dovetail/api.ErrBounds", laid_dovetail_api_ErrBounds), ("dovetail/api.ErrNotOperator", laid_dovetail_api_ErrNotOperator), ("dovetail/api.ErrMatrix", laid_dovetail_api_ErrMatrix), ("dovetail/api.ErrTooBig", laid_dovetail_api_ErrTooBig), ("dovetail/api.ErrRefused", laid_dovetail_api_ErrRefused), ("dovetail/api.ErrCut", laid_dovetail_api_ErrCut), ("dovetail/api.ErrPlan", laid_dovetail_api_ErrPlan), ("dovetail/api.ErrName", laid_dovetail_api_ErrName), ("dovetail/api.ErrTree", laid_dovetail_api_ErrTree), ("dovetail/api.ErrLong", laid_dovetail_api_ErrLong), ("dovetail/api.ErrForm", laid_dovetail_api_ErrForm), ("dovetail/api.ErrSum", laid_dovetail_api_ErrSum), ("dovetail/api.ErrNone", laid_dovetail_api_ErrNone)], narrowed := true }
def WordsBackUptoSaid : Prop := wordsBackUptoRow.holds Tryd.pinned (OpenSpec.upto wordsBackSpec)

/-- 'dovetaillaw03.GramKnown', WHERE WHAT IT READS IS OF BULK AT MOST 1048576: true; the input reads as it did. -/
def gramKnownUptoRow : OpenClaim := { program := "yteaiejippkikpaadoor", sum := "5ca68c4bba709c78cab447ede157d84a433f4f8a2c59d0badd46812b8c2f3fc9", func := "dovetail/dovetaillaw03.GramKnown", spec := "gramKnown", inPlace := ["internal/reflectlite.TypeOf", "internal/reflectlite.ValueOf", "(internal/reflectlite.Value).Type", "(internal/reflectlite.Value).IsNil", "(internal/reflectlite.Value).Elem", "(internal/reflectlite.Value).Set"], unfollowed := true, recurses := true, named := ["dovetail/api.ErrBounds", "dovetail/api.ErrName", "dovetail/api.ErrArg", "dovetail/api.ErrSyntax", "dovetail/api.ErrNotOperator", "dovetail/api.ErrMatrix", "dovetail/api.ErrTooBig", "dovetail/api.ErrRefused", "dovetail/api.ErrCut", "dovetail/api.ErrPlan", "dovetail/api.ErrTree", "dovetail/api.ErrLong", "dovetail/api.ErrForm", "dovetail/api.ErrSum", "dovetail/api.ErrNone", "errors.errorType"], apart := false, laid := [("errors.errorType", laid_errors_errorType), ("dovetail/api.ErrArg", laid_dovetail_api_ErrArg), ("dovetail/api.ErrSyntax", laid_dovetail_api_ErrSyntax), ("dovetail/api.ErrBounds", laid_dovetail_api_ErrBounds), ("dovetail/api.ErrNotOperator", laid_dovetail_api_ErrNotOperator), ("dovetail/api.ErrMatrix", laid_dovetail_api_ErrMatrix), ("dovetail/api.ErrTooBig", laid_dovetail_api_ErrTooBig), ("dovetail/api.ErrRefused", laid_dovetail_api_ErrRefused), ("dovetail/api.ErrCut", laid_dovetail_api_ErrCut), ("dovetail/api.ErrPlan", laid_dovetail_api_ErrPlan), ("dovetail/api.ErrName", laid_dovetail_api_ErrName), ("dovetail/api.ErrTree", laid_dovetail_api_ErrTree), ("dovetail/api.ErrLong", laid_dovetail_api_ErrLong), ("dovetail/api.ErrForm", laid_dovetail_api_ErrForm), ("dovetail/api.ErrSum", laid_dovetail_api_ErrSum), ("dovetail/api.ErrNone", laid_dovetail_api_ErrNone)], narrowed := true }
def GramKnownUptoSaid : Prop := gramKnownUptoRow.holds Tryd.pinned (OpenSpec.upto gramKnownSpec)

end Rows
end Go.Proofs.YteaiejippkikpaaDoor
