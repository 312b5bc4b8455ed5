/-
  NARROWER THAN 'FOR EVERY INPUT', by the rows' own cells (each row's printed sentence says how): LineWrites: laid · ShowParts: laid · ShowTexts: laid · ShowOne: laid · ShowRules: laid · GramBuilds: laid · GramKnown: laid.
  DERIVED. THE GIVEN ROWS OF THIS SEAT. 7 by the template 'for every input the law returns true; each argument reads behind the call as it read before'; 0 by the template 'total and deterministic' (their statements: YthjhaogfpdkhbaaDoorTotals.lean).
  GIVEN WITH THE SEED: the statements are not yours to turn. If you find one false, say at which input.
  Laid BY PROGRAM, IN A SANDBOX (cutbox-rows.mjs): the forced cells as the released guide's own fill.sh prints them over the translation 724edf86a9ff216d… (all of the seat's roots in one cut). By AI agents, Wed Nov 11 2026. No macro, syntax, notation, axiom, sorry.
-/
import Derived.Test.YthjhaogfpdkhbaaDoorChecked
import GoSem.Claim
import GoSem.ClaimJoined
import GoSem.ClaimMapViews
import Derived.JoinedTies
import Derived.KernelRfl
namespace Go.Proofs.YthjhaogfpdkhbaaDoor
/- THE CELL 'sum', in the pinned program and in every row, IS THE sha256 OF THE DUMP (.gsa) THAT YthjhaogfpdkhbaaDoorProg.lean LOADS. Nothing in Lean hashes anything: it is a label: what it is worth is what the hold of that sum in a sandbox is worth. -/
noncomputable def Tryd.pinned : Pinned := { name := "ythjhaogfpdkhbaadoor", sum := "724edf86a9ff216d5538997e9b9e0edbcf36f83bc2379f5b5f0c72f796e0b04a", checked := Tryd.checked }
namespace Rows
def none {H : Type} : Left H := { results := [], args := [] }

/- WHAT THE LISTED PACKAGE-LEVEL VARIABLES READ AS WHEN THE CALL BEGINS. Each datum BY PROGRAM (the guide's laid-datum.mjs) off the statement by which the dump's own 'gosem.cut.vars' lays the variable. In a bare row this is a premise. The card (YthjhaogfpdkhbaaDoorCards.lean) ties it to the program's text. -/
def laid_dovetail_api_ErrArg {H : Type} : DataW H := .iface "*errors.errorString" (.ptr (.agg [.lit (.string [100, 111, 118, 101, 116, 97, 105, 108, 58, 32, 97, 114, 103, 117, 109, 101, 110, 116])]))
def laid_dovetail_api_ErrSyntax {H : Type} : DataW H := .iface "*errors.errorString" (.ptr (.agg [.lit (.string [100, 111, 118, 101, 116, 97, 105, 108, 58, 32, 115, 121, 110, 116, 97, 120])]))
def laid_dovetail_api_ErrBounds {H : Type} : DataW H := .iface "*errors.errorString" (.ptr (.agg [.lit (.string [100, 111, 118, 101, 116, 97, 105, 108, 58, 32, 98, 111, 117, 110, 100, 115])]))
def laid_dovetail_api_ErrNotOperator {H : Type} : DataW H := .iface "*errors.errorString" (.ptr (.agg [.lit (.string [100, 111, 118, 101, 116, 97, 105, 108, 58, 32, 110, 111, 116, 32, 97, 110, 32, 111, 112, 101, 114, 97, 116, 111, 114, 32, 103, 114, 97, 109, 109, 97, 114])]))
def laid_dovetail_api_ErrMatrix {H : Type} : DataW H := .iface "*errors.errorString" (.ptr (.agg [.lit (.string [100, 111, 118, 101, 116, 97, 105, 108, 58, 32, 116, 119, 111, 32, 114, 101, 108, 97, 116, 105, 111, 110, 115])]))
def laid_dovetail_api_ErrTooBig {H : Type} : DataW H := .iface "*errors.errorString" (.ptr (.agg [.lit (.string [100, 111, 118, 101, 116, 97, 105, 108, 58, 32, 116, 111, 111, 32, 98, 105, 103])]))
def laid_dovetail_api_ErrRefused {H : Type} : DataW H := .iface "*errors.errorString" (.ptr (.agg [.lit (.string [100, 111, 118, 101, 116, 97, 105, 108, 58, 32, 114, 101, 102, 117, 115, 101, 100])]))
def laid_dovetail_api_ErrCut {H : Type} : DataW H := .iface "*errors.errorString" (.ptr (.agg [.lit (.string [100, 111, 118, 101, 116, 97, 105, 108, 58, 32, 99, 117, 116])]))
def laid_dovetail_api_ErrPlan {H : Type} : DataW H := .iface "*errors.errorString" (.ptr (.agg [.lit (.string [100, 111, 118, 101, 116, 97, 105, 108, 58, 32, 112, 108, 97, 110])]))
def laid_dovetail_api_ErrName {H : Type} : DataW H := .iface "*errors.errorString" (.ptr (.agg [.lit (.string [100, 111, 118, 101, 116, 97, 105, 108, 58, 32, 110, 97, 109, 101])]))
def laid_dovetail_api_ErrTree {H : Type} : DataW H := .iface "*errors.errorString" (.ptr (.agg [.lit (.string [100, 111, 118, 101, 116, 97, 105, 108, 58, 32, 116, 114, 101, 101])]))
def laid_dovetail_api_ErrLong {H : Type} : DataW H := .iface "*errors.errorString" (.ptr (.agg [.lit (.string [100, 111, 118, 101, 116, 97, 105, 108, 58, 32, 108, 111, 110, 103])]))
def laid_dovetail_api_ErrForm {H : Type} : DataW H := .iface "*errors.errorString" (.ptr (.agg [.lit (.string [100, 111, 118, 101, 116, 97, 105, 108, 58, 32, 102, 111, 114, 109])]))
def laid_dovetail_api_ErrSum {H : Type} : DataW H := .iface "*errors.errorString" (.ptr (.agg [.lit (.string [100, 111, 118, 101, 116, 97, 105, 108, 58, 32, 115, 117, 109])]))
def laid_dovetail_api_ErrNone {H : Type} : DataW H := .iface "*errors.errorString" (.ptr (.agg [.lit (.string [100, 111, 118, 101, 116, 97, 105, 108, 58, 32, 110, 111, 110, 101])]))
def laid_errors_errorType {H : Type} : DataW H := .iface "internal/reflectlite.rtype" (.agg [.ptr (.lit (.string [101, 114, 114, 111, 114]))])

/-- 'dovetaillaw15.LineWrites': WHATEVER THE INPUT: true; the input reads as it did. -/
def lineWritesSpec : ChangeSpec := { name := "lineWrites", fn := fun _ => fun
  | [d1, d2] => { results := [.lit (.bool true)], args := [d1, d2] }
  | _ => none }
def lineWritesRow : OpenClaim := { program := "ythjhaogfpdkhbaadoor", sum := "724edf86a9ff216d5538997e9b9e0edbcf36f83bc2379f5b5f0c72f796e0b04a", func := "dovetail/dovetaillaw15.LineWrites", spec := "lineWrites", inPlace := ["internal/abi.NoEscape", "internal/reflectlite.TypeOf"], unfollowed := true, recurses := true, named := ["dovetail/api.ErrLong", "dovetail/api.ErrArg", "dovetail/api.ErrBounds", "dovetail/api.ErrName", "dovetail/api.ErrSyntax", "dovetail/api.ErrNotOperator", "dovetail/api.ErrMatrix", "dovetail/api.ErrTooBig", "dovetail/api.ErrRefused", "dovetail/api.ErrCut", "dovetail/api.ErrPlan", "dovetail/api.ErrTree", "dovetail/api.ErrForm", "dovetail/api.ErrSum", "dovetail/api.ErrNone"], apart := false, laid := [("dovetail/api.ErrArg", laid_dovetail_api_ErrArg), ("dovetail/api.ErrSyntax", laid_dovetail_api_ErrSyntax), ("dovetail/api.ErrBounds", laid_dovetail_api_ErrBounds), ("dovetail/api.ErrNotOperator", laid_dovetail_api_ErrNotOperator), ("dovetail/api.ErrMatrix", laid_dovetail_api_ErrMatrix), ("dovetail/api.ErrTooBig", laid_dovetail_api_ErrTooBig), ("dovetail/api.ErrRefused", laid_dovetail_api_ErrRefused), ("dovetail/api.ErrCut", laid_dovetail_api_ErrCut), ("dovetail/api.ErrPlan", laid_dovetail_api_ErrPlan), ("dovetail/api.ErrName", laid_dovetail_api_ErrName), ("dovetail/api.ErrTree", laid_dovetail_api_ErrTree), ("dovetail/api.ErrLong", laid_dovetail_api_ErrLong), ("dovetail/api.ErrForm", laid_dovetail_api_ErrForm), ("dovetail/api.ErrSum", laid_dovetail_api_ErrSum), ("dovetail/api.ErrNone", laid_dovetail_api_ErrNone)] }
def LineWritesSaid : Prop := lineWritesRow.holds Tryd.pinned (OpenSpec.ofChange lineWritesSpec)

/-- ITS FALSE NEIGHBOUR: 'it returns false'. Refute it at one input. -/
def lineWritesWrong : ChangeSpec := { name := "lineWrites", fn := fun _ => fun
  | [d1, d2] => { results := [.lit (.bool false)], args := [d1, d2] }
  | _ => none }
def LineWritesWrongFalsely : Prop := lineWritesRow.holds Tryd.pinned (OpenSpec.ofChange lineWritesWrong)

/-- 'dovetaillaw05.ShowParts': WHATEVER THE INPUT: true; the input reads as it did. -/
def showPartsSpec : ChangeSpec := { name := "showParts", fn := fun _ => fun
  | [d1, d2, d3, d4] => { results := [.lit (.bool true)], args := [d1, d2, d3, d4] }
  | _ => none }
def showPartsRow : OpenClaim := { program := "ythjhaogfpdkhbaadoor", sum := "724edf86a9ff216d5538997e9b9e0edbcf36f83bc2379f5b5f0c72f796e0b04a", func := "dovetail/dovetaillaw05.ShowParts", spec := "showParts", inPlace := ["internal/abi.NoEscape", "internal/reflectlite.TypeOf"], unfollowed := true, recurses := true, named := ["dovetail/api.ErrArg", "dovetail/api.ErrBounds", "dovetail/api.ErrName", "dovetail/api.ErrSyntax", "dovetail/api.ErrNotOperator", "dovetail/api.ErrMatrix", "dovetail/api.ErrTooBig", "dovetail/api.ErrRefused", "dovetail/api.ErrCut", "dovetail/api.ErrPlan", "dovetail/api.ErrTree", "dovetail/api.ErrLong", "dovetail/api.ErrForm", "dovetail/api.ErrSum", "dovetail/api.ErrNone"], apart := false, laid := [("dovetail/api.ErrArg", laid_dovetail_api_ErrArg), ("dovetail/api.ErrSyntax", laid_dovetail_api_ErrSyntax), ("dovetail/api.ErrBounds", laid_dovetail_api_ErrBounds), ("dovetail/api.ErrNotOperator", laid_dovetail_api_ErrNotOperator), ("dovetail/api.ErrMatrix", laid_dovetail_api_ErrMatrix), ("dovetail/api.ErrTooBig", laid_dovetail_api_ErrTooBig), ("dovetail/api.ErrRefused", laid_dovetail_api_ErrRefused), ("dovetail/api.ErrCut", laid_dovetail_api_ErrCut), ("dovetail/api.ErrPlan", laid_dovetail_api_ErrPlan), ("dovetail/api.ErrName", laid_dovetail_api_ErrName), ("dovetail/api.ErrTree", laid_dovetail_api_ErrTree), ("dovetail/api.ErrLong", laid_dovetail_api_ErrLong), ("dovetail/api.ErrForm", laid_dovetail_api_ErrForm), ("dovetail/api.ErrSum", laid_dovetail_api_ErrSum), ("dovetail/api.ErrNone", laid_dovetail_api_ErrNone)] }
def ShowPartsSaid : Prop := showPartsRow.holds Tryd.pinned (OpenSpec.ofChange showPartsSpec)

/-- ITS FALSE NEIGHBOUR: 'it returns false'. Refute it at one input. -/
def showPartsWrong : ChangeSpec := { name := "showParts", fn := fun _ => fun
  | [d1, d2, d3, d4] => { results := [.lit (.bool false)], args := [d1, d2, d3, d4] }
  | _ => none }
def ShowPartsWrongFalsely : Prop := showPartsRow.holds Tryd.pinned (OpenSpec.ofChange showPartsWrong)

/-- 'dovetaillaw05.ShowTexts': WHATEVER THE INPUT: true; the input reads as it did. -/
def showTextsSpec : ChangeSpec := { name := "showTexts", fn := fun _ => fun
  | [d] => { results := [.lit (.bool true)], args := [d] }
  | _ => none }
def showTextsRow : OpenClaim := { program := "ythjhaogfpdkhbaadoor", sum := "724edf86a9ff216d5538997e9b9e0edbcf36f83bc2379f5b5f0c72f796e0b04a", func := "dovetail/dovetaillaw05.ShowTexts", spec := "showTexts", inPlace := ["internal/abi.NoEscape", "internal/reflectlite.TypeOf"], unfollowed := true, recurses := true, named := ["dovetail/api.ErrLong", "dovetail/api.ErrName", "dovetail/api.ErrForm", "dovetail/api.ErrBounds", "dovetail/api.ErrArg", "dovetail/api.ErrSyntax", "dovetail/api.ErrNotOperator", "dovetail/api.ErrMatrix", "dovetail/api.ErrTooBig", "dovetail/api.ErrRefused", "dovetail/api.ErrCut", "dovetail/api.ErrPlan", "dovetail/api.ErrTree", "dovetail/api.ErrSum", "dovetail/api.ErrNone"], apart := false, laid := [("dovetail/api.ErrArg", laid_dovetail_api_ErrArg), ("dovetail/api.ErrSyntax", laid_dovetail_api_ErrSyntax), ("dovetail/api.ErrBounds", laid_dovetail_api_ErrBounds), ("dovetail/api.ErrNotOperator", laid_dovetail_api_ErrNotOperator), ("dovetail/api.ErrMatrix", laid_dovetail_api_ErrMatrix), ("dovetail/api.ErrTooBig", laid_dovetail_api_ErrTooBig), ("dovetail/api.ErrRefused", laid_dovetail_api_ErrRefused), ("dovetail/api.ErrCut", laid_dovetail_api_ErrCut), ("dovetail/api.ErrPlan", laid_dovetail_api_ErrPlan), ("dovetail/api.ErrName", laid_dovetail_api_ErrName), ("dovetail/api.ErrTree", laid_dovetail_api_ErrTree), ("dovetail/api.ErrLong", laid_dovetail_api_ErrLong), ("dovetail/api.ErrForm", laid_dovetail_api_ErrForm), ("dovetail/api.ErrSum", laid_dovetail_api_ErrSum), ("dovetail/api.ErrNone", laid_dovetail_api_ErrNone)] }
def ShowTextsSaid : Prop := showTextsRow.holds Tryd.pinned (OpenSpec.ofChange showTextsSpec)

/-- ITS FALSE NEIGHBOUR: 'it returns false'. Refute it at one input. -/
def showTextsWrong : ChangeSpec := { name := "showTexts", fn := fun _ => fun
  | [d] => { results := [.lit (.bool false)], args := [d] }
  | _ => none }
def ShowTextsWrongFalsely : Prop := showTextsRow.holds Tryd.pinned (OpenSpec.ofChange showTextsWrong)

/-- 'dovetaillaw05.ShowOne': WHATEVER THE INPUT: true; the input reads as it did. -/
def showOneSpec : ChangeSpec := { name := "showOne", fn := fun _ => fun
  | [d1, d2] => { results := [.lit (.bool true)], args := [d1, d2] }
  | _ => none }
def showOneRow : OpenClaim := { program := "ythjhaogfpdkhbaadoor", sum := "724edf86a9ff216d5538997e9b9e0edbcf36f83bc2379f5b5f0c72f796e0b04a", func := "dovetail/dovetaillaw05.ShowOne", spec := "showOne", inPlace := ["internal/abi.NoEscape", "internal/reflectlite.TypeOf"], unfollowed := true, recurses := true, named := ["dovetail/api.ErrLong", "dovetail/api.ErrName", "dovetail/api.ErrForm", "dovetail/api.ErrBounds", "dovetail/api.ErrArg", "dovetail/api.ErrSyntax", "dovetail/api.ErrNotOperator", "dovetail/api.ErrMatrix", "dovetail/api.ErrTooBig", "dovetail/api.ErrRefused", "dovetail/api.ErrCut", "dovetail/api.ErrPlan", "dovetail/api.ErrTree", "dovetail/api.ErrSum", "dovetail/api.ErrNone"], apart := false, laid := [("dovetail/api.ErrArg", laid_dovetail_api_ErrArg), ("dovetail/api.ErrSyntax", laid_dovetail_api_ErrSyntax), ("dovetail/api.ErrBounds", laid_dovetail_api_ErrBounds), ("dovetail/api.ErrNotOperator", laid_dovetail_api_ErrNotOperator), ("dovetail/api.ErrMatrix", laid_dovetail_api_ErrMatrix), ("dovetail/api.ErrTooBig", laid_dovetail_api_ErrTooBig), ("dovetail/api.ErrRefused", laid_dovetail_api_ErrRefused), ("dovetail/api.ErrCut", laid_dovetail_api_ErrCut), ("dovetail/api.ErrPlan", laid_dovetail_api_ErrPlan), ("dovetail/api.ErrName", laid_dovetail_api_ErrName), ("dovetail/api.ErrTree", laid_dovetail_api_ErrTree), ("dovetail/api.ErrLong", laid_dovetail_api_ErrLong), ("dovetail/api.ErrForm", laid_dovetail_api_ErrForm), ("dovetail/api.ErrSum", laid_dovetail_api_ErrSum), ("dovetail/api.ErrNone", laid_dovetail_api_ErrNone)] }
def ShowOneSaid : Prop := showOneRow.holds Tryd.pinned (OpenSpec.ofChange showOneSpec)

/-- ITS FALSE NEIGHBOUR: 'it returns false'. Refute it at one input. -/
def showOneWrong : ChangeSpec := { name := "showOne", fn := fun _ => fun
  | [d1, d2] => { results := [.lit (.bool false)], args := [d1, d2] }
  | _ => none }
def ShowOneWrongFalsely : Prop := showOneRow.holds Tryd.pinned (OpenSpec.ofChange showOneWrong)

/-- 'dovetaillaw05.ShowRules': WHATEVER THE INPUT: true; the input reads as it did. -/
def showRulesSpec : ChangeSpec := { name := "showRules", fn := fun _ => fun
  | [d1, d2] => { results := [.lit (.bool true)], args := [d1, d2] }
  | _ => none }
def showRulesRow : OpenClaim := { program := "ythjhaogfpdkhbaadoor", sum := "724edf86a9ff216d5538997e9b9e0edbcf36f83bc2379f5b5f0c72f796e0b04a", func := "dovetail/dovetaillaw05.ShowRules", spec := "showRules", inPlace := ["internal/abi.NoEscape", "internal/reflectlite.TypeOf"], unfollowed := true, recurses := true, named := ["dovetail/api.ErrLong", "dovetail/api.ErrName", "dovetail/api.ErrForm", "dovetail/api.ErrBounds", "dovetail/api.ErrArg", "dovetail/api.ErrSyntax", "dovetail/api.ErrNotOperator", "dovetail/api.ErrMatrix", "dovetail/api.ErrTooBig", "dovetail/api.ErrRefused", "dovetail/api.ErrCut", "dovetail/api.ErrPlan", "dovetail/api.ErrTree", "dovetail/api.ErrSum", "dovetail/api.ErrNone"], apart := false, laid := [("dovetail/api.ErrArg", laid_dovetail_api_ErrArg), ("dovetail/api.ErrSyntax", laid_dovetail_api_ErrSyntax), ("dovetail/api.ErrBounds", laid_dovetail_api_ErrBounds), ("dovetail/api.ErrNotOperator", laid_dovetail_api_ErrNotOperator), ("dovetail/api.ErrMatrix", laid_dovetail_api_ErrMatrix), ("dovetail/api.ErrTooBig", laid_dovetail_api_ErrTooBig), ("dovetail/api.ErrRefused", laid_dovetail_api_ErrRefused), ("dovetail/api.ErrCut", laid_dovetail_api_ErrCut), ("dovetail/api.ErrPlan", laid_dovetail_api_ErrPlan), ("dovetail/api.ErrName", laid_dovetail_api_ErrName), ("dovetail/api.ErrTree", laid_dovetail_api_ErrTree), ("dovetail/api.ErrLong", laid_dovetail_api_ErrLong), ("dovetail/api.ErrForm", laid_dovetail_api_ErrForm), ("dovetail/api.ErrSum", laid_dovetail_api_ErrSum), ("dovetail/api.ErrNone", laid_dovetail_api_ErrNone)] }
def ShowRulesSaid : Prop := showRulesRow.holds Tryd.pinned (OpenSpec.ofChange showRulesSpec)

/-- ITS FALSE NEIGHBOUR: 'it returns false'. Refute it at one input. -/
def showRulesWrong : ChangeSpec := { name := "showRules", fn := fun _ => fun
  | [d1, d2] => { results := [.lit (.bool false)], args := [d1, d2] }
  | _ => none }
def ShowRulesWrongFalsely : Prop := showRulesRow.holds Tryd.pinned (OpenSpec.ofChange showRulesWrong)

/-- 'dovetaillaw03.GramBuilds': WHATEVER THE INPUT: true; the input reads as it did. -/
def gramBuildsSpec : ChangeSpec := { name := "gramBuilds", fn := fun _ => fun
  | [d] => { results := [.lit (.bool true)], args := [d] }
  | _ => none }
def gramBuildsRow : OpenClaim := { program := "ythjhaogfpdkhbaadoor", sum := "724edf86a9ff216d5538997e9b9e0edbcf36f83bc2379f5b5f0c72f796e0b04a", func := "dovetail/dovetaillaw03.GramBuilds", spec := "gramBuilds", inPlace := ["internal/reflectlite.TypeOf", "internal/reflectlite.ValueOf", "(internal/reflectlite.Value).Type", "(internal/reflectlite.Value).IsNil", "(internal/reflectlite.Value).Elem", "(internal/reflectlite.Value).Set"], unfollowed := true, recurses := true, named := ["dovetail/api.ErrArg", "dovetail/api.ErrBounds", "dovetail/api.ErrName", "dovetail/api.ErrSyntax", "dovetail/api.ErrNotOperator", "dovetail/api.ErrMatrix", "dovetail/api.ErrTooBig", "dovetail/api.ErrRefused", "dovetail/api.ErrCut", "dovetail/api.ErrPlan", "dovetail/api.ErrTree", "dovetail/api.ErrLong", "dovetail/api.ErrForm", "dovetail/api.ErrSum", "dovetail/api.ErrNone", "errors.errorType"], apart := false, laid := [("errors.errorType", laid_errors_errorType), ("dovetail/api.ErrArg", laid_dovetail_api_ErrArg), ("dovetail/api.ErrSyntax", laid_dovetail_api_ErrSyntax), ("dovetail/api.ErrBounds", laid_dovetail_api_ErrBounds), ("dovetail/api.ErrNotOperator", laid_dovetail_api_ErrNotOperator), ("dovetail/api.ErrMatrix", laid_dovetail_api_ErrMatrix), ("dovetail/api.ErrTooBig", laid_dovetail_api_ErrTooBig), ("dovetail/api.ErrRefused", laid_dovetail_api_ErrRefused), ("dovetail/api.ErrCut", laid_dovetail_api_ErrCut), ("dovetail/api.ErrPlan", laid_dovetail_api_ErrPlan), ("dovetail/api.ErrName", laid_dovetail_api_ErrName), ("dovetail/api.ErrTree", laid_dovetail_api_ErrTree), ("dovetail/api.ErrLong", laid_dovetail_api_ErrLong), ("dovetail/api.ErrForm", laid_dovetail_api_ErrForm), ("dovetail/api.ErrSum", laid_dovetail_api_ErrSum), ("dovetail/api.ErrNone", laid_dovetail_api_ErrNone)] }
def GramBuildsSaid : Prop := gramBuildsRow.holds Tryd.pinned (OpenSpec.ofChange gramBuildsSpec)

/-- ITS FALSE NEIGHBOUR: 'it returns false'. Refute it at one input. -/
def gramBuildsWrong : ChangeSpec := { name := "gramBuilds", fn := fun _ => fun
  | [d] => { results := [.lit (.bool false)], args := [d] }
  | _ => none }
def GramBuildsWrongFalsely : Prop := gramBuildsRow.holds Tryd.pinned (OpenSpec.ofChange gramBuildsWrong)

/-- 'dovetaillaw03.GramKnown': WHATEVER THE INPUT: true; the input reads as it did. -/
def gramKnownSpec : ChangeSpec := { name := "gramKnown", fn := fun _ => fun
  | [] => { results := [.lit (.bool true)], args := [] }
  | _ => none }
def gramKnownRow : OpenClaim := { program := "ythjhaogfpdkhbaadoor", sum := "724edf86a9ff216d5538997e9b9e0edbcf36f83bc2379f5b5f0c72f796e0b04a", func := "dovetail/dovetaillaw03.GramKnown", spec := "gramKnown", inPlace := ["internal/reflectlite.TypeOf", "internal/reflectlite.ValueOf", "(internal/reflectlite.Value).Type", "(internal/reflectlite.Value).IsNil", "(internal/reflectlite.Value).Elem", "(internal/reflectlite.Value).Set"], unfollowed := true, recurses := true, named := ["dovetail/api.ErrBounds", "dovetail/api.ErrName", "dovetail/api.ErrArg", "dovetail/api.ErrSyntax", "dovetail/api.ErrNotOperator", "dovetail/api.ErrMatrix", "dovetail/api.ErrTooBig", "dovetail/api.ErrRefused", "dovetail/api.ErrCut", "dovetail/api.ErrPlan", "dovetail/api.ErrTree", "dovetail/api.ErrLong", "dovetail/api.ErrForm", "dovetail/api.ErrSum", "dovetail/api.ErrNone", "errors.errorType"], apart := false, laid := [("errors.errorType", laid_errors_errorType), ("dovetail/api.ErrArg", laid_dovetail_api_ErrArg), ("dovetail/api.ErrSyntax", laid_dovetail_api_ErrSyntax), ("dovetail/api.ErrBounds", laid_dovetail_api_ErrBounds), ("dovetail/api.ErrNotOperator", laid_dovetail_api_ErrNotOperator), ("dovetail/api.ErrMatrix", laid_dovetail_api_ErrMatrix), ("dovetail/api.ErrTooBig", laid_dovetail_api_ErrTooBig), ("dovetail/api.ErrRefused", laid_dovetail_api_ErrRefused), ("dovetail/api.ErrCut", laid_dovetail_api_ErrCut), ("dovetail/api.ErrPlan", laid_dovetail_api_ErrPlan), ("dovetail/api.ErrName", laid_dovetail_api_ErrName), ("dovetail/api.ErrTree", laid_dovetail_api_ErrTree), ("dovetail/api.ErrLong", laid_dovetail_api_ErrLong), ("dovetail/api.ErrForm", laid_dovetail_api_ErrForm), ("dovetail/api.ErrSum", laid_dovetail_api_ErrSum), ("dovetail/api.ErrNone", laid_dovetail_api_ErrNone)] }
def GramKnownSaid : Prop := gramKnownRow.holds Tryd.pinned (OpenSpec.ofChange gramKnownSpec)

/-- ITS FALSE NEIGHBOUR: 'it returns false'. Refute it at one input. -/
def gramKnownWrong : ChangeSpec := { name := "gramKnown", fn := fun _ => fun
  | [] => { results := [.lit (.bool false)], args := [] }
  | _ => none }
def GramKnownWrongFalsely : Prop := gramKnownRow.holds Tryd.pinned (OpenSpec.ofChange gramKnownWrong)

/- THE SECOND FORM. 'bulk': how many values and letters a reading holds, each counted each time it is reached (what is shared counts as often as it is met; a slice's spare places count too). A statement '..UptoSaid' is the law's where the arguments, and the package variables that the reading takes, are together of bulk at most 1048576: NARROWER than '..Said'. Prove '..Said' where nothing that the law and all that it calls make is longer than what came in: it says more and counts as full. Else prove '..UptoSaid'. A law counts once. -/
mutual
def uptoBulk {H : Type} : DataW H → Nat
  | .lit (.string bytes) => bytes.length + 1
  | .lit _ => 1
  | .nil => 1
  | .ptr d => uptoBulk d + 1
  | .slice elems spare => uptoBulkAll elems + uptoBulkAll spare + 1
  | .agg parts => uptoBulkAll parts + 1
  | .iface _ d => uptoBulk d + 1
  | .map entries => uptoBulkEntries entries + 1
  | .held _ => 1
def uptoBulkAll {H : Type} : List (DataW H) → Nat
  | [] => 0
  | d :: r => uptoBulk d + uptoBulkAll r
def uptoBulkEntries {H : Type} : List (Lit × DataW H) → Nat
  | [] => 0
  | x :: r => uptoBulkEntry x + uptoBulkEntries r
def uptoBulkEntry {H : Type} : Lit × DataW H → Nat
  | (.string bytes, d) => bytes.length + uptoBulk d + 1
  | (_, d) => uptoBulk d + 1
 end
def uptoSmall : (H : Type) → List (DataW H) → Bool := fun _ ds => decide (uptoBulkAll ds ≤ 1048576)
def OpenSpec.upto (s : _root_.Go.ChangeSpec) : _root_.Go.OpenSpec := { _root_.Go.OpenSpec.ofChange s with cond := some uptoSmall }

/-- 'dovetaillaw15.LineWrites', WHERE WHAT IT READS IS OF BULK AT MOST 1048576: true; the input reads as it did. -/
def lineWritesUptoRow : OpenClaim := { program := "ythjhaogfpdkhbaadoor", sum := "724edf86a9ff216d5538997e9b9e0edbcf36f83bc2379f5b5f0c72f796e0b04a", func := "dovetail/dovetaillaw15.LineWrites", spec := "lineWrites", inPlace := ["internal/abi.NoEscape", "internal/reflectlite.TypeOf"], unfollowed := true, recurses := true, named := ["dovetail/api.ErrLong", "dovetail/api.ErrArg", "dovetail/api.ErrBounds", "dovetail/api.ErrName", "dovetail/api.ErrSyntax", "dovetail/api.ErrNotOperator", "dovetail/api.ErrMatrix", "dovetail/api.ErrTooBig", "dovetail/api.ErrRefused", "dovetail/api.ErrCut", "dovetail/api.ErrPlan", "dovetail/api.ErrTree", "dovetail/api.ErrForm", "dovetail/api.ErrSum", "dovetail/api.ErrNone"], apart := false, laid := [("dovetail/api.ErrArg", laid_dovetail_api_ErrArg), ("dovetail/api.ErrSyntax", laid_dovetail_api_ErrSyntax), ("dovetail/api.ErrBounds", laid_dovetail_api_ErrBounds), ("dovetail/api.ErrNotOperator", laid_dovetail_api_ErrNotOperator), ("dovetail/api.ErrMatrix", laid_dovetail_api_ErrMatrix), ("dovetail/api.ErrTooBig", laid_dovetail_api_ErrTooBig), ("dovetail/api.ErrRefused", laid_dovetail_api_ErrRefused), ("dovetail/api.ErrCut", laid_dovetail_api_ErrCut), ("dovetail/api.ErrPlan", laid_dovetail_api_ErrPlan), ("dovetail/api.ErrName", laid_dovetail_api_ErrName), ("dovetail/api.ErrTree", laid_dovetail_api_ErrTree), ("dovetail/api.ErrLong", laid_dovetail_api_ErrLong), ("dovetail/api.ErrForm", laid_dovetail_api_ErrForm), ("dovetail/api.ErrSum", laid_dovetail_api_ErrSum), ("dovetail/api.ErrNone", laid_dovetail_api_ErrNone)], narrowed := true }
def LineWritesUptoSaid : Prop := lineWritesUptoRow.holds Tryd.pinned (OpenSpec.upto lineWritesSpec)

/-- 'dovetaillaw05.ShowParts', WHERE WHAT IT READS IS OF BULK AT MOST 1048576: true; the input reads as it did. -/
def showPartsUptoRow : OpenClaim := { program := "ythjhaogfpdkhbaadoor", sum := "724edf86a9ff216d5538997e9b9e0edbcf36f83bc2379f5b5f0c72f796e0b04a", func := "dovetail/dovetaillaw05.ShowParts", spec := "showParts", inPlace := ["internal/abi.NoEscape", "internal/reflectlite.TypeOf"], unfollowed := true, recurses := true, named := ["dovetail/api.ErrArg", "dovetail/api.ErrBounds", "dovetail/api.ErrName", "dovetail/api.ErrSyntax", "dovetail/api.ErrNotOperator", "dovetail/api.ErrMatrix", "dovetail/api.ErrTooBig", "dovetail/api.ErrRefused", "dovetail/api.ErrCut", "dovetail/api.ErrPlan", "dovetail/api.ErrTree", "dovetail/api.ErrLong", "dovetail/api.ErrForm", "dovetail/api.ErrSum", "dovetail/api.ErrNone"], apart := false, laid := [("dovetail/api.ErrArg", laid_dovetail_api_ErrArg), ("dovetail/api.ErrSyntax", laid_dovetail_api_ErrSyntax), ("dovetail/api.ErrBounds", laid_dovetail_api_ErrBounds), ("dovetail/api.ErrNotOperator", laid_dovetail_api_ErrNotOperator), ("dovetail/api.ErrMatrix", laid_dovetail_api_ErrMatrix), ("dovetail/api.ErrTooBig", laid_dovetail_api_ErrTooBig), ("dovetail/api.ErrRefused", laid_dovetail_api_ErrRefused), ("dovetail/api.ErrCut", laid_dovetail_api_ErrCut), ("dovetail/api.ErrPlan", laid_dovetail_api_ErrPlan), ("dovetail/api.ErrName", laid_dovetail_api_ErrName), ("dovetail/api.ErrTree", laid_dovetail_api_ErrTree), ("dovetail/api.ErrLong", laid_dovetail_api_ErrLong), ("dovetail/api.ErrForm", laid_dovetail_api_ErrForm), ("dovetail/api.ErrSum", laid_dovetail_api_ErrSum), ("dovetail/api.ErrNone", laid_dovetail_api_ErrNone)], narrowed := true }
def ShowPartsUptoSaid : Prop := showPartsUptoRow.holds Tryd.pinned (OpenSpec.upto showPartsSpec)

/-- 'dovetaillaw05.ShowTexts', WHERE WHAT IT READS IS OF BULK AT MOST 1048576: true; the input reads as it did. -/
def showTextsUptoRow : OpenClaim := { program := "ythjhaogfpdkhbaadoor", sum := "724edf86a9ff216d5538997e9b9e0edbcf36f83bc2379f5b5f0c72f796e0b04a", func := "dovetail/dovetaillaw05.ShowTexts", spec := "showTexts", inPlace := ["internal/abi.NoEscape", "internal/reflectlite.TypeOf"], unfollowed := true, recurses := true, named := ["dovetail/api.ErrLong", "dovetail/api.ErrName", "dovetail/api.ErrForm", "dovetail/api.ErrBounds", "dovetail/api.ErrArg", "dovetail/api.ErrSyntax", "dovetail/api.ErrNotOperator", "dovetail/api.ErrMatrix", "dovetail/api.ErrTooBig", "dovetail/api.ErrRefused", "dovetail/api.ErrCut", "dovetail/api.ErrPlan", "dovetail/api.ErrTree", "dovetail/api.ErrSum", "dovetail/api.ErrNone"], apart := false, laid := [("dovetail/api.ErrArg", laid_dovetail_api_ErrArg), ("dovetail/api.ErrSyntax", laid_dovetail_api_ErrSyntax), ("dovetail/api.ErrBounds", laid_dovetail_api_ErrBounds), ("dovetail/api.ErrNotOperator", laid_dovetail_api_ErrNotOperator), ("dovetail/api.ErrMatrix", laid_dovetail_api_ErrMatrix), ("dovetail/api.ErrTooBig", laid_dovetail_api_ErrTooBig), ("dovetail/api.ErrRefused", laid_dovetail_api_ErrRefused), ("dovetail/api.ErrCut", laid_dovetail_api_ErrCut), ("dovetail/api.ErrPlan", laid_dovetail_api_ErrPlan), ("dovetail/api.ErrName", laid_dovetail_api_ErrName), ("dovetail/api.ErrTree", laid_dovetail_api_ErrTree), ("dovetail/api.ErrLong", laid_dovetail_api_ErrLong), ("dovetail/api.ErrForm", laid_dovetail_api_ErrForm), ("dovetail/api.ErrSum", laid_dovetail_api_ErrSum), ("dovetail/api.ErrNone", laid_dovetail_api_ErrNone)], narrowed := true }
def ShowTextsUptoSaid : Prop := showTextsUptoRow.holds Tryd.pinned (OpenSpec.upto showTextsSpec)

/-- 'dovetaillaw05.ShowOne', WHERE WHAT IT READS IS OF BULK AT MOST 1048576: true; the input reads as it did. -/
def showOneUptoRow : OpenClaim := { program := "ythjhaogfpdkhbaadoor", sum := "724edf86a9ff216d5538997e9b9e0edbcf36f83bc2379f5b5f0c72f796e0b04a", func := "dovetail/dovetaillaw05.ShowOne", spec := "showOne", inPlace := ["internal/abi.NoEscape", "internal/reflectlite.TypeOf"], unfollowed := true, recurses := true, named := ["dovetail/api.ErrLong", "dovetail/api.ErrName", "dovetail/api.ErrForm", "dovetail/api.ErrBounds", "dovetail/api.ErrArg", "dovetail/api.ErrSyntax", "dovetail/api.ErrNotOperator", "dovetail/api.ErrMatrix", "dovetail/api.ErrTooBig", "dovetail/api.ErrRefused", "dovetail/api.ErrCut", "dovetail/api.ErrPlan", "dovetail/api.ErrTree", "dovetail/api.ErrSum", "dovetail/api.ErrNone"], apart := false, laid := [("dovetail/api.ErrArg", laid_dovetail_api_ErrArg), ("dovetail/api.ErrSyntax", laid_dovetail_api_ErrSyntax), ("dovetail/api.ErrBounds", laid_dovetail_api_ErrBounds), ("dovetail/api.ErrNotOperator", laid_dovetail_api_ErrNotOperator), ("dovetail/api.ErrMatrix", laid_dovetail_api_ErrMatrix), ("dovetail/api.ErrTooBig", laid_dovetail_api_ErrTooBig), ("dovetail/api.ErrRefused", laid_dovetail_api_ErrRefused), ("dovetail/api.ErrCut", laid_dovetail_api_ErrCut), ("dovetail/api.ErrPlan", laid_dovetail_api_ErrPlan), ("dovetail/api.ErrName", laid_dovetail_api_ErrName), ("dovetail/api.ErrTree", laid_dovetail_api_ErrTree), ("dovetail/api.ErrLong", laid_dovetail_api_ErrLong), ("dovetail/api.ErrForm", laid_dovetail_api_ErrForm), ("dovetail/api.ErrSum", laid_dovetail_api_ErrSum), ("dovetail/api.ErrNone", laid_dovetail_api_ErrNone)], narrowed := true }
def ShowOneUptoSaid : Prop := showOneUptoRow.holds Tryd.pinned (OpenSpec.upto showOneSpec)

/-- 'dovetaillaw05.ShowRules', WHERE WHAT IT READS IS OF BULK AT MOST 1048576: true; the input reads as it did. -/
def showRulesUptoRow : OpenClaim := { program := "ythjhaogfpdkhbaadoor", sum := "724edf86a9ff216d5538997e9b9e0edbcf36f83bc2379f5b5f0c72f796e0b04a", func := "dovetail/dovetaillaw05.ShowRules", spec := "showRules", inPlace := ["internal/abi.NoEscape", "internal/reflectlite.TypeOf"], unfollowed := true, recurses := true, named := ["dovetail/api.ErrLong", "dovetail/api.ErrName", "dovetail/api.ErrForm", "dovetail/api.ErrBounds", "dovetail/api.ErrArg", "dovetail/api.ErrSyntax", "dovetail/api.ErrNotOperator", "dovetail/api.ErrMatrix", "dovetail/api.ErrTooBig", "dovetail/api.ErrRefused", "dovetail/api.ErrCut", "dovetail/api.ErrPlan", "dovetail/api.ErrTree", "dovetail/api.ErrSum", "dovetail/api.ErrNone"], apart := false, laid := [("dovetail/api.ErrArg", laid_dovetail_api_ErrArg), ("dovetail/api.ErrSyntax", laid_dovetail_api_ErrSyntax), ("dovetail/api.ErrBounds", laid_dovetail_api_ErrBounds), ("dovetail/api.ErrNotOperator", laid_dovetail_api_ErrNotOperator), ("dovetail/api.ErrMatrix", laid_dovetail_api_ErrMatrix), ("dovetail/api.ErrTooBig", laid_dovetail_api_ErrTooBig), ("dovetail/api.ErrRefused", laid_dovetail_api_ErrRefused), ("dovetail/api.ErrCut", laid_dovetail_api_ErrCut), ("dovetail/api.ErrPlan", laid_dovetail_api_ErrPlan), ("dovetail/api.ErrName", laid_dovetail_api_ErrName), ("dovetail/api.ErrTree", laid_dovetail_api_ErrTree), ("dovetail/api.ErrLong", laid_dovetail_api_ErrLong), ("dovetail/api.ErrForm", laid_dovetail_api_ErrForm), ("dovetail/api.ErrSum", laid_dovetail_api_ErrSum), ("dovetail/api.ErrNone", laid_dovetail_api_ErrNone)], narrowed := true }
def ShowRulesUptoSaid : Prop := showRulesUptoRow.holds Tryd.pinned (OpenSpec.upto showRulesSpec)

/-- 'dovetaillaw03.GramBuilds', WHERE WHAT IT READS IS OF BULK AT MOST 1048576: true; the input reads as it did. -/
def gramBuildsUptoRow : OpenClaim := { program := "ythjhaogfpdkhbaadoor", sum := "724edf86a9ff216d5538997e9b9e0edbcf36f83bc2379f5b5f0c72f796e0b04a", func := "dovetail/dovetaillaw03.GramBuilds", spec := "gramBuilds", inPlace := ["internal/reflectlite.TypeOf", "internal/reflectlite.ValueOf", "(internal/reflectlite.Value).Type", "(internal/reflectlite.Value).IsNil", "(internal/reflectlite.Value).Elem", "(internal/reflectlite.Value).Set"], unfollowed := true, recurses := true, named := ["dovetail/api.ErrArg", "dovetail/api.ErrBounds", "dovetail/api.ErrName", "dovetail/api.ErrSyntax", "dovetail/api.ErrNotOperator", "dovetail/api.ErrMatrix", "dovetail/api.ErrTooBig", "dovetail/api.ErrRefused", "dovetail/api.ErrCut", "dovetail/api.ErrPlan", "dovetail/api.ErrTree", "dovetail/api.ErrLong", "dovetail/api.ErrForm", "dovetail/api.ErrSum", "dovetail/api.ErrNone", "errors.errorType"], apart := false, laid := [("errors.errorType", laid_errors_errorType), ("dovetail/api.ErrArg", laid_dovetail_api_ErrArg), ("dovetail/api.ErrSyntax", laid_dovetail_api_ErrSyntax), ("dovetail/api.ErrBounds", laid_dovetail_api_ErrBounds), ("dovetail/api.ErrNotOperator", laid_dovetail_api_ErrNotOperator), ("dovetail/api.ErrMatrix", laid_dovetail_api_ErrMatrix), ("dovetail/api.ErrTooBig", laid_dovetail_api_ErrTooBig), ("dovetail/api.ErrRefused", laid_dovetail_api_ErrRefused), ("dovetail/api.ErrCut", laid_dovetail_api_ErrCut), ("dovetail/api.ErrPlan", laid_dovetail_api_ErrPlan), ("dovetail/api.ErrName", laid_dovetail_api_ErrName), ("dovetail/api.ErrTree", laid_dovetail_api_ErrTree), ("dovetail/api.ErrLong", laid_dovetail_api_ErrLong), ("dovetail/api.ErrForm", laid_dovetail_api_ErrForm), ("dovetail/api.ErrSum", laid_dovetail_api_ErrSum), ("dovetail/api.ErrNone", laid_dovetail_api_ErrNone)], narrowed := true }
def GramBuildsUptoSaid : Prop := gramBuildsUptoRow.holds Tryd.pinned (OpenSpec.upto gramBuildsSpec)

/-- 'dovetaillaw03.GramKnown', WHERE WHAT IT READS IS OF BULK AT MOST 1048576: true; the input reads as it did. -/
def gramKnownUptoRow : OpenClaim := { program := "ythjhaogfpdkhbaadoor", sum := "724edf86a9ff216d5538997e9b9e0edbcf36f83bc2379f5b5f0c72f796e0b04a", func := "dovetail/dovetaillaw03.GramKnown", spec := "gramKnown", inPlace := ["internal/reflectlite.TypeOf", "internal/reflectlite.ValueOf", "(internal/reflectlite.Value).Type", "(internal/reflectlite.Value).IsNil", "(internal/reflectlite.Value).Elem", "(internal/reflectlite.Value).Set"], unfollowed := true, recurses := true, named := ["dovetail/api.ErrBounds", "dovetail/api.ErrName", "dovetail/api.ErrArg", "dovetail/api.ErrSyntax", "dovetail/api.ErrNotOperator", "dovetail/api.ErrMatrix", "dovetail/api.ErrTooBig", "dovetail/api.ErrRefused", "dovetail/api.ErrCut", "dovetail/api.ErrPlan", "dovetail/api.ErrTree", "dovetail/api.ErrLong", "dovetail/api.ErrForm", "dovetail/api.ErrSum", "dovetail/api.ErrNone", "errors.errorType"], apart := false, laid := [("errors.errorType", laid_errors_errorType), ("dovetail/api.ErrArg", laid_dovetail_api_ErrArg), ("dovetail/api.ErrSyntax", laid_dovetail_api_ErrSyntax), ("dovetail/api.ErrBounds", laid_dovetail_api_ErrBounds), ("dovetail/api.ErrNotOperator", laid_dovetail_api_ErrNotOperator), ("dovetail/api.ErrMatrix", laid_dovetail_api_ErrMatrix), ("dovetail/api.ErrTooBig", laid_dovetail_api_ErrTooBig), ("dovetail/api.ErrRefused", laid_dovetail_api_ErrRefused), ("dovetail/api.ErrCut", laid_dovetail_api_ErrCut), ("dovetail/api.ErrPlan", laid_dovetail_api_ErrPlan), ("dovetail/api.ErrName", laid_dovetail_api_ErrName), ("dovetail/api.ErrTree", laid_dovetail_api_ErrTree), ("dovetail/api.ErrLong", laid_dovetail_api_ErrLong), ("dovetail/api.ErrForm", laid_dovetail_api_ErrForm), ("dovetail/api.ErrSum", laid_dovetail_api_ErrSum), ("dovetail/api.ErrNone", laid_dovetail_api_ErrNone)], narrowed := true }
def GramKnownUptoSaid : Prop := gramKnownUptoRow.holds Tryd.pinned (OpenSpec.upto gramKnownSpec)

end Rows
end Go.Proofs.YthjhaogfpdkhbaaDoor
