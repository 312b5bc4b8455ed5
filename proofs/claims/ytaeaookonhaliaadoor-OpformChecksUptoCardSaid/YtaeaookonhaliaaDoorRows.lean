/-
  NARROWER THAN 'FOR EVERY INPUT', by the rows' own cells (each row's printed sentence says how): OpformSkeletons: laid · OpformChecks: laid · OpformSides: laid · OpformKnown: laid · OpformForm: laid.
  DERIVED. THE GIVEN ROWS OF THIS SEAT. 5 by the template 'for every input the law returns true; each argument reads behind the call as it read before'; 0 by the template 'total and deterministic' (their statements: YtaeaookonhaliaaDoorTotals.lean).
  GIVEN WITH THE SEED: the statements are not yours to turn. If you find one false, say at which input.
  Laid BY PROGRAM, IN A SANDBOX (cutbox-rows.mjs): the forced cells as the released guide's own fill.sh prints them over the translation d4dd7929b3435aca… (all of the seat's roots in one cut). By AI agents, Wed Nov 11 2026. No macro, syntax, notation, axiom, sorry.
-/
import Derived.Test.YtaeaookonhaliaaDoorChecked
import GoSem.Claim
import GoSem.ClaimJoined
import GoSem.ClaimMapViews
import Derived.JoinedTies
import Derived.KernelRfl
namespace Go.Proofs.YtaeaookonhaliaaDoor
/- THE CELL 'sum', in the pinned program and in every row, IS THE sha256 OF THE DUMP (.gsa) THAT YtaeaookonhaliaaDoorProg.lean LOADS. Nothing in Lean hashes anything: it is a label: what it is worth is what the hold of that sum in a sandbox is worth. -/
noncomputable def Tryd.pinned : Pinned := { name := "ytaeaookonhaliaadoor", sum := "d4dd7929b3435aca3f92c0a5e7e8a47fc54608664b604f032666e6ec05335780", checked := Tryd.checked }
namespace Rows
def none {H : Type} : Left H := { results := [], args := [] }

/- WHAT THE LISTED PACKAGE-LEVEL VARIABLES READ AS WHEN THE CALL BEGINS. Each datum BY PROGRAM (the guide's laid-datum.mjs) off the statement by which the dump's own 'gosem.cut.vars' lays the variable. In a bare row this is a premise. The card (YtaeaookonhaliaaDoorCards.lean) ties it to the program's text. -/
def laid_errors_errorType {H : Type} : DataW H := .iface "internal/reflectlite.rtype" (.agg [.ptr (.lit (.string [101, 114, 114, 111, 114]))])
def laid_dovetail_api_ErrArg {H : Type} : DataW H := .iface "*errors.errorString" (.ptr (.agg [.lit (.string [100, 111, 118, 101, 116, 97, 105, 108, 58, 32, 97, 114, 103, 117, 109, 101, 110, 116])]))
def laid_dovetail_api_ErrSyntax {H : Type} : DataW H := .iface "*errors.errorString" (.ptr (.agg [.lit (.string [100, 111, 118, 101, 116, 97, 105, 108, 58, 32, 115, 121, 110, 116, 97, 120])]))
def laid_dovetail_api_ErrBounds {H : Type} : DataW H := .iface "*errors.errorString" (.ptr (.agg [.lit (.string [100, 111, 118, 101, 116, 97, 105, 108, 58, 32, 98, 111, 117, 110, 100, 115])]))
def laid_dovetail_api_ErrNotOperator {H : Type} : DataW H := .iface "*errors.errorString" (.ptr (.agg [.lit (.string [100, 111, 118, 101, 116, 97, 105, 108, 58, 32, 110, 111, 116, 32, 97, 110, 32, 111, 112, 101, 114, 97, 116, 111, 114, 32, 103, 114, 97, 109, 109, 97, 114])]))
def laid_dovetail_api_ErrMatrix {H : Type} : DataW H := .iface "*errors.errorString" (.ptr (.agg [.lit (.string [100, 111, 118, 101, 116, 97, 105, 108, 58, 32, 116, 119, 111, 32, 114, 101, 108, 97, 116, 105, 111, 110, 115])]))
def laid_dovetail_api_ErrTooBig {H : Type} : DataW H := .iface "*errors.errorString" (.ptr (.agg [.lit (.string [100, 111, 118, 101, 116, 97, 105, 108, 58, 32, 116, 111, 111, 32, 98, 105, 103])]))
def laid_dovetail_api_ErrRefused {H : Type} : DataW H := .iface "*errors.errorString" (.ptr (.agg [.lit (.string [100, 111, 118, 101, 116, 97, 105, 108, 58, 32, 114, 101, 102, 117, 115, 101, 100])]))
def laid_dovetail_api_ErrCut {H : Type} : DataW H := .iface "*errors.errorString" (.ptr (.agg [.lit (.string [100, 111, 118, 101, 116, 97, 105, 108, 58, 32, 99, 117, 116])]))
def laid_dovetail_api_ErrPlan {H : Type} : DataW H := .iface "*errors.errorString" (.ptr (.agg [.lit (.string [100, 111, 118, 101, 116, 97, 105, 108, 58, 32, 112, 108, 97, 110])]))
def laid_dovetail_api_ErrName {H : Type} : DataW H := .iface "*errors.errorString" (.ptr (.agg [.lit (.string [100, 111, 118, 101, 116, 97, 105, 108, 58, 32, 110, 97, 109, 101])]))
def laid_dovetail_api_ErrTree {H : Type} : DataW H := .iface "*errors.errorString" (.ptr (.agg [.lit (.string [100, 111, 118, 101, 116, 97, 105, 108, 58, 32, 116, 114, 101, 101])]))
def laid_dovetail_api_ErrLong {H : Type} : DataW H := .iface "*errors.errorString" (.ptr (.agg [.lit (.string [100, 111, 118, 101, 116, 97, 105, 108, 58, 32, 108, 111, 110, 103])]))
def laid_dovetail_api_ErrForm {H : Type} : DataW H := .iface "*errors.errorString" (.ptr (.agg [.lit (.string [100, 111, 118, 101, 116, 97, 105, 108, 58, 32, 102, 111, 114, 109])]))
def laid_dovetail_api_ErrSum {H : Type} : DataW H := .iface "*errors.errorString" (.ptr (.agg [.lit (.string [100, 111, 118, 101, 116, 97, 105, 108, 58, 32, 115, 117, 109])]))
def laid_dovetail_api_ErrNone {H : Type} : DataW H := .iface "*errors.errorString" (.ptr (.agg [.lit (.string [100, 111, 118, 101, 116, 97, 105, 108, 58, 32, 110, 111, 110, 101])]))

/-- 'dovetaillaw06.OpformSkeletons': WHATEVER THE INPUT: true; the input reads as it did. -/
def opformSkeletonsSpec : ChangeSpec := { name := "opformSkeletons", fn := fun _ => fun
  | [d1, d2] => { results := [.lit (.bool true)], args := [d1, d2] }
  | _ => none }
def opformSkeletonsRow : OpenClaim := { program := "ytaeaookonhaliaadoor", sum := "d4dd7929b3435aca3f92c0a5e7e8a47fc54608664b604f032666e6ec05335780", func := "dovetail/dovetaillaw06.OpformSkeletons", spec := "opformSkeletons", inPlace := ["internal/reflectlite.TypeOf", "internal/reflectlite.ValueOf", "(internal/reflectlite.Value).Type", "(internal/reflectlite.Value).IsNil", "(internal/reflectlite.Value).Elem", "(internal/reflectlite.Value).Set"], unfollowed := true, recurses := true, named := ["dovetail/api.ErrNotOperator", "dovetail/api.ErrBounds", "dovetail/api.ErrName", "dovetail/api.ErrArg", "dovetail/api.ErrSyntax", "dovetail/api.ErrMatrix", "dovetail/api.ErrTooBig", "dovetail/api.ErrRefused", "dovetail/api.ErrCut", "dovetail/api.ErrPlan", "dovetail/api.ErrTree", "dovetail/api.ErrLong", "dovetail/api.ErrForm", "dovetail/api.ErrSum", "dovetail/api.ErrNone", "errors.errorType"], apart := false, laid := [("errors.errorType", laid_errors_errorType), ("dovetail/api.ErrArg", laid_dovetail_api_ErrArg), ("dovetail/api.ErrSyntax", laid_dovetail_api_ErrSyntax), ("dovetail/api.ErrBounds", laid_dovetail_api_ErrBounds), ("dovetail/api.ErrNotOperator", laid_dovetail_api_ErrNotOperator), ("dovetail/api.ErrMatrix", laid_dovetail_api_ErrMatrix), ("dovetail/api.ErrTooBig", laid_dovetail_api_ErrTooBig), ("dovetail/api.ErrRefused", laid_dovetail_api_ErrRefused), ("dovetail/api.ErrCut", laid_dovetail_api_ErrCut), ("dovetail/api.ErrPlan", laid_dovetail_api_ErrPlan), ("dovetail/api.ErrName", laid_dovetail_api_ErrName), ("dovetail/api.ErrTree", laid_dovetail_api_ErrTree), ("dovetail/api.ErrLong", laid_dovetail_api_ErrLong), ("dovetail/api.ErrForm", laid_dovetail_api_ErrForm), ("dovetail/api.ErrSum", laid_dovetail_api_ErrSum), ("dovetail/api.ErrNone", laid_dovetail_api_ErrNone)] }
def OpformSkeletonsSaid : Prop := opformSkeletonsRow.holds Tryd.pinned (OpenSpec.ofChange opformSkeletonsSpec)

/-- ITS FALSE NEIGHBOUR: 'it returns false'. Refute it at one input. -/
def opformSkeletonsWrong : ChangeSpec := { name := "opformSkeletons", fn := fun _ => fun
  | [d1, d2] => { results := [.lit (.bool false)], args := [d1, d2] }
  | _ => none }
def OpformSkeletonsWrongFalsely : Prop := opformSkeletonsRow.holds Tryd.pinned (OpenSpec.ofChange opformSkeletonsWrong)

/-- 'dovetaillaw06.OpformChecks': WHATEVER THE INPUT: true; the input reads as it did. -/
def opformChecksSpec : ChangeSpec := { name := "opformChecks", fn := fun _ => fun
  | [d] => { results := [.lit (.bool true)], args := [d] }
  | _ => none }
def opformChecksRow : OpenClaim := { program := "ytaeaookonhaliaadoor", sum := "d4dd7929b3435aca3f92c0a5e7e8a47fc54608664b604f032666e6ec05335780", func := "dovetail/dovetaillaw06.OpformChecks", spec := "opformChecks", inPlace := ["internal/reflectlite.TypeOf", "internal/reflectlite.ValueOf", "(internal/reflectlite.Value).Type", "(internal/reflectlite.Value).IsNil", "(internal/reflectlite.Value).Elem", "(internal/reflectlite.Value).Set"], unfollowed := true, recurses := true, named := ["dovetail/api.ErrNotOperator", "dovetail/api.ErrBounds", "dovetail/api.ErrName", "dovetail/api.ErrArg", "dovetail/api.ErrSyntax", "dovetail/api.ErrMatrix", "dovetail/api.ErrTooBig", "dovetail/api.ErrRefused", "dovetail/api.ErrCut", "dovetail/api.ErrPlan", "dovetail/api.ErrTree", "dovetail/api.ErrLong", "dovetail/api.ErrForm", "dovetail/api.ErrSum", "dovetail/api.ErrNone", "errors.errorType"], apart := false, laid := [("errors.errorType", laid_errors_errorType), ("dovetail/api.ErrArg", laid_dovetail_api_ErrArg), ("dovetail/api.ErrSyntax", laid_dovetail_api_ErrSyntax), ("dovetail/api.ErrBounds", laid_dovetail_api_ErrBounds), ("dovetail/api.ErrNotOperator", laid_dovetail_api_ErrNotOperator), ("dovetail/api.ErrMatrix", laid_dovetail_api_ErrMatrix), ("dovetail/api.ErrTooBig", laid_dovetail_api_ErrTooBig), ("dovetail/api.ErrRefused", laid_dovetail_api_ErrRefused), ("dovetail/api.ErrCut", laid_dovetail_api_ErrCut), ("dovetail/api.ErrPlan", laid_dovetail_api_ErrPlan), ("dovetail/api.ErrName", laid_dovetail_api_ErrName), ("dovetail/api.ErrTree", laid_dovetail_api_ErrTree), ("dovetail/api.ErrLong", laid_dovetail_api_ErrLong), ("dovetail/api.ErrForm", laid_dovetail_api_ErrForm), ("dovetail/api.ErrSum", laid_dovetail_api_ErrSum), ("dovetail/api.ErrNone", laid_dovetail_api_ErrNone)] }
def OpformChecksSaid : Prop := opformChecksRow.holds Tryd.pinned (OpenSpec.ofChange opformChecksSpec)

/-- ITS FALSE NEIGHBOUR: 'it returns false'. Refute it at one input. -/
def opformChecksWrong : ChangeSpec := { name := "opformChecks", fn := fun _ => fun
  | [d] => { results := [.lit (.bool false)], args := [d] }
  | _ => none }
def OpformChecksWrongFalsely : Prop := opformChecksRow.holds Tryd.pinned (OpenSpec.ofChange opformChecksWrong)

/-- 'dovetaillaw06.OpformSides': WHATEVER THE INPUT: true; the input reads as it did. -/
def opformSidesSpec : ChangeSpec := { name := "opformSides", fn := fun _ => fun
  | [d1, d2] => { results := [.lit (.bool true)], args := [d1, d2] }
  | _ => none }
def opformSidesRow : OpenClaim := { program := "ytaeaookonhaliaadoor", sum := "d4dd7929b3435aca3f92c0a5e7e8a47fc54608664b604f032666e6ec05335780", func := "dovetail/dovetaillaw06.OpformSides", spec := "opformSides", inPlace := ["internal/reflectlite.TypeOf", "internal/reflectlite.ValueOf", "(internal/reflectlite.Value).Type", "(internal/reflectlite.Value).IsNil", "(internal/reflectlite.Value).Elem", "(internal/reflectlite.Value).Set"], unfollowed := true, recurses := true, named := ["dovetail/api.ErrNotOperator", "dovetail/api.ErrBounds", "dovetail/api.ErrName", "dovetail/api.ErrArg", "dovetail/api.ErrSyntax", "dovetail/api.ErrMatrix", "dovetail/api.ErrTooBig", "dovetail/api.ErrRefused", "dovetail/api.ErrCut", "dovetail/api.ErrPlan", "dovetail/api.ErrTree", "dovetail/api.ErrLong", "dovetail/api.ErrForm", "dovetail/api.ErrSum", "dovetail/api.ErrNone", "errors.errorType"], apart := false, laid := [("errors.errorType", laid_errors_errorType), ("dovetail/api.ErrArg", laid_dovetail_api_ErrArg), ("dovetail/api.ErrSyntax", laid_dovetail_api_ErrSyntax), ("dovetail/api.ErrBounds", laid_dovetail_api_ErrBounds), ("dovetail/api.ErrNotOperator", laid_dovetail_api_ErrNotOperator), ("dovetail/api.ErrMatrix", laid_dovetail_api_ErrMatrix), ("dovetail/api.ErrTooBig", laid_dovetail_api_ErrTooBig), ("dovetail/api.ErrRefused", laid_dovetail_api_ErrRefused), ("dovetail/api.ErrCut", laid_dovetail_api_ErrCut), ("dovetail/api.ErrPlan", laid_dovetail_api_ErrPlan), ("dovetail/api.ErrName", laid_dovetail_api_ErrName), ("dovetail/api.ErrTree", laid_dovetail_api_ErrTree), ("dovetail/api.ErrLong", laid_dovetail_api_ErrLong), ("dovetail/api.ErrForm", laid_dovetail_api_ErrForm), ("dovetail/api.ErrSum", laid_dovetail_api_ErrSum), ("dovetail/api.ErrNone", laid_dovetail_api_ErrNone)] }
def OpformSidesSaid : Prop := opformSidesRow.holds Tryd.pinned (OpenSpec.ofChange opformSidesSpec)

/-- ITS FALSE NEIGHBOUR: 'it returns false'. Refute it at one input. -/
def opformSidesWrong : ChangeSpec := { name := "opformSides", fn := fun _ => fun
  | [d1, d2] => { results := [.lit (.bool false)], args := [d1, d2] }
  | _ => none }
def OpformSidesWrongFalsely : Prop := opformSidesRow.holds Tryd.pinned (OpenSpec.ofChange opformSidesWrong)

/-- 'dovetaillaw06.OpformKnown': WHATEVER THE INPUT: true; the input reads as it did. -/
def opformKnownSpec : ChangeSpec := { name := "opformKnown", fn := fun _ => fun
  | [] => { results := [.lit (.bool true)], args := [] }
  | _ => none }
def opformKnownRow : OpenClaim := { program := "ytaeaookonhaliaadoor", sum := "d4dd7929b3435aca3f92c0a5e7e8a47fc54608664b604f032666e6ec05335780", func := "dovetail/dovetaillaw06.OpformKnown", spec := "opformKnown", inPlace := ["internal/reflectlite.TypeOf", "internal/reflectlite.ValueOf", "(internal/reflectlite.Value).Type", "(internal/reflectlite.Value).IsNil", "(internal/reflectlite.Value).Elem", "(internal/reflectlite.Value).Set"], unfollowed := true, recurses := true, named := ["dovetail/api.ErrNotOperator", "dovetail/api.ErrBounds", "dovetail/api.ErrName", "dovetail/api.ErrArg", "dovetail/api.ErrSyntax", "dovetail/api.ErrMatrix", "dovetail/api.ErrTooBig", "dovetail/api.ErrRefused", "dovetail/api.ErrCut", "dovetail/api.ErrPlan", "dovetail/api.ErrTree", "dovetail/api.ErrLong", "dovetail/api.ErrForm", "dovetail/api.ErrSum", "dovetail/api.ErrNone", "errors.errorType"], apart := false, laid := [("errors.errorType", laid_errors_errorType), ("dovetail/api.ErrArg", laid_dovetail_api_ErrArg), ("dovetail/api.ErrSyntax", laid_dovetail_api_ErrSyntax), ("dovetail/api.ErrBounds", laid_dovetail_api_ErrBounds), ("dovetail/api.ErrNotOperator", laid_dovetail_api_ErrNotOperator), ("dovetail/api.ErrMatrix", laid_dovetail_api_ErrMatrix), ("dovetail/api.ErrTooBig", laid_dovetail_api_ErrTooBig), ("dovetail/api.ErrRefused", laid_dovetail_api_ErrRefused), ("dovetail/api.ErrCut", laid_dovetail_api_ErrCut), ("dovetail/api.ErrPlan", laid_dovetail_api_ErrPlan), ("dovetail/api.ErrName", laid_dovetail_api_ErrName), ("dovetail/api.ErrTree", laid_dovetail_api_ErrTree), ("dovetail/api.ErrLong", laid_dovetail_api_ErrLong), ("dovetail/api.ErrForm", laid_dovetail_api_ErrForm), ("dovetail/api.ErrSum", laid_dovetail_api_ErrSum), ("dovetail/api.ErrNone", laid_dovetail_api_ErrNone)] }
def OpformKnownSaid : Prop := opformKnownRow.holds Tryd.pinned (OpenSpec.ofChange opformKnownSpec)

/-- ITS FALSE NEIGHBOUR: 'it returns false'. Refute it at one input. -/
def opformKnownWrong : ChangeSpec := { name := "opformKnown", fn := fun _ => fun
  | [] => { results := [.lit (.bool false)], args := [] }
  | _ => none }
def OpformKnownWrongFalsely : Prop := opformKnownRow.holds Tryd.pinned (OpenSpec.ofChange opformKnownWrong)

/-- 'dovetaillaw06.OpformForm': WHATEVER THE INPUT: true; the input reads as it did. -/
def opformFormSpec : ChangeSpec := { name := "opformForm", fn := fun _ => fun
  | [d] => { results := [.lit (.bool true)], args := [d] }
  | _ => none }
def opformFormRow : OpenClaim := { program := "ytaeaookonhaliaadoor", sum := "d4dd7929b3435aca3f92c0a5e7e8a47fc54608664b604f032666e6ec05335780", func := "dovetail/dovetaillaw06.OpformForm", spec := "opformForm", inPlace := ["internal/reflectlite.TypeOf", "internal/reflectlite.ValueOf", "(internal/reflectlite.Value).Type", "(internal/reflectlite.Value).IsNil", "(internal/reflectlite.Value).Elem", "(internal/reflectlite.Value).Set"], unfollowed := true, recurses := true, named := ["dovetail/api.ErrNotOperator", "dovetail/api.ErrBounds", "dovetail/api.ErrName", "dovetail/api.ErrArg", "dovetail/api.ErrSyntax", "dovetail/api.ErrMatrix", "dovetail/api.ErrTooBig", "dovetail/api.ErrRefused", "dovetail/api.ErrCut", "dovetail/api.ErrPlan", "dovetail/api.ErrTree", "dovetail/api.ErrLong", "dovetail/api.ErrForm", "dovetail/api.ErrSum", "dovetail/api.ErrNone", "errors.errorType"], apart := false, laid := [("errors.errorType", laid_errors_errorType), ("dovetail/api.ErrArg", laid_dovetail_api_ErrArg), ("dovetail/api.ErrSyntax", laid_dovetail_api_ErrSyntax), ("dovetail/api.ErrBounds", laid_dovetail_api_ErrBounds), ("dovetail/api.ErrNotOperator", laid_dovetail_api_ErrNotOperator), ("dovetail/api.ErrMatrix", laid_dovetail_api_ErrMatrix), ("dovetail/api.ErrTooBig", laid_dovetail_api_ErrTooBig), ("dovetail/api.ErrRefused", laid_dovetail_api_ErrRefused), ("dovetail/api.ErrCut", laid_dovetail_api_ErrCut), ("dovetail/api.ErrPlan", laid_dovetail_api_ErrPlan), ("dovetail/api.ErrName", laid_dovetail_api_ErrName), ("dovetail/api.ErrTree", laid_dovetail_api_ErrTree), ("dovetail/api.ErrLong", laid_dovetail_api_ErrLong), ("dovetail/api.ErrForm", laid_dovetail_api_ErrForm), ("dovetail/api.ErrSum", laid_dovetail_api_ErrSum), ("dovetail/api.ErrNone", laid_dovetail_api_ErrNone)] }
def OpformFormSaid : Prop := opformFormRow.holds Tryd.pinned (OpenSpec.ofChange opformFormSpec)

/-- ITS FALSE NEIGHBOUR: 'it returns false'. Refute it at one input. -/
def opformFormWrong : ChangeSpec := { name := "opformForm", fn := fun _ => fun
  | [d] => { results := [.lit (.bool false)], args := [d] }
  | _ => none }
def OpformFormWrongFalsely : Prop := opformFormRow.holds Tryd.pinned (OpenSpec.ofChange opformFormWrong)

/- THE SECOND FORM. 'bulk': how many values and letters a reading holds, each counted each time it is reached (what is shared counts as often as it is met; a slice's spare places count too). A statement '..UptoSaid' is the law's where the arguments, and the package variables that the reading takes, are together of bulk at most 1048576: NARROWER than '..Said'. Prove '..Said' where nothing that the law and all that it calls make is longer than what came in: it says more and counts as full. Else prove '..UptoSaid'. A law counts once. -/
mutual
def uptoBulk {H : Type} : DataW H → Nat
  | .lit (.string bytes) => bytes.length + 1
  | .lit _ => 1
  | .nil => 1
  | .ptr d => uptoBulk d + 1
  | .slice elems spare => uptoBulkAll elems + uptoBulkAll spare + 1
  | .agg parts => uptoBulkAll parts + 1
  | .iface _ d => uptoBulk d + 1
  | .map entries => uptoBulkEntries entries + 1
  | .held _ => 1
def uptoBulkAll {H : Type} : List (DataW H) → Nat
  | [] => 0
  | d :: r => uptoBulk d + uptoBulkAll r
def uptoBulkEntries {H : Type} : List (Lit × DataW H) → Nat
  | [] => 0
  | x :: r => uptoBulkEntry x + uptoBulkEntries r
def uptoBulkEntry {H : Type} : Lit × DataW H → Nat
  | (.string bytes, d) => bytes.length + uptoBulk d + 1
  | (_, d) => uptoBulk d + 1
 end
def uptoSmall : (H : Type) → List (DataW H) → Bool := fun _ ds => decide (uptoBulkAll ds ≤ 1048576)
def OpenSpec.upto (s : _root_.Go.ChangeSpec) : _root_.Go.OpenSpec := { _root_.Go.OpenSpec.ofChange s with cond := some uptoSmall }

/-- 'dovetaillaw06.OpformSkeletons', WHERE WHAT IT READS IS OF BULK AT MOST 1048576: true; the input reads as it did. -/
def opformSkeletonsUptoRow : OpenClaim := { program := "ytaeaookonhaliaadoor", sum := "d4dd7929b3435aca3f92c0a5e7e8a47fc54608664b604f032666e6ec05335780", func := "dovetail/dovetaillaw06.OpformSkeletons", spec := "opformSkeletons", inPlace := ["internal/reflectlite.TypeOf", "internal/reflectlite.ValueOf", "(internal/reflectlite.Value).Type", "(internal/reflectlite.Value).IsNil", "(internal/reflectlite.Value).Elem", "(internal/reflectlite.Value).Set"], unfollowed := true, recurses := true, named := ["dovetail/api.ErrNotOperator", "dovetail/api.ErrBounds", "dovetail/api.ErrName", "dovetail/api.ErrArg", "dovetail/api.ErrSyntax", "dovetail/api.ErrMatrix", "dovetail/api.ErrTooBig", "dovetail/api.ErrRefused", "dovetail/api.ErrCut", "dovetail/api.ErrPlan", "dovetail/api.ErrTree", "dovetail/api.ErrLong", "dovetail/api.ErrForm", "dovetail/api.ErrSum", "dovetail/api.ErrNone", "errors.errorType"], apart := false, laid := [("errors.errorType", laid_errors_errorType), ("dovetail/api.ErrArg", laid_dovetail_api_ErrArg), ("dovetail/api.ErrSyntax", laid_dovetail_api_ErrSyntax), ("dovetail/api.ErrBounds", laid_dovetail_api_ErrBounds), ("dovetail/api.ErrNotOperator", laid_dovetail_api_ErrNotOperator), ("dovetail/api.ErrMatrix", laid_dovetail_api_ErrMatrix), ("dovetail/api.ErrTooBig", laid_dovetail_api_ErrTooBig), ("dovetail/api.ErrRefused", laid_dovetail_api_ErrRefused), ("dovetail/api.ErrCut", laid_dovetail_api_ErrCut), ("dovetail/api.ErrPlan", laid_dovetail_api_ErrPlan), ("dovetail/api.ErrName", laid_dovetail_api_ErrName), ("dovetail/api.ErrTree", laid_dovetail_api_ErrTree), ("dovetail/api.ErrLong", laid_dovetail_api_ErrLong), ("dovetail/api.ErrForm", laid_dovetail_api_ErrForm), ("dovetail/api.ErrSum", laid_dovetail_api_ErrSum), ("dovetail/api.ErrNone", laid_dovetail_api_ErrNone)], narrowed := true }
def OpformSkeletonsUptoSaid : Prop := opformSkeletonsUptoRow.holds Tryd.pinned (OpenSpec.upto opformSkeletonsSpec)

/-- 'dovetaillaw06.OpformChecks', WHERE WHAT IT READS IS OF BULK AT MOST 1048576: true; the input reads as it did. -/
def opformChecksUptoRow : OpenClaim := { program := "ytaeaookonhaliaadoor", sum := "d4dd7929b3435aca3f92c0a5e7e8a47fc54608664b604f032666e6ec05335780", func := "dovetail/dovetaillaw06.OpformChecks", spec := "opformChecks", inPlace := ["internal/reflectlite.TypeOf", "internal/reflectlite.ValueOf", "(internal/reflectlite.Value).Type", "(internal/reflectlite.Value).IsNil", "(internal/reflectlite.Value).Elem", "(internal/reflectlite.Value).Set"], unfollowed := true, recurses := true, named := ["dovetail/api.ErrNotOperator", "dovetail/api.ErrBounds", "dovetail/api.ErrName", "dovetail/api.ErrArg", "dovetail/api.ErrSyntax", "dovetail/api.ErrMatrix", "dovetail/api.ErrTooBig", "dovetail/api.ErrRefused", "dovetail/api.ErrCut", "dovetail/api.ErrPlan", "dovetail/api.ErrTree", "dovetail/api.ErrLong", "dovetail/api.ErrForm", "dovetail/api.ErrSum", "dovetail/api.ErrNone", "errors.errorType"], apart := false, laid := [("errors.errorType", laid_errors_errorType), ("dovetail/api.ErrArg", laid_dovetail_api_ErrArg), ("dovetail/api.ErrSyntax", laid_dovetail_api_ErrSyntax), ("dovetail/api.ErrBounds", laid_dovetail_api_ErrBounds), ("dovetail/api.ErrNotOperator", laid_dovetail_api_ErrNotOperator), ("dovetail/api.ErrMatrix", laid_dovetail_api_ErrMatrix), ("dovetail/api.ErrTooBig", laid_dovetail_api_ErrTooBig), ("dovetail/api.ErrRefused", laid_dovetail_api_ErrRefused), ("dovetail/api.ErrCut", laid_dovetail_api_ErrCut), ("dovetail/api.ErrPlan", laid_dovetail_api_ErrPlan), ("dovetail/api.ErrName", laid_dovetail_api_ErrName), ("dovetail/api.ErrTree", laid_dovetail_api_ErrTree), ("dovetail/api.ErrLong", laid_dovetail_api_ErrLong), ("dovetail/api.ErrForm", laid_dovetail_api_ErrForm), ("dovetail/api.ErrSum", laid_dovetail_api_ErrSum), ("dovetail/api.ErrNone", laid_dovetail_api_ErrNone)], narrowed := true }
def OpformChecksUptoSaid : Prop := opformChecksUptoRow.holds Tryd.pinned (OpenSpec.upto opformChecksSpec)

/-- 'dovetaillaw06.OpformSides', WHERE WHAT IT READS IS OF BULK AT MOST 1048576: true; the input reads as it did. -/
def opformSidesUptoRow : OpenClaim := { program := "ytaeaookonhaliaadoor", sum := "d4dd7929b3435aca3f92c0a5e7e8a47fc54608664b604f032666e6ec05335780", func := "dovetail/dovetaillaw06.OpformSides", spec := "opformSides", inPlace := ["internal/reflectlite.TypeOf", "internal/reflectlite.ValueOf", "(internal/reflectlite.Value).Type", "(internal/reflectlite.Value).IsNil", "(internal/reflectlite.Value).Elem", "(internal/reflectlite.Value).Set"], unfollowed := true, recurses := true, named := ["dovetail/api.ErrNotOperator", "dovetail/api.ErrBounds", "dovetail/api.ErrName", "dovetail/api.ErrArg", "dovetail/api.ErrSyntax", "dovetail/api.ErrMatrix", "dovetail/api.ErrTooBig", "dovetail/api.ErrRefused", "dovetail/api.ErrCut", "dovetail/api.ErrPlan", "dovetail/api.ErrTree", "dovetail/api.ErrLong", "dovetail/api.ErrForm", "dovetail/api.ErrSum", "dovetail/api.ErrNone", "errors.errorType"], apart := false, laid := [("errors.errorType", laid_errors_errorType), ("dovetail/api.ErrArg", laid_dovetail_api_ErrArg), ("dovetail/api.ErrSyntax", laid_dovetail_api_ErrSyntax), ("dovetail/api.ErrBounds", laid_dovetail_api_ErrBounds), ("dovetail/api.ErrNotOperator", laid_dovetail_api_ErrNotOperator), ("dovetail/api.ErrMatrix", laid_dovetail_api_ErrMatrix), ("dovetail/api.ErrTooBig", laid_dovetail_api_ErrTooBig), ("dovetail/api.ErrRefused", laid_dovetail_api_ErrRefused), ("dovetail/api.ErrCut", laid_dovetail_api_ErrCut), ("dovetail/api.ErrPlan", laid_dovetail_api_ErrPlan), ("dovetail/api.ErrName", laid_dovetail_api_ErrName), ("dovetail/api.ErrTree", laid_dovetail_api_ErrTree), ("dovetail/api.ErrLong", laid_dovetail_api_ErrLong), ("dovetail/api.ErrForm", laid_dovetail_api_ErrForm), ("dovetail/api.ErrSum", laid_dovetail_api_ErrSum), ("dovetail/api.ErrNone", laid_dovetail_api_ErrNone)], narrowed := true }
def OpformSidesUptoSaid : Prop := opformSidesUptoRow.holds Tryd.pinned (OpenSpec.upto opformSidesSpec)

/-- 'dovetaillaw06.OpformKnown', WHERE WHAT IT READS IS OF BULK AT MOST 1048576: true; the input reads as it did. -/
def opformKnownUptoRow : OpenClaim := { program := "ytaeaookonhaliaadoor", sum := "d4dd7929b3435aca3f92c0a5e7e8a47fc54608664b604f032666e6ec05335780", func := "dovetail/dovetaillaw06.OpformKnown", spec := "opformKnown", inPlace := ["internal/reflectlite.TypeOf", "internal/reflectlite.ValueOf", "(internal/reflectlite.Value).Type", "(internal/reflectlite.Value).IsNil", "(internal/reflectlite.Value).Elem", "(internal/reflectlite.Value).Set"], unfollowed := true, recurses := true, named := ["dovetail/api.ErrNotOperator", "dovetail/api.ErrBounds", "dovetail/api.ErrName", "dovetail/api.ErrArg", "dovetail/api.ErrSyntax", "dovetail/api.ErrMatrix", "dovetail/api.ErrTooBig", "dovetail/api.ErrRefused", "dovetail/api.ErrCut", "dovetail/api.ErrPlan", "dovetail/api.ErrTree", "dovetail/api.ErrLong", "dovetail/api.ErrForm", "dovetail/api.ErrSum", "dovetail/api.ErrNone", "errors.errorType"], apart := false, laid := [("errors.errorType", laid_errors_errorType), ("dovetail/api.ErrArg", laid_dovetail_api_ErrArg), ("dovetail/api.ErrSyntax", laid_dovetail_api_ErrSyntax), ("dovetail/api.ErrBounds", laid_dovetail_api_ErrBounds), ("dovetail/api.ErrNotOperator", laid_dovetail_api_ErrNotOperator), ("dovetail/api.ErrMatrix", laid_dovetail_api_ErrMatrix), ("dovetail/api.ErrTooBig", laid_dovetail_api_ErrTooBig), ("dovetail/api.ErrRefused", laid_dovetail_api_ErrRefused), ("dovetail/api.ErrCut", laid_dovetail_api_ErrCut), ("dovetail/api.ErrPlan", laid_dovetail_api_ErrPlan), ("dovetail/api.ErrName", laid_dovetail_api_ErrName), ("dovetail/api.ErrTree", laid_dovetail_api_ErrTree), ("dovetail/api.ErrLong", laid_dovetail_api_ErrLong), ("dovetail/api.ErrForm", laid_dovetail_api_ErrForm), ("dovetail/api.ErrSum", laid_dovetail_api_ErrSum), ("dovetail/api.ErrNone", laid_dovetail_api_ErrNone)], narrowed := true }
def OpformKnownUptoSaid : Prop := opformKnownUptoRow.holds Tryd.pinned (OpenSpec.upto opformKnownSpec)

/-- 'dovetaillaw06.OpformForm', WHERE WHAT IT READS IS OF BULK AT MOST 1048576: true; the input reads as it did. -/
def opformFormUptoRow : OpenClaim := { program := "ytaeaookonhaliaadoor", sum := "d4dd7929b3435aca3f92c0a5e7e8a47fc54608664b604f032666e6ec05335780", func := "dovetail/dovetaillaw06.OpformForm", spec := "opformForm", inPlace := ["internal/reflectlite.TypeOf", "internal/reflectlite.ValueOf", "(internal/reflectlite.Value).Type", "(internal/reflectlite.Value).IsNil", "(internal/reflectlite.Value).Elem", "(internal/reflectlite.Value).Set"], unfollowed := true, recurses := true, named := ["dovetail/api.ErrNotOperator", "dovetail/api.ErrBounds", "dovetail/api.ErrName", "dovetail/api.ErrArg", "dovetail/api.ErrSyntax", "dovetail/api.ErrMatrix", "dovetail/api.ErrTooBig", "dovetail/api.ErrRefused", "dovetail/api.ErrCut", "dovetail/api.ErrPlan", "dovetail/api.ErrTree", "dovetail/api.ErrLong", "dovetail/api.ErrForm", "dovetail/api.ErrSum", "dovetail/api.ErrNone", "errors.errorType"], apart := false, laid := [("errors.errorType", laid_errors_errorType), ("dovetail/api.ErrArg", laid_dovetail_api_ErrArg), ("dovetail/api.ErrSyntax", laid_dovetail_api_ErrSyntax), ("dovetail/api.ErrBounds", laid_dovetail_api_ErrBounds), ("dovetail/api.ErrNotOperator", laid_dovetail_api_ErrNotOperator), ("dovetail/api.ErrMatrix", laid_dovetail_api_ErrMatrix), ("dovetail/api.ErrTooBig", laid_dovetail_api_ErrTooBig), ("dovetail/api.ErrRefused", laid_dovetail_api_ErrRefused), ("dovetail/api.ErrCut", laid_dovetail_api_ErrCut), ("dovetail/api.ErrPlan", laid_dovetail_api_ErrPlan), ("dovetail/api.ErrName", laid_dovetail_api_ErrName), ("dovetail/api.ErrTree", laid_dovetail_api_ErrTree), ("dovetail/api.ErrLong", laid_dovetail_api_ErrLong), ("dovetail/api.ErrForm", laid_dovetail_api_ErrForm), ("dovetail/api.ErrSum", laid_dovetail_api_ErrSum), ("dovetail/api.ErrNone", laid_dovetail_api_ErrNone)], narrowed := true }
def OpformFormUptoSaid : Prop := opformFormUptoRow.holds Tryd.pinned (OpenSpec.upto opformFormSpec)

end Rows
end Go.Proofs.YtaeaookonhaliaaDoor
