-- PRINTED by print.py (a twelfth state) out of the translation. Not trusted: Lean checks it.
import Derived.Test.YteaiejippkikpaaDoorProg
import Derived.Below
import Derived.Deep.Draws
import Derived.Deep.AppendLies
import Derived.Maps.AppendAt
import Derived.OwnWalk
import Derived.Laws.BytesArg
import Derived.Laws.MakeOwn
import Derived.Laws.OwnMore
import Derived.Deep.OwnRows
import Derived.Tactics
import Derived.Lib.ConvBytes
import Derived.Laws.Slices
import Derived.WalkKit
import Derived.KernelRfl
import Derived.RowKit3
import Derived.Deep.LoopGhost
import Derived.Deep.QuietTactic
import Derived.BigQuiet
import Derived.WideLaws
import Derived.Deep.DeepCutAuto
import Derived.Deep.CutBlock
import Derived.Deep.RegionHeld3
import Derived.Laws.Rows
import Derived.Lib.AppendStr
import Derived.ArgAppend
import Derived.Laws.IdiomCopy
import Derived.OrdersHeld
import Derived.Laws.BitsLemmas
import Derived.RowKit
import Derived.Test.YteaiejippkikpaaDoorWWords
import Derived.Test.YteaiejippkikpaaDoorWLast
import Derived.Test.YteaiejippkikpaaDoorWTab
import Derived.Test.YteaiejippkikpaaDoorWFour
import Derived.Test.YteaiejippkikpaaDoorWQPut
import Derived.Test.YteaiejippkikpaaDoorWApart
import Derived.Test.YteaiejippkikpaaDoorWArr
import Derived.Test.YteaiejippkikpaaDoorWZeros
import Derived.Test.YteaiejippkikpaaDoorWFoot
import Derived.Test.YteaiejippkikpaaDoorWKept
import Derived.Test.YteaiejippkikpaaDoorWShare
import Derived.Test.YteaiejippkikpaaDoorWN
import Derived.Test.YteaiejippkikpaaDoorWFootNe
import Derived.Test.YteaiejippkikpaaDoorWAt
import Derived.Test.YteaiejippkikpaaDoorWEqStruct
import Derived.Test.YteaiejippkikpaaDoorWRepsOne
import Derived.Test.YteaiejippkikpaaDoorWInv
import Derived.Test.YteaiejippkikpaaDoorWInvWords
import Derived.Test.YteaiejippkikpaaDoorWGuard
import Derived.Test.YteaiejippkikpaaDoorWNEv
import Derived.Test.YteaiejippkikpaaDoorWMore
import Derived.Test.YteaiejippkikpaaDoorLwx0
import Derived.Test.YteaiejippkikpaaDoorKKind
import Derived.Test.YteaiejippkikpaaDoorKPlace
namespace Go.Proofs.YteaiejippkikpaaDoor.Bw
open Go.RowKit Go.Proofs.YteaiejippkikpaaDoorW.PrintWords Go.Proofs.YteaiejippkikpaaDoorW.PrintLast Go.Proofs.YteaiejippkikpaaDoorW.PrintMore
attribute [local go_sem] max2_int min2_int max_two min_two max_three min_three max_four min_four   -- for this text's walks alone
set_option linter.unusedVariables false
set_option linter.unusedSimpArgs false



def errW : Option Int → Value
  | none => .nilIface
  | some c => .iface 0 (.int .i64 c)
theorem errW_none : errW none = .nilIface := rfl
theorem errW_some (c : Int) : errW (some c) = .iface 0 (.int .i64 c) := rfl

theorem info82 : (Tryd.prog.info? 82).map (fun i => (i.zero, i.size, i.bytes)) = some (some (.agg #[(.string ⟨#[]⟩), (.bool false), (.int .i64 0)]), 3, 32) := by kernel_rfl
-- the values' own types
/-! #### struct type 82 -/
end Go.Proofs.YteaiejippkikpaaDoor.Bw
