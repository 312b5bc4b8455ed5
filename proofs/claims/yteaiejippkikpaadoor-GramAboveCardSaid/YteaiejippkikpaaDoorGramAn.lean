/- gram.Above at a grammar that may not be: no list. -/
import Derived.Test.YteaiejippkikpaaDoorGramCo
set_option linter.unusedVariables false
namespace Go.Proofs.YteaiejippkikpaaDoor.B
open Go.RowKit Go.Proofs.YteaiejippkikpaaDoorW.PrintWords Go.Proofs.YteaiejippkikpaaDoorW.PrintLast Go.Proofs.YteaiejippkikpaaDoorW.PrintMore

set_option maxHeartbeats 1000000 in
set_option maxRecDepth 100000 in
theorem Above_bad (A0 : Option Addr) (n0 c0 : Nat) (A1 : Option Addr) (n1 c1 : Nat) (a2 : Int) (A3 : Option Addr) (n3 c3 : Nat) (w : World)
    (hC : ∀ W, Below w.heap.size w W → Calls Tryd.prog 28 #[.agg #[.slice A0 n0 c0, .slice A1 n1 c1, .int .i64 a2, .slice A3 n3 c3]] W fun e w' => (∃ t u, e = .returned (.iface t u)) ∧ Below W.heap.size W w') :
    Calls Tryd.prog 23 #[.agg #[.slice A0 n0 c0, .slice A1 n1 c1, .int .i64 a2, .slice A3 n3 c3]] w fun e w' => e = .returned (.slice none 0 0) ∧ Below w.heap.size w w' := by
  have hb : Below w.heap.size w (w.alloc (.cells #[.slice A0 n0 c0, .slice A1 n1 c1, .int .i64 a2, .slice A3 n3 c3] 25)) := (Below.refl _ w).alloc (Nat.le_refl _) _
  have HC := Aside0.mk (hC _ hb)
  have HB := Aside0.mk hb
  clear hC hb
  go_enter Tryd.func23, Tryd.ntmps23
  go_wp2_with (go_at_call 28; (with_reducible refine HC.out.mono ?_); rintro e w' ⟨⟨te, ue, rfl⟩, hb'⟩)
  go_ret
  exact ⟨rfl, HB.out.trans (hb'.mono HB.out.size)⟩
end Go.Proofs.YteaiejippkikpaaDoor.B
