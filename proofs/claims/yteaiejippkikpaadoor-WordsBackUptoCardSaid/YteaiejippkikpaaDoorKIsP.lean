/- errors.Is at a place error, after the kit's worked example. -/
import Derived.Test.YteaiejippkikpaaDoorKIs
set_option linter.unusedVariables false
set_option linter.unusedSimpArgs false
namespace Go.Proofs.YteaiejippkikpaaDoor.E
open Go.RowKit Go.Extern.Stop Go.Stop Go.Extern
theorem noIsWP (v : Value) (xT : TypeId) (w : World) : (Instr.typeAssert (.iface 120 v) xT 170 true).run Tryd.prog w = .ok (.tuple #[.nilIface, .bool false]) w := run_typeAssert_lacksB Tryd.underlying170 (by kernel_rfl) (by kernel_rfl) v xT w
theorem hasUnwrapWP (v : Value) (xT : TypeId) (w : World) : (Instr.typeAssert (.iface 120 v) xT 173 true).run Tryd.prog w = .ok (.tuple #[.iface 120 v, .bool true]) w := run_typeAssert_hasB Tryd.underlying173 (by kernel_rfl) v xT w
theorem methodUnwrapP (v : Value) (w : World) : (Go.method 317 120 v "Unwrap").run Tryd.prog w = .ok (143, v) w := by kernel_rfl

/-- errors.Is(e, x), e a *fmt.wrapError that wraps x itself: one Unwrap, then equal. -/
theorem isP_same (pb po : Nat) (b : Addr) (w : World) (h1 : w.cell? ⟨pb, po + 1, none⟩ = some (.iface 185 (.pointer (some b)))) :
    Calls Tryd.prog 74 #[.iface 120 (.pointer (some ⟨pb, po, none⟩)), .iface 185 (.pointer (some b))] w fun e w' => e = .returned (.bool true) ∧ w = w' := by
  obtain ⟨i, hi, hcmp⟩ := Option.map_eq_some_iff.1 isComp
  obtain ⟨j, hj, hjs⟩ := Option.map_eq_some_iff.1 isSize
  have h8 := @run_callFunc_extern Tryd.prog 98 _ Extern.ReflectliteType.typeOf Tryd.func98 (by kernel_rfl) (by kernel_rfl) (by kernel_rfl) (by kernel_rfl)
  have h32 := @run_callFunc_extern Tryd.prog 150 _ compF Tryd.func150 (by kernel_rfl) (by kernel_rfl) (by kernel_rfl) (by kernel_rfl)
  have tT := isTypeOf
  have cT := isComparable
  have mR := isMethodComparable
  have nE := noIsE
  have uE := noUnwrapE
  have vE := noUnwrapsE
  have nW := noIsWP
  have uW := hasUnwrapWP
  have mU := methodUnwrapP
  have heq := run_eql_iface_ptr_same (P := Tryd.prog) w b Tryd.underlying44 Tryd.underlying185 hi hcmp hj
  have hty := run_eql_iface_types (P := Tryd.prog) 120 185 (.pointer (some ⟨pb, po, none⟩)) (.pointer (some b)) Tryd.underlying44 (by decide) w
  go_enter Tryd.func74, Tryd.ntmps74
  go_wp2
  refine wp_loop_rounds 2 ?_
  rw [rounds_succ]
  go_wp2
  rw [rounds_succ]
  go_wp2
  go_ret
  exact ⟨rfl, rfl⟩

/-- errors.Is(e, x), e a *fmt.wrapError that wraps another error of errors.New's make. -/
theorem isP_other (pb po : Nat) (b a : Addr) (ca cb : Array Value) (ta tb : TypeId) (w : World) (h1 : w.cell? ⟨pb, po + 1, none⟩ = some (.iface 185 (.pointer (some a)))) (hne : a ≠ b) (ha : w.heap[a.block]? = some (.cells ca ta (0, 0))) (hb : w.heap[b.block]? = some (.cells cb tb (0, 0))) :
    Calls Tryd.prog 74 #[.iface 120 (.pointer (some ⟨pb, po, none⟩)), .iface 185 (.pointer (some b))] w fun e w' => e = .returned (.bool false) ∧ w = w' := by
  obtain ⟨i, hi, hcmp⟩ := Option.map_eq_some_iff.1 isComp
  obtain ⟨j, hj, hjs⟩ := Option.map_eq_some_iff.1 isSize
  have h8 := @run_callFunc_extern Tryd.prog 98 _ Extern.ReflectliteType.typeOf Tryd.func98 (by kernel_rfl) (by kernel_rfl) (by kernel_rfl) (by kernel_rfl)
  have h32 := @run_callFunc_extern Tryd.prog 150 _ compF Tryd.func150 (by kernel_rfl) (by kernel_rfl) (by kernel_rfl) (by kernel_rfl)
  have tT := isTypeOf
  have cT := isComparable
  have mR := isMethodComparable
  have nE := noIsE
  have uE := noUnwrapE
  have vE := noUnwrapsE
  have nW := noIsWP
  have uW := hasUnwrapWP
  have mU := methodUnwrapP
  have heq := run_eql_iface_ptr_other (P := Tryd.prog) w Tryd.underlying44 Tryd.underlying185 hi hcmp hj (by rw [hjs]; decide) hne ha hb
  have hty := run_eql_iface_types (P := Tryd.prog) 120 185 (.pointer (some ⟨pb, po, none⟩)) (.pointer (some b)) Tryd.underlying44 (by decide) w
  go_enter Tryd.func74, Tryd.ntmps74
  go_wp2
  refine wp_loop_rounds 2 ?_
  rw [rounds_succ]
  go_wp2
  rw [rounds_succ]
  go_wp2
  go_ret
  exact ⟨rfl, rfl⟩
end Go.Proofs.YteaiejippkikpaaDoor.E
