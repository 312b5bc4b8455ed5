/-
 dovetaillaw08.EndsSets: whatever is handed in, the call answers true, and each argument reads as it did.
 Conditions: those of the given statement EndsSetsCardSaid alone.
-/
import Derived.Test.YtjkifeladmhkoaaDoorMESt1
import Derived.Test.YtjkifeladmhkoaaDoorMESt3
import Derived.Test.YtjkifeladmhkoaaDoorMESt5
import Derived.Test.YtjkifeladmhkoaaDoorMESt2
import Derived.Test.YtjkifeladmhkoaaDoorMESt4
import Derived.Test.YtjkifeladmhkoaaDoorCards
import Derived.Test.YtjkifeladmhkoaaDoorTie
import Derived.LaidLaws
import Derived.LaidHandle
import Derived.Lib.LaidTab
import Derived.Lib.LaidIn
import Derived.SevenTiedAt
import Derived.WideShapes
import Derived.JoinedCond
import Derived.ChangeMaps5
import Derived.SizedLaws
import Derived.Deep.DeepHandedRow
import Derived.Deep.DeepWitnessRowRef
/- errors.As at a rule error, after the kit's worked example. -/
set_option linter.unusedVariables false
set_option linter.unusedSimpArgs false
namespace Go.Proofs.YtjkifeladmhkoaaDoor.E
open Go.RowKit Go.Extern.Stop Go.Stop Go.Extern

/-- errors.As(nil, target). -/
theorem as_nilR (t : Value) (w : World) :
    Calls Tryd.prog 67 #[.nilIface, t] w fun e w' => e = .returned (.bool false) ∧ w' = w := by
  go_enter Tryd.func67, Tryd.ntmps67
  go_wp2
  go_ret
  exact ⟨rfl, rfl⟩

/-! ### CLOSED FACTS ON THE MODEL's ENTRIES FOR internal/reflectlite, at this program's types: 25: *p.E · 27: **p.E · 23: error · 45: reflectlite's rtype · 1: how many package-level variables the dump has -/
theorem valueOf27R (t : Addr) (w : World) : (ReflectliteValue.unpack (.iface 121 (.pointer (some t)))).run Tryd.prog w
    = .ok (.agg #[.pointer (some ⟨17, 121, none⟩), .pointer (some ⟨w.heap.size, 0, none⟩), .int .u64 150]) (w.alloc (.cells #[.pointer (some t)] 121)) := by kernel_rfl
theorem type27R (a : Addr) (w : World) : (ReflectliteValue.methodAny (ReflectliteValue.valueError "reflectlite.Value.Type" 0) (fun t _ _ _ => ReflectliteType.toType t) #[.agg #[.pointer (some ⟨17, 121, none⟩), .pointer (some a), .int .u64 150]]).run Tryd.prog w
    = .ok (.iface 170 (.agg #[.pointer (some ⟨17, 121, none⟩)])) w := by kernel_rfl
theorem methodKindR (h : Value) (w : World) : (Go.method 323 170 (.agg #[h]) "Kind").run Tryd.prog w = .ok (126, h) w := by kernel_rfl
theorem kind27R (w : World) : ((ReflectliteType.abiMethod fun t => (fun a : Nat => Value.int IntKind.u8 (a : Int)) <$> Rtype.kind t) #[.pointer (some ⟨17, 121, none⟩)]).run Tryd.prog w = .ok (.int .u8 22) w := by kernel_rfl
theorem kind25R (w : World) : ((ReflectliteType.abiMethod fun t => (fun a : Nat => Value.int IntKind.u8 (a : Int)) <$> Rtype.kind t) #[.pointer (some ⟨17, 119, none⟩)]).run Tryd.prog w = .ok (.int .u8 22) w := by kernel_rfl

/-! ### THE ENTRIES THAT READ OR WRITE MEMORY: laws with a premise on the cell (after Derived/Lib/ReflectliteSlice.lean's manner: each unfolding a lemma of its own, by rfl) -/
theorem rlmR (z : Sem Value) (f : TypeId → Addr → Nat → Nat → Sem Value) (v : Value) :
    ReflectliteValue.method z f #[v] = (do match ← ReflectliteValue.parts v with | none => z | some (t, a, fl) => f t a fl (fl % 32)) := rfl
theorem parts27R (a : Addr) (w : World) : (ReflectliteValue.parts (.agg #[.pointer (some ⟨17, 121, none⟩), .pointer (some a), .int .u64 150])).run Tryd.prog w = .ok (some (121, a, 150)) w := by kernel_rfl
/-- (Value).IsNil at the Value of a **p.E that is not nil. -/
theorem isNil27R (a p : Addr) (W : World) (ha : W.cell? a = some (.pointer (some p))) :
    (ReflectliteValue.method (ReflectliteValue.valueError "reflectlite.Value.IsNil" 0) ReflectliteValue.isNil #[.agg #[.pointer (some ⟨17, 121, none⟩), .pointer (some a), .int .u64 150]]).run Tryd.prog W = .ok (.bool false) W := by
  rw [rlmR]
  simp only [Sem.run_bind, parts27R, Result.andThen]
  simp [ReflectliteValue.isNil, loadVar, isAgg, underlying, Tryd.underlying121, ha, Result.andThen]

theorem methodElemR (h : Value) (w : World) : (Go.method 323 170 (.agg #[h]) "Elem").run Tryd.prog w = .ok (137, .agg #[h]) w := by kernel_rfl
theorem methodImplementsR (h : Value) (w : World) : (Go.method 323 170 (.agg #[h]) "Implements").run Tryd.prog w = .ok (138, .agg #[h]) w := by kernel_rfl
theorem methodAssignableToR (h : Value) (w : World) : (Go.method 323 170 (.agg #[h]) "AssignableTo").run Tryd.prog w = .ok (135, .agg #[h]) w := by kernel_rfl
theorem elem27R (w : World) : (ReflectliteType.method ReflectliteType.elem #[.agg #[.pointer (some ⟨17, 121, none⟩)]]).run Tryd.prog w = .ok (.iface 170 (.agg #[.pointer (some ⟨17, 119, none⟩)])) w := by kernel_rfl
theorem implements25R (w : World) : (ReflectliteType.relation "Implements" ReflectliteType.implements_ #[.agg #[.pointer (some ⟨17, 119, none⟩)], .iface 170 (.agg #[.pointer (some ⟨17, 26, none⟩)])]).run Tryd.prog w = .ok (.bool true) w := by kernel_rfl
theorem typeOf25R (v : Value) (w : World) : (ReflectliteType.typeOf #[.iface 119 v]).run Tryd.prog w = .ok (.iface 170 (.agg #[.pointer (some ⟨17, 119, none⟩)])) w := by kernel_rfl
theorem assignable25R (w : World) : (ReflectliteType.relation "AssignableTo" ReflectliteType.assignableTo #[.agg #[.pointer (some ⟨17, 119, none⟩)], .iface 170 (.agg #[.pointer (some ⟨17, 119, none⟩)])]).run Tryd.prog w = .ok (.bool true) w := by kernel_rfl
theorem valueOf25R (e : Addr) (w : World) : (ReflectliteValue.unpack (.iface 119 (.pointer (some e)))).run Tryd.prog w
    = .ok (.agg #[.pointer (some ⟨17, 119, none⟩), .pointer (some ⟨w.heap.size, 0, none⟩), .int .u64 150]) (w.alloc (.cells #[.pointer (some e)] 119)) := by kernel_rfl

theorem elemOf27R (w : World) : (Rtype.elem? 121).run Tryd.prog w = .ok (some 119) w := by kernel_rfl
theorem mk25R (p : Addr) (w : World) : (ReflectliteValue.mk 119 p ReflectliteValue.flagAddr).run Tryd.prog w = .ok (.agg #[.pointer (some ⟨17, 119, none⟩), .pointer (some p), .int .u64 406]) w := by kernel_rfl
/-- (Value).Elem at the Value of a **p.E that is not nil: the Value of the *p.E variable that it points to, addressable. -/
theorem elemV27R (a p : Addr) (W : World) (ha : W.cell? a = some (.pointer (some p))) :
    (ReflectliteValue.method (ReflectliteValue.valueError "reflectlite.Value.Elem" 0) ReflectliteValue.elem #[.agg #[.pointer (some ⟨17, 121, none⟩), .pointer (some a), .int .u64 150]]).run Tryd.prog W
      = .ok (.agg #[.pointer (some ⟨17, 119, none⟩), .pointer (some p), .int .u64 406]) W := by
  rw [rlmR]
  simp only [Sem.run_bind, parts27R, Result.andThen]
  simp [ReflectliteValue.elem, loadVar, isAgg, underlying, Tryd.underlying121, ha, Result.andThen, elemOf27R, mk25R]
theorem rlsR (v x : Value) : ReflectliteValue.set #[v, x] = (do
    let (some (dst, a, fl), some (src, b, _)) := (← ReflectliteValue.parts v, ← ReflectliteValue.parts x)
      | unsupported (.noEntry "extern/(internal/reflectlite.Value).Set.zeroValue")
    if fl / ReflectliteValue.flagAddr % 2 == 0 then unsupported (.noEntry "extern/(internal/reflectlite.Value).Set.unaddressable")
    let val ← loadVar src b
    if ← Rtype.directlyAssignable dst src then storeVar dst a val
    else if ← Rtype.implements dst src then
      if (← Rtype.kind src) == 20 then
        match val with
        | .nilIface => unsupported (.noEntry "extern/reflectlite: a nil value of one interface type handed on as a value of another")
        | _ => storeVar dst a val
      else storeVar dst a (.iface src val)
    else panicString ("reflectlite.Set: value of type " ++ (← Rtype.spelt src) ++ " is not assignable to type " ++ (← Rtype.spelt dst))
    pure (.tuple #[])) := rfl
theorem parts25aR (a : Addr) (w : World) : (ReflectliteValue.parts (.agg #[.pointer (some ⟨17, 119, none⟩), .pointer (some a), .int .u64 406])).run Tryd.prog w = .ok (some (119, a, 406)) w := by kernel_rfl
theorem parts25R (a : Addr) (w : World) : (ReflectliteValue.parts (.agg #[.pointer (some ⟨17, 119, none⟩), .pointer (some a), .int .u64 150])).run Tryd.prog w = .ok (some (119, a, 150)) w := by kernel_rfl
theorem direct25R (w : World) : (Rtype.directlyAssignable 119 119).run Tryd.prog w = .ok true w := by kernel_rfl
/-- (Value).Set: the *p.E variable at 'ta' gets what the Value's own variable 'b' holds. -/
theorem set25R (ta b e : Addr) (old : Value) (W : World) (hb : W.cell? b = some (.pointer (some e))) (ht : W.cell? ta = some old) (hf : W.frozen? ta = false) :
    (ReflectliteValue.set #[.agg #[.pointer (some ⟨17, 119, none⟩), .pointer (some ta), .int .u64 406], .agg #[.pointer (some ⟨17, 119, none⟩), .pointer (some b), .int .u64 150]]).run Tryd.prog W
      = .ok (.tuple #[]) (W.setCell ta (.pointer (some e))) := by
  rw [rlsR]
  simp only [Sem.run_bind, parts25aR, parts25R, Result.andThen]
  simp [ReflectliteValue.flagAddr, loadVar, isAgg, underlying, Tryd.underlying119, hb, Result.andThen, direct25R, storeVar, Value.cells, storeCells, Addr.add]
  rw [run_store Tryd.prog W ta _ _ (by rfl)]
  simp [ht, hf]

set_option maxHeartbeats 4000000 in
theorem as_hitR (e t : Addr) (old : Value) (w : World) (hg : w.cell? ⟨15, 0, none⟩ = some (.iface 170 (.agg #[.pointer (some ⟨17, 26, none⟩)]))) (ht0 : w.cell? t = some old) (hf0 : w.frozen? t = false) :
    Calls Tryd.prog 67 #[.iface 119 (.pointer (some e)), .iface 121 (.pointer (some t))] w fun ev w' => ev = .returned (.bool true) ∧ w' = ((((w.alloc (.cells #[.pointer (some t)] 121)).alloc (.cells #[.pointer (some ⟨17, 121, none⟩), .pointer (some ⟨w.heap.size, 0, none⟩), .int .u64 150] 153)).alloc (.cells #[.pointer (some ⟨17, 121, none⟩), .pointer (some ⟨w.heap.size, 0, none⟩), .int .u64 150] 153)).alloc (.cells #[.pointer (some e)] 119)).setCell t (.pointer (some e)) := by
  have h6 := @run_callFunc_extern Tryd.prog 91 _ (fun args => ReflectliteValue.unpack (args.getD 0 (.tuple #[]))) Tryd.func91 (by kernel_rfl) (by kernel_rfl) (by kernel_rfl) (by kernel_rfl)
  have h7 := @run_callFunc_extern Tryd.prog 92 _ (ReflectliteValue.methodAny (ReflectliteValue.valueError "reflectlite.Value.Type" 0) (fun t _ _ _ => ReflectliteType.toType t)) Tryd.func92 (by kernel_rfl) (by kernel_rfl) (by kernel_rfl) (by kernel_rfl)
  have h8 := @run_callFunc_extern Tryd.prog 93 _ (ReflectliteValue.method (ReflectliteValue.valueError "reflectlite.Value.IsNil" 0) ReflectliteValue.isNil) Tryd.func93 (by kernel_rfl) (by kernel_rfl) (by kernel_rfl) (by kernel_rfl)
  have h27 := @run_callFunc_extern Tryd.prog 126 _ (ReflectliteType.abiMethod fun t => do pure (.int .u8 (← Rtype.kind t))) Tryd.func126 (by kernel_rfl) (by kernel_rfl) (by kernel_rfl) (by kernel_rfl)
  have h37 := @run_callFunc_extern Tryd.prog 137 _ (ReflectliteType.method ReflectliteType.elem) Tryd.func137 (by kernel_rfl) (by kernel_rfl) (by kernel_rfl) (by kernel_rfl)
  have h38 := @run_callFunc_extern Tryd.prog 138 _ (ReflectliteType.relation "Implements" ReflectliteType.implements_) Tryd.func138 (by kernel_rfl) (by kernel_rfl) (by kernel_rfl) (by kernel_rfl)
  have h10 := @run_callFunc_extern Tryd.prog 85 _ ReflectliteType.typeOf Tryd.func85 (by kernel_rfl) (by kernel_rfl) (by kernel_rfl) (by kernel_rfl)
  have h35 := @run_callFunc_extern Tryd.prog 135 _ (ReflectliteType.relation "AssignableTo" ReflectliteType.assignableTo) Tryd.func135 (by kernel_rfl) (by kernel_rfl) (by kernel_rfl) (by kernel_rfl)
  have h11 := @run_callFunc_extern Tryd.prog 106 _ (ReflectliteValue.method (ReflectliteValue.valueError "reflectlite.Value.Elem" 0) ReflectliteValue.elem) Tryd.func106 (by kernel_rfl) (by kernel_rfl) (by kernel_rfl) (by kernel_rfl)
  have h12 := @run_callFunc_extern Tryd.prog 107 _ ReflectliteValue.set Tryd.func107 (by kernel_rfl) (by kernel_rfl) (by kernel_rfl) (by kernel_rfl)
  have tO := typeOf25R
  have mA := methodAssignableToR
  have a25 := assignable25R
  have v25 := valueOf25R
  have f6 := valueOf27R
  have f7 := type27R
  have mK := methodKindR
  have mE := methodElemR
  have mI := methodImplementsR
  have k27 := kind27R
  have k25 := kind25R
  have e27 := elem27R
  have i25 := implements25R
  have n8 := isNil27R ⟨w.heap.size, 0, none⟩ t ((w.alloc (.cells #[.pointer (some t)] 121)).alloc (.cells #[.pointer (some ⟨17, 121, none⟩), .pointer (some ⟨w.heap.size, 0, none⟩), .int .u64 150] 153)) (by simp)
  have hlt : 15 < w.heap.size := by
    exact World.block_lt_of_cell? w _ hg
  have hg2 : ((w.alloc (.cells #[.pointer (some t)] 121)).alloc (.cells #[.pointer (some ⟨17, 121, none⟩), .pointer (some ⟨w.heap.size, 0, none⟩), .int .u64 150] 153)).cell? ⟨15, 0, none⟩ = some (.iface 170 (.agg #[.pointer (some ⟨17, 26, none⟩)])) := by
    rw [World.cell?_alloc_lt _ _ ⟨15, 0, none⟩ (by simp; omega), World.cell?_alloc_lt _ _ ⟨15, 0, none⟩ hlt]; exact hg
  have htl : t.block < w.heap.size := by
    rcases Nat.lt_or_ge t.block w.heap.size with h | h
    · exact h
    · simp [World.cell?, Array.getElem?_eq_none h] at ht0
  have el := elemV27R ⟨w.heap.size, 0, none⟩ t (((w.alloc (.cells #[.pointer (some t)] 121)).alloc (.cells #[.pointer (some ⟨17, 121, none⟩), .pointer (some ⟨w.heap.size, 0, none⟩), .int .u64 150] 153)).alloc (.cells #[.pointer (some ⟨17, 121, none⟩), .pointer (some ⟨w.heap.size, 0, none⟩), .int .u64 150] 153)) (by rw [World.cell?_alloc_lt _ _ ⟨w.heap.size, 0, none⟩ (by simp; omega)]; simp)
  have st := set25R t ⟨w.heap.size + 1 + 1 + 1, 0, none⟩ e old ((((w.alloc (.cells #[.pointer (some t)] 121)).alloc (.cells #[.pointer (some ⟨17, 121, none⟩), .pointer (some ⟨w.heap.size, 0, none⟩), .int .u64 150] 153)).alloc (.cells #[.pointer (some ⟨17, 121, none⟩), .pointer (some ⟨w.heap.size, 0, none⟩), .int .u64 150] 153)).alloc (.cells #[.pointer (some e)] 119))
    (by rw [World.cell?_alloc_at _ _ _ _ (by simp)]; rfl)
    (by rw [World.cell?_alloc_lt _ _ t (by simp; omega), World.cell?_alloc_lt _ _ t (by simp; omega), World.cell?_alloc_lt _ _ t (by simp; omega), World.cell?_alloc_lt _ _ t htl]; exact ht0)
    (by rw [World.frozen?_alloc_old _ _ t (by simp; omega), World.frozen?_alloc_old _ _ t (by simp; omega), World.frozen?_alloc_old _ _ t (by simp; omega), World.frozen?_alloc_old _ _ t (Nat.ne_of_lt htl)]; exact hf0)
  go_enter Tryd.func67, Tryd.ntmps67
  go_wp2
  refine wp_loop_rounds 1 ?_
  rw [rounds_succ]
  go_wp2
  go_ret
  exact ⟨rfl, rfl⟩
/-! ### At an error of another type -/
theorem typeOfER (v : Value) (w : World) : (ReflectliteType.typeOf #[.iface 190 v]).run Tryd.prog w = .ok (.iface 170 (.agg #[.pointer (some ⟨17, 190, none⟩)])) w := by kernel_rfl
theorem assignableER (w : World) : (ReflectliteType.relation "AssignableTo" ReflectliteType.assignableTo #[.agg #[.pointer (some ⟨17, 190, none⟩)], .iface 170 (.agg #[.pointer (some ⟨17, 119, none⟩)])]).run Tryd.prog w = .ok (.bool false) w := by kernel_rfl
theorem noAsER (v : Value) (xT : TypeId) (w : World) : (Instr.typeAssert (.iface 190 v) xT 182 true).run Tryd.prog w = .ok (.tuple #[.nilIface, .bool false]) w := run_typeAssert_lacksB Tryd.underlying182 (by kernel_rfl) (by kernel_rfl) v xT w
set_option maxHeartbeats 4000000 in
/-- errors.As at a sentinel: false. -/
theorem as_esR (a t : Addr) (w : World) (hg : w.cell? ⟨15, 0, none⟩ = some (.iface 170 (.agg #[.pointer (some ⟨17, 26, none⟩)]))) :
    Calls Tryd.prog 67 #[.iface 190 (.pointer (some a)), .iface 121 (.pointer (some t))] w fun ev w' => ev = .returned (.bool false) ∧ Below w.heap.size w w' := by
  have h6 := @run_callFunc_extern Tryd.prog 91 _ (fun args => ReflectliteValue.unpack (args.getD 0 (.tuple #[]))) Tryd.func91 (by kernel_rfl) (by kernel_rfl) (by kernel_rfl) (by kernel_rfl)
  have h7 := @run_callFunc_extern Tryd.prog 92 _ (ReflectliteValue.methodAny (ReflectliteValue.valueError "reflectlite.Value.Type" 0) (fun t _ _ _ => ReflectliteType.toType t)) Tryd.func92 (by kernel_rfl) (by kernel_rfl) (by kernel_rfl) (by kernel_rfl)
  have h8 := @run_callFunc_extern Tryd.prog 93 _ (ReflectliteValue.method (ReflectliteValue.valueError "reflectlite.Value.IsNil" 0) ReflectliteValue.isNil) Tryd.func93 (by kernel_rfl) (by kernel_rfl) (by kernel_rfl) (by kernel_rfl)
  have h27 := @run_callFunc_extern Tryd.prog 126 _ (ReflectliteType.abiMethod fun t => do pure (.int .u8 (← Rtype.kind t))) Tryd.func126 (by kernel_rfl) (by kernel_rfl) (by kernel_rfl) (by kernel_rfl)
  have h37 := @run_callFunc_extern Tryd.prog 137 _ (ReflectliteType.method ReflectliteType.elem) Tryd.func137 (by kernel_rfl) (by kernel_rfl) (by kernel_rfl) (by kernel_rfl)
  have h38 := @run_callFunc_extern Tryd.prog 138 _ (ReflectliteType.relation "Implements" ReflectliteType.implements_) Tryd.func138 (by kernel_rfl) (by kernel_rfl) (by kernel_rfl) (by kernel_rfl)
  have h10 := @run_callFunc_extern Tryd.prog 85 _ ReflectliteType.typeOf Tryd.func85 (by kernel_rfl) (by kernel_rfl) (by kernel_rfl) (by kernel_rfl)
  have h35 := @run_callFunc_extern Tryd.prog 135 _ (ReflectliteType.relation "AssignableTo" ReflectliteType.assignableTo) Tryd.func135 (by kernel_rfl) (by kernel_rfl) (by kernel_rfl) (by kernel_rfl)
  have tO := typeOfER
  have a25 := assignableER
  have nA := noAsER
  have uE := noUnwrapE
  have vE := noUnwrapsE
  have mA := methodAssignableToR
  have f6 := valueOf27R
  have f7 := type27R
  have mK := methodKindR
  have mE := methodElemR
  have mI := methodImplementsR
  have k27 := kind27R
  have k25 := kind25R
  have e27 := elem27R
  have i25 := implements25R
  have n8 := isNil27R ⟨w.heap.size, 0, none⟩ t ((w.alloc (.cells #[.pointer (some t)] 121)).alloc (.cells #[.pointer (some ⟨17, 121, none⟩), .pointer (some ⟨w.heap.size, 0, none⟩), .int .u64 150] 153)) (by simp)
  have hlt : 15 < w.heap.size := by
    exact World.block_lt_of_cell? w _ hg
  have hg2 : ((w.alloc (.cells #[.pointer (some t)] 121)).alloc (.cells #[.pointer (some ⟨17, 121, none⟩), .pointer (some ⟨w.heap.size, 0, none⟩), .int .u64 150] 153)).cell? ⟨15, 0, none⟩ = some (.iface 170 (.agg #[.pointer (some ⟨17, 26, none⟩)])) := by
    rw [World.cell?_alloc_lt _ _ ⟨15, 0, none⟩ (by simp; omega), World.cell?_alloc_lt _ _ ⟨15, 0, none⟩ hlt]; exact hg
  go_enter Tryd.func67, Tryd.ntmps67
  go_wp2
  refine wp_loop_rounds 1 ?_
  rw [rounds_succ]
  go_wp2
  go_ret
  exact ⟨rfl, (((Below.refl _ w).alloc (Nat.le_refl _) _).alloc (by simp) _).alloc (by simp; omega) _⟩
end Go.Proofs.YtjkifeladmhkoaaDoor.E
/- kit.Kind and kit.Rule of what gram.Check answers. -/
set_option linter.unusedVariables false
set_option linter.unusedSimpArgs false
namespace Go.Proofs.YtjkifeladmhkoaaDoor.B
open Go.RowKit Go.Proofs.YtjkifeladmhkoaaDoorW.PrintWords Go.Proofs.YtjkifeladmhkoaaDoorW.PrintLast Go.Proofs.YtjkifeladmhkoaaDoorW.PrintMore Go.Proofs.YtjkifeladmhkoaaDoor.E

theorem SentsK.three {ad : Int → Addr} {w : World} (h : SentsK ad w) : Sents ad w := by
  obtain ⟨⟨h1, h2, h3, h4, h5, h6, h7, h8, h9, h10, h11, h12, h13, h14, h15⟩, _, _⟩ := h
  exact ⟨h3, h10, h1⟩

theorem IsK.rule {ad : Int → Addr} {w : World} (hs : SentsK ad w) (k : Int) (h1 : 1 ≤ k) (h2 : k ≤ 15) (b : Nat) (hc : w.cell? ⟨b, 1, none⟩ = some (.iface 190 (.pointer (some (ad k))))) : IsK ad w (.iface 119 (.pointer (some ⟨b, 0, none⟩))) k := by
  intro j hj1 hj2 W hW
  have hc' : W.cell? ⟨b, 0 + 1, none⟩ = some (.iface 190 (.pointer (some (ad k)))) := (hW.cell (World.block_lt_of_cell? w _ hc)).trans hc
  by_cases h : j = k
  · subst h
    rw [decide_eq_true rfl]
    exact isR_same b 0 (ad j) W hc'
  · rw [decide_eq_false h]
    obtain ⟨ca, ta, hca⟩ := (hs.below hW).box k h1 h2
    obtain ⟨cb, tb, hcb⟩ := (hs.below hW).box j hj1 hj2
    exact isR_other b 0 (ad j) (ad k) ca cb ta tb W hc' (hs.ne k j h1 h2 hj1 hj2 (fun e => h e.symm)) hca hcb
/-- The handle of the type error lies. -/
def Handle (w : World) : Prop := w.cell? ⟨15, 0, none⟩ = some (.iface 170 (.agg #[.pointer (some ⟨17, 26, none⟩)]))
theorem Handle.below {w w' : World} (h : Handle w) (hb : Below w.heap.size w w') : Handle w' := (hb.cell (World.block_lt_of_cell? w _ h)).trans h

set_option maxHeartbeats 1000000 in
set_option maxRecDepth 100000 in
theorem Rule_no (v : Value) (w : World) (hA : ∀ W, Below w.heap.size w W → ∀ a, Calls Tryd.prog 67 #[v, .iface 121 (.pointer (some a))] W fun e w' => e = .returned (.bool false) ∧ Below W.heap.size W w') :
    Calls Tryd.prog 28 #[v] w fun e w' => e = .returned (.int .i64 (-1)) ∧ Below w.heap.size w w' := by
  have hb : Below w.heap.size w (w.alloc (.cells #[.pointer none] 119)) := (Below.refl _ w).alloc (Nat.le_refl _) _
  have HA := Aside0.mk (hA _ hb ⟨w.heap.size, 0, none⟩)
  have HB := Aside0.mk hb
  clear hA hb
  go_enter Tryd.func28, Tryd.ntmps28
  go_wp2_with (go_at_call 67; (with_reducible refine HA.out.mono ?_); rintro e w' ⟨rfl, hb'⟩)
  go_ret
  exact ⟨rfl, HB.out.trans (hb'.mono HB.out.size)⟩
set_option maxHeartbeats 1000000 in
set_option maxRecDepth 100000 in
theorem Rule_yes (b : Nat) (r : Int) (w : World) (hg : Handle w) (hr : w.cell? ⟨b, 0, none⟩ = some (.int .i64 r)) :
    Calls Tryd.prog 28 #[.iface 119 (.pointer (some ⟨b, 0, none⟩))] w fun e w' => e = .returned (.int .i64 r) ∧ Below w.heap.size w w' := by
  have hb : Below w.heap.size w (w.alloc (.cells #[.pointer none] 119)) := (Below.refl _ w).alloc (Nat.le_refl _) _
  have hbl : b < w.heap.size := World.block_lt_of_cell? w _ hr
  have hA : Calls Tryd.prog 67 #[.iface 119 (.pointer (some ⟨b, 0, none⟩)), .iface 121 (.pointer (some ⟨w.heap.size, 0, none⟩))] (w.alloc (.cells #[.pointer none] 119)) fun e w' => e = .returned (.bool true) ∧ Aside0 (Below w.heap.size w w') ∧ w'.cell? ⟨w.heap.size, 0, none⟩ = some (.pointer (some ⟨b, 0, none⟩)) ∧ w'.cell? ⟨b, 0, none⟩ = some (.int .i64 r) := by
    have hx : Box w.heap.size #[.pointer none] 119 (w.alloc (.cells #[.pointer none] 119)) := Box.new w _ _
    have hx' : (w.alloc (.cells #[.pointer none] 119)).heap[w.heap.size]? = some (.cells #[.pointer none] 119 (0, 0)) := hx
    refine (as_hitR ⟨b, 0, none⟩ ⟨w.heap.size, 0, none⟩ (.pointer none) _ (hg.below hb) (hx.cell 0 _ rfl) (by unfold World.frozen?; rw [show (w.alloc (.cells #[.pointer none] 119)).heap[(⟨w.heap.size, 0, none⟩ : Addr).block]? = _ from hx']; rfl)).mono ?_
    rintro e w' ⟨rfl, rfl⟩
    have hb4 := ((((Below.refl _ (w.alloc (.cells #[.pointer none] 119))).alloc (Nat.le_refl _) (.cells #[.pointer (some ⟨w.heap.size, 0, none⟩)] 121)).alloc (by simp) (.cells #[.pointer (some ⟨17, 121, none⟩), .pointer (some ⟨(w.alloc (.cells #[.pointer none] 119)).heap.size, 0, none⟩), .int .u64 150] 153)).alloc (by first | (simp; done) | (simp; omega)) (.cells #[.pointer (some ⟨17, 121, none⟩), .pointer (some ⟨(w.alloc (.cells #[.pointer none] 119)).heap.size, 0, none⟩), .int .u64 150] 153)).alloc (by first | (simp; done) | (simp; omega)) (.cells #[.pointer (some ⟨b, 0, none⟩)] 119)
    have hbw := hb.trans (hb4.mono hb.size)
    have hc4 : _ := (hb4.cell (p := ⟨w.heap.size, 0, none⟩) (by simp)).trans (hx.cell 0 _ rfl)
    refine ⟨rfl, ⟨hbw.setCell (Nat.le_refl _) _⟩, ?_, ?_⟩
    · exact World.cell?_setCell_same' _ _ _ (by rw [hc4]; rfl)
    · rw [World.cell?_setCell_other _ _ _ _ (show (⟨w.heap.size, 0, none⟩ : Addr) ≠ ⟨b, 0, none⟩ from fun e => by injection e with e; omega)]
      exact (hbw.cell (p := ⟨b, 0, none⟩) hbl).trans hr
  have HA := Aside0.mk hA
  clear hA hb
  go_enter Tryd.func28, Tryd.ntmps28
  go_wp2_with (go_at_call 67; (with_reducible refine HA.out.mono ?_); rintro e w' ⟨rfl, hb', f0, f1⟩)
  go_ret
  exact ⟨rfl, hb'.out⟩
end Go.Proofs.YtjkifeladmhkoaaDoor.B
/- Errors of all kinds: none, a sentinel, a rule's; kit.Kind and kit.Rule of them; told by a number (kind + 16 * (rule + 1)). -/
set_option linter.unusedVariables false
set_option linter.unusedSimpArgs false
namespace Go.Proofs.YtjkifeladmhkoaaDoor.F
open Go.RowKit Go.Proofs.YtjkifeladmhkoaaDoorW.PrintWords Go.Proofs.YtjkifeladmhkoaaDoorW.PrintLast Go.Proofs.YtjkifeladmhkoaaDoorW.PrintMore
open Go.Proofs.YtjkifeladmhkoaaDoor.B Go.Proofs.YtjkifeladmhkoaaDoor.E

/-- An error value of kind p.1, rule p.2. -/
def ErrW (ad : Int → Addr) (w : World) (v : Value) (p : Int × Int) : Prop :=
  (p.1 = 0 ∧ p.2 = -1 ∧ v = .nilIface) ∨ ((1 ≤ p.1 ∧ p.1 ≤ 15) ∧ p.2 = -1 ∧ v = .iface 190 (.pointer (some (ad p.1)))) ∨
  ((1 ≤ p.1 ∧ p.1 ≤ 15) ∧ 0 ≤ p.2 ∧ p.2 < 1000 ∧ ∃ b, v = .iface 119 (.pointer (some ⟨b, 0, none⟩)) ∧ w.heap[b]? = some (.cells #[.int .i64 p.2, .iface 190 (.pointer (some (ad p.1)))] 123 (0, 0)))
theorem ErrW.of {ad : Int → Addr} {w : World} {v : Value} {p : Int × Int} (h : ErrV ad w v p) : ErrW ad w v p := by
  rcases h with h | ⟨h1, h2, h3⟩ | ⟨h1, h2, h3, h4⟩
  · exact .inl h
  · exact .inr (.inl ⟨by omega, h2, h3⟩)
  · exact .inr (.inr ⟨by omega, h2, by omega, h4⟩)
theorem ErrW.below {ad : Int → Addr} {w w' : World} {v : Value} {p : Int × Int} (h : ErrW ad w v p) (hb : Below w.heap.size w w') : ErrW ad w' v p := by
  rcases h with h | h | ⟨h1, h2, h3, b, hv, hx⟩
  · exact .inl h
  · exact .inr (.inl h)
  · exact .inr (.inr ⟨h1, h2, h3, b, hv, Box.below (W := w) (W' := w') hx hb⟩)
theorem ErrW.nil {ad : Int → Addr} {w : World} {v : Value} {p : Int × Int} (h : ErrW ad w v p) (h0 : p.1 = 0) : v = .nilIface := by
  rcases h with h | h | h
  · exact h.2.2
  · have := h.1; omega
  · have := h.1; omega
theorem ErrW.any {ad : Int → Addr} {w : World} {v : Value} {p : Int × Int} (h : ErrW ad w v p) (h0 : p.1 ≠ 0) : ∃ t u, v = .iface t u := by
  rcases h with h | h | h
  · exact absurd h.1 h0
  · exact ⟨_, _, h.2.2⟩
  · obtain ⟨_, _, _, b, h, _⟩ := h; exact ⟨_, _, h⟩
theorem ErrW.sent {ad : Int → Addr} {w : World} {k : Int} (h1 : 1 ≤ k) (h2 : k ≤ 15) : ErrW ad w (.iface 190 (.pointer (some (ad k)))) (k, -1) := .inr (.inl ⟨⟨h1, h2⟩, rfl, rfl⟩)
theorem ErrW.kinds {ad : Int → Addr} {w : World} {v : Value} {p : Int × Int} (h : ErrW ad w v p) : 0 ≤ p.1 ∧ p.1 < 16 ∧ -1 ≤ p.2 ∧ (p.1 = 0 → p.2 = -1) := by
  rcases h with ⟨h1, h2, _⟩ | ⟨h1, h2, _⟩ | ⟨h1, h2, _⟩ <;> omega
/-- Kind of it. -/
theorem Kind_w {ad : Int → Addr} {w : World} (hs : SentsK ad w) {v : Value} {p : Int × Int} (hv : ErrW ad w v p) : Calls Tryd.prog 18 #[v] w fun e w' => e = .returned (.int .i64 p.1) ∧ Below w.heap.size w w' := by
  rcases hv with ⟨h0, _, rfl⟩ | ⟨h1, _, rfl⟩ | ⟨h1, _, _, b, rfl, hx⟩
  · rw [h0]; exact Kind_nil w
  · exact Kind_any ad _ _ p.1 h1.1 h1.2 w hs (IsK.sent hs p.1 h1.1 h1.2)
  · exact Kind_any ad _ _ p.1 h1.1 h1.2 w hs (IsK.rule hs p.1 h1.1 h1.2 b (Box.cell (W := w) hx 1 _ rfl))
/-- Rule of it. -/
theorem Rule_w {ad : Int → Addr} {w : World} (hg : HandleP w) {v : Value} {p : Int × Int} (hv : ErrW ad w v p) : Calls Tryd.prog 28 #[v] w fun e w' => e = .returned (.int .i64 p.2) ∧ Below w.heap.size w w' := by
  rcases hv with ⟨_, h2, rfl⟩ | ⟨_, h2, rfl⟩ | ⟨_, _, _, b, rfl, hx⟩
  · rw [h2]
    exact Rule_no _ w (fun W _ a => (as_nilR _ W).mono fun _ _ ⟨he, hw⟩ => by subst hw; exact ⟨he, Below.refl _ _⟩)
  · rw [h2]
    exact Rule_no _ w (fun W hW a => as_esR _ a W (Handle.below (w := w) hg hW))
  · exact Rule_yes b p.2 w hg (Box.cell (W := w) hx 0 _ rfl)
/-- An error: none, or some value. -/
abbrev errV (tx : TypeId × Value) : Option Int → Value
  | none => .nilIface
  | some _ => .iface tx.1 tx.2
theorem errV_none (tx : TypeId × Value) : errV tx none = .nilIface := rfl
/-- An error's number. -/
def encE (p : Int × Int) : Option Int := if p.1 = 0 then none else some (p.1 + 16 * (p.2 + 1))
def kindE : Option Int → Int
  | none => 0
  | some c => c % 16
def ruleE : Option Int → Int
  | none => -1
  | some c => c / 16 - 1
/-- A value tells the error of a number. -/
def ErrF (ad : Int → Addr) (w : World) (v : Value) (r : Option Int) : Prop := ∃ p, ErrW ad w v p ∧ r = encE p
theorem kindE_enc {p : Int × Int} (h0 : 0 ≤ p.1) (h1 : p.1 < 16) : kindE (encE p) = p.1 := by
  unfold encE
  by_cases h : p.1 = 0
  · rw [if_pos h, h]; rfl
  · rw [if_neg h]; show (p.1 + 16 * (p.2 + 1)) % 16 = p.1; omega
theorem ruleE_enc {p : Int × Int} (h0 : 0 ≤ p.1) (h1 : p.1 < 16) (h2 : p.1 = 0 → p.2 = -1) : ruleE (encE p) = p.2 := by
  unfold encE
  by_cases h : p.1 = 0
  · rw [if_pos h, h2 h]; rfl
  · rw [if_neg h]; show (p.1 + 16 * (p.2 + 1)) / 16 - 1 = p.2; omega
theorem ErrF.below {ad : Int → Addr} {w w' : World} {v : Value} {r : Option Int} (h : ErrF ad w v r) (hb : Below w.heap.size w w') : ErrF ad w' v r := by
  obtain ⟨p, h1, h2⟩ := h
  exact ⟨p, h1.below hb, h2⟩
theorem SentsK.three {ad : Int → Addr} {w : World} (h : SentsK ad w) : Go.Proofs.YtjkifeladmhkoaaDoor.B.Sents ad w := by
  obtain ⟨⟨h1, h2, h3, h4, h5, h6, h7, h8, h9, h10, h11, h12, h13, h14, h15⟩, _, _⟩ := h
  exact ⟨h3, h10, h1⟩
theorem SentsK.arg {ad : Int → Addr} {w : World} (h : SentsK ad w) : w.cell? ⟨0, 0, none⟩ = some (.iface 190 (.pointer (some (ad 1)))) := by
  obtain ⟨⟨h1, h2, h3, h4, h5, h6, h7, h8, h9, h10, h11, h12, h13, h14, h15⟩, _, _⟩ := h
  exact h1
theorem SentsK.none_ {ad : Int → Addr} {w : World} (h : SentsK ad w) : w.cell? ⟨1, 0, none⟩ = some (.iface 190 (.pointer (some (ad 15)))) := by
  obtain ⟨⟨h1, h2, h3, h4, h5, h6, h7, h8, h9, h10, h11, h12, h13, h14, h15⟩, _, _⟩ := h
  exact h15
theorem Check_any (ad : Int → Addr) (A0 : Option Addr) (c0 : Nat) (l0 : List ByteArray) (A1 : Option Addr) (c1 : Nat) (l1 : List ByteArray) (a2 : Int) (A3 : Option Addr) (c3 : Nat) (l3 : List S41) (w : World) (hs : SentsK ad w) (hr0 : Kd.C Kd.string w A0 l0.length l0) (hc0 : l0.length ≤ c0) (hr1 : Kd.C Kd.string w A1 l1.length l1) (hc1 : l1.length ≤ c1) (hr3 : Kd.C k41 w A3 l3.length l3) (hc3 : l3.length ≤ c3) :
    Calls Tryd.prog 52 #[.agg #[.slice A0 l0.length c0, .slice A1 l1.length c1, .int .i64 a2, .slice A3 l3.length c3]] w fun e w' => (∃ v, e = .returned v ∧ ErrV ad w' v (chk (namesOK l0) (namesOK l1) l0.length l1.length a2 l3)) ∧ Below w.heap.size w w' := by
  have m0 := C_max hr0
  have m1 := C_max hr1
  exact Check_full ad _ A0 c0 l0 A1 c1 l1 a2 A3 c3 l3 _ _ w (SentsK.three hs) hr0 hc0 hr1 hc1 hr3 hc3 (Names_f l0 (l0.length + l0.length + l1.length + l1.length + 2) m0 (by omega)) (Names_f l1 (l0.length + l0.length + l1.length + l1.length + 2) m1 (by omega))
def dovetailkit_Kind.f (a0 : Option Int) : Option Int := some (kindE a0)
theorem Kind_e (ad : Int → Addr) (a0 : Option Int) (r : Int) {tx : TypeId × Value} (w : World) (hs : SentsK ad w) (hpe : ErrF ad w (errV tx a0) a0) (h : dovetailkit_Kind.f a0 = some r) :
    Calls Tryd.prog 18 #[errV tx a0] w fun e w' => e = .returned (.int .i64 r) ∧ Below w.heap.size w w' := by
  obtain rfl := Option.some.inj h
  obtain ⟨p, hv, hp⟩ := hpe
  have hk := ErrW.kinds hv
  have hc := Kind_w hs hv
  rw [← kindE_enc hk.1 hk.2.1, ← hp] at hc
  exact hc
theorem dovetailkit_Kind.calls (ad : Int → Addr) (a0 : Option Int) (r : Int) {tx : TypeId × Value} (w : World) (hs : SentsK ad w) (hg : HandleP w) (hpe : ErrF ad w (errV tx a0) a0) (h : dovetailkit_Kind.f a0 = some r) :
    Calls Tryd.prog 18 #[errV tx a0] w fun e w' => e = .returned (.int .i64 r) ∧ Below w.heap.size w w' := Kind_e ad a0 r w hs hpe h
def dovetailkit_Rule.f (a0 : Option Int) : Option Int := some (ruleE a0)
theorem dovetailkit_Rule.calls (ad : Int → Addr) (a0 : Option Int) (r : Int) {tx : TypeId × Value} (w : World) (hs : SentsK ad w) (hg : HandleP w) (hpe : ErrF ad w (errV tx a0) a0) (h : dovetailkit_Rule.f a0 = some r) :
    Calls Tryd.prog 28 #[errV tx a0] w fun e w' => e = .returned (.int .i64 r) ∧ Below w.heap.size w w' := by
  obtain rfl := Option.some.inj h
  obtain ⟨p, hv, hp⟩ := hpe
  have hk := ErrW.kinds hv
  have hc := Rule_w hg hv
  rw [← ruleE_enc hk.1 hk.2.1 hk.2.2.2, ← hp] at hc
  exact hc
end Go.Proofs.YtjkifeladmhkoaaDoor.F
/- Rows that are read and lie in a block of their own, whatever is left behind their end (cut with a capacity, too): the print's movers for them. -/
set_option linter.unusedVariables false
namespace Go.Proofs.YtjkifeladmhkoaaDoor.Kq
open Go.RowKit Go.Proofs.YtjkifeladmhkoaaDoorW.PrintWords

def R {α : Type} (d : Kd α) (e : Nat) (w : World) (base : Nat) (ok : Nat → Prop) (v : Value) (xs : List α) : Prop :=
  (∀ k, v.ownBlock = some k → ok k ∧ base ≤ k ∧ k < w.heap.size ∧ ∃ cells, w.heap[k]? = some (.cells cells e (0, 0))) ∧ (∃ A c, v = .slice A xs.length c ∧ xs.length ≤ c ∧ d.C w A xs.length xs) ∧ (∀ {W W' : World} {x : α} {cs : List Value}, d.K W x cs → d.K W' x cs)
section
variable {α : Type} {d : Kd α} {e : Nat} {w w1 : World} {base base' : Nat} {ok ok' : Nat → Prop} {v : Value} {xs : List α}
theorem R_of (hd : ∀ {W W' : World} {x : α} {cs : List Value}, d.K W x cs → d.K W' x cs) (h : d.R e w base ok v xs) : R d e w base ok v xs :=
  ⟨fun k hk => ⟨h.1 k hk, Kd.R_base h k hk, Kd.R_lt h k hk, by obtain ⟨inner, ho⟩ := Kd.R_own h; exact own_typed ho k hk⟩, Kd.R_reads h, hd⟩
theorem R_step (h : R d e w base ok v xs) (hs : w.heap.size ≤ w1.heap.size) (hm : ∀ k, ok k → k < w.heap.size → w1.heap[k]? = w.heap[k]?) : R d e w1 base ok v xs := by
  obtain ⟨h1, ⟨A, c, hv, hc, hr⟩, hd⟩ := h
  refine ⟨fun k hk => ?_, ⟨A, c, hv, hc, hr.1, hr.2.1, fun hp => ?_⟩, hd⟩
  · obtain ⟨h2, h3, h4, cells, h5⟩ := h1 k hk
    exact ⟨h2, h3, by omega, cells, (hm k h2 h4).trans h5⟩
  · obtain ⟨ad, e1, hx⟩ := hr.2.2 hp
    refine ⟨ad, e1, fun j p hj => ?_⟩
    obtain ⟨cs, h2, h3, h4⟩ := hx j p hj
    refine ⟨cs, h2, hd h3, fun i u hu => ?_⟩
    rw [← h4 i u hu]
    obtain ⟨q1, _, q2, _⟩ := h1 ad.block (by rw [hv, e1]; rfl)
    exact World.cell?_of_block (by rw [add_block]; exact hm ad.block q1 q2)
theorem R_mono (h : R d e w base ok v xs) (hok : ∀ k, ok k → ok' k) : R d e w base ok' v xs := ⟨fun k hk => ⟨hok k (h.1 k hk).1, (h.1 k hk).2⟩, h.2⟩
theorem R_bound (h : R d e w base ok v xs) : R d e w base (fun k => ok k ∧ base ≤ k ∧ k < w.heap.size ∧ ∃ cells, w.heap[k]? = some (.cells cells e (0, 0))) v xs := ⟨fun k hk => ⟨h.1 k hk, (h.1 k hk).2⟩, h.2⟩
theorem R_lower (h : R d e w base ok v xs) (hb : base' ≤ base) : R d e w base' ok v xs := ⟨fun k hk => ⟨(h.1 k hk).1, Nat.le_trans hb (h.1 k hk).2.1, (h.1 k hk).2.2⟩, h.2⟩
theorem R_below (h : R d e w base ok v xs) (hb : Below w.heap.size w w1) : R d e w1 base ok v xs := R_step h hb.size (fun k _ hk => hb.block k hk)
theorem R_alloc (h : R d e w base ok v xs) (o : Obj) : R d e (w.alloc o) base ok v xs := R_below h (below_alloc (Below.refl _ _) o)
theorem R_drew (h : R d e w base ok v xs) : R d e w.drew base ok v xs := R_below h (below_drew (Below.refl _ _))
theorem R_drewN (h : R d e w base ok v xs) (m : Nat) : R d e (w.drewN m) base ok v xs := R_below h (pw_below_drewN (Below.refl _ _) m)
theorem R_far (h : R d e w base ok v xs) {p : Addr} (hok : ∀ k, ok k → k ≠ p.block) (u : Value) : R d e (w.setCell p u) base ok v xs := R_step h (by simp) (fun k ho _ => Below.heap_setCell w p u k (hok k ho))
theorem R_types (h : R d e w base ok v xs) {g t : Nat} {cells : Array Value} (hb : w.heap[g]? = some (.cells cells t (0, 0))) (ht : ∀ q, q ∈ e :: d.E → q ≠ t) : R d e w base (fun k => ok k ∧ k ≠ g) v xs :=
  R_mono (R_bound h) (fun k hk => ⟨hk.1, by
    obtain ⟨_, _, _, cells', hc⟩ := hk
    rintro rfl
    rw [hc] at hb
    injection hb with hb
    injection hb with _ hb
    exact ht e List.mem_cons_self hb⟩)
theorem R_reads' {A : Option Addr} {n c : Nat} (h : R d e w base ok (.slice A n c) xs) : n = xs.length ∧ n ≤ c ∧ d.C w A xs.length xs := by
  obtain ⟨_, ⟨A', c', he, hl, hr⟩, _⟩ := h
  injection he with h1 h2 h3
  subst h1 h2 h3
  exact ⟨rfl, hl, hr⟩
theorem R_slice (h : R d e w base ok v xs) : ∃ A c, v = .slice A xs.length c := by
  obtain ⟨_, ⟨A, c, he, _⟩, _⟩ := h
  exact ⟨A, c, he⟩
theorem R_lt (h : R d e w base ok v xs) : ∀ k, v.ownBlock = some k → k < w.heap.size := fun k hk => (h.1 k hk).2.2.1
theorem R_base (h : R d e w base ok v xs) : ∀ k, v.ownBlock = some k → base ≤ k := fun k hk => (h.1 k hk).2.1
theorem R_nil (hd : ∀ {W W' : World} {x : α} {cs : List Value}, d.K W x cs → d.K W' x cs) (e : Nat) (w : World) (base : Nat) (ok : Nat → Prop) : R d e w base ok (.slice none 0 0) [] := R_of hd (Kd.R_nil _ _ _ _ _)
end
theorem K_int (k : IntKind) {W W' : World} {x : Int} {cs : List Value} (h : (Kd.int k).K W x cs) : (Kd.int k).K W' x cs := h
/-- A row that has been cut with a capacity. -/
theorem R_clip (k : IntKind) (e : Nat) (w : World) (base g c : Nat) (cur : Array Value) (X : List Int) (hc : X.length ≤ c) (hm : X.length ≤ 9223372036854775807) (hb : base ≤ g) (hg : w.heap[g]? = some (.cells cur e (0, 0))) (ht : cur.toList.take X.length = nums k X) : R (Kd.int k) e w base (fun k => k = g) (.slice (some ⟨g, 0, none⟩) X.length c) X := by
  have hlt : g < w.heap.size := (Array.getElem?_eq_some_iff.1 hg).1
  refine ⟨fun q hq => ?_, ⟨_, c, rfl, hc, rfl, hm, fun hp => ⟨_, rfl, fun j p hj => ⟨[.int k p], rfl, rfl, fun i u hu => ?_⟩⟩⟩, K_int k⟩
  · have : g = q := by simpa [Value.ownBlock] using hq
    subst this
    exact ⟨rfl, hb, hlt, cur, hg⟩
  · obtain rfl : i = 0 := by
      rcases i with _ | i
      · rfl
      · simp at hu
    have hu' : u = .int k p := by simpa using hu.symm
    subst hu'
    have hjl := (List.getElem?_eq_some_iff.1 hj).1
    have h1 : (cur.toList.take X.length)[j]? = some (.int k p) := by rw [ht]; simp [nums, hj]
    rw [List.getElem?_take_of_lt hjl] at h1
    show w.cell? ((⟨g, 0, none⟩ : Addr).add (j * 1 + 0)) = _
    rw [add_plain]
    have h2 : cur[j]? = some (.int k p) := by rw [← h1]; simp
    simp [World.cell?, hg, h2]
end Go.Proofs.YtjkifeladmhkoaaDoor.Kq
/- ends.Of, ends.Chain in the print's form: errors told by a number. -/
set_option linter.unusedVariables false
set_option linter.unusedSimpArgs false
namespace Go.Proofs.YtjkifeladmhkoaaDoor.E8
open Go.RowKit Go.Proofs.YtjkifeladmhkoaaDoorW.PrintWords Go.Proofs.YtjkifeladmhkoaaDoorW.PrintLast Go.Proofs.YtjkifeladmhkoaaDoorW.PrintMore
open Go.Proofs.YtjkifeladmhkoaaDoor.B Go.Proofs.YtjkifeladmhkoaaDoor.Es Go.Proofs.YtjkifeladmhkoaaDoor.F

theorem ErrW_far {ad : Int → Addr} {w : World} {v : Value} {p : Int × Int} (h : ErrW ad w v p) {g : Nat} {cs : Array Value} {t : TypeId} (hb : Box g cs t w) (ht : 123 ≠ t) (j : Nat) (u : Value) : ErrW ad (w.setCell ⟨g, j, none⟩ u) v p := by
  rcases h with h | h | ⟨h1, h2, h3, b, hv, hx⟩
  · exact .inl h
  · exact .inr (.inl h)
  · refine .inr (.inr ⟨h1, h2, h3, b, hv, ?_⟩)
    have h' : w.heap[g]? = some (.cells cs t (0, 0)) := hb
    rw [Below.heap_setCell w ⟨g, j, none⟩ u b (fun e => ?_)]
    · exact hx
    · have e' : b = g := e
      rw [e', h'] at hx
      injection hx with hx
      injection hx with _ hx
      exact ht hx.symm
/-- The cells that a contract at the start wants. -/
theorem C0i_start (w : World) (cs : Array Value) (i tm : Int) : Below w.heap.size w (((w.alloc (.cells cs 32)).alloc (.cells #[.int .i64 i] 3)).alloc (.cells #[.int .i64 tm] 3)) :=
  (((Below.refl _ w).alloc (Nat.le_refl _) _).alloc (by simp) _).alloc (by simp; omega) _
set_option maxHeartbeats 4000000 in
set_option maxRecDepth 100000 in
theorem Chain_bad (ad : Int → Addr) (p : Int × Int) (hp : p.1 ≠ 0) (A0 : Option Addr) (n0 c0 : Nat) (A1 : Option Addr) (n1 c1 : Nat) (a2 : Int) (A3 : Option Addr) (n3 c3 : Nat) (i tm : Int) (r : Bool) (w : World)
    (hC : ∀ W, Below w.heap.size w W → Calls Tryd.prog 52 #[.agg #[.slice A0 n0 c0, .slice A1 n1 c1, .int .i64 a2, .slice A3 n3 c3]] W fun e w' => (∃ v, e = .returned v ∧ ErrW ad w' v p) ∧ Below W.heap.size W w') :
    Calls Tryd.prog 15 #[.agg #[.slice A0 n0 c0, .slice A1 n1 c1, .int .i64 a2, .slice A3 n3 c3], .int .i64 i, .int .i64 tm, .bool r] w fun e w' => ∃ t u, e = .returned (.tuple #[.slice none 0 0, .iface t u]) ∧ ErrW ad w' (.iface t u) p ∧ Below w.heap.size w w' := by
  have hb0 := C0i_start w #[.slice A0 n0 c0, .slice A1 n1 c1, .int .i64 a2, .slice A3 n3 c3] i tm
  have KC : Aside0 (Calls Tryd.prog 52 #[.agg #[.slice A0 n0 c0, .slice A1 n1 c1, .int .i64 a2, .slice A3 n3 c3]] _ fun e w' => ∃ t u, e = .returned (.iface t u) ∧ Aside0 (ErrW ad w' (.iface t u) p ∧ Below w.heap.size w w')) := ⟨(hC _ hb0).mono fun e w' ⟨⟨v, he, hv⟩, hb⟩ => by
    obtain ⟨t, u, rfl⟩ := hv.any hp
    exact ⟨t, u, he, ⟨hv, hb0.trans (hb.mono hb0.size)⟩⟩⟩
  clear hC hb0
  go_enter Tryd.func15, Tryd.ntmps15
  go_wp2
  go_step3
  go_wp2_with (first
    | (go_at_call 52; (with_reducible refine KC.out.mono ?_); rintro e w1 ⟨t, u, rfl, t1⟩))
  (try rw [Exit.noGoto_ret])
  refine bodyPost_ret (v := .tuple #[.slice none 0 0, .iface t u]) (by simp [results, Tryd.results15, go_sem]) rfl ⟨t, u, rfl, t1.out.1, t1.out.2⟩
set_option maxHeartbeats 8000000 in
set_option maxRecDepth 100000 in
theorem Chain_arg (E1 : Value) (A0 : Option Addr) (n0 c0 : Nat) (A1 : Option Addr) (n1 c1 : Nat) (a2 : Int) (A3 : Option Addr) (n3 c3 : Nat) (i tm : Int) (r : Bool) (w : World) (h1 : w.cell? ⟨0, 0, none⟩ = some E1) (h0 : n0 ≤ 60) (h1' : n1 ≤ 60)
    (hC : ∀ W, Below w.heap.size w W → Calls Tryd.prog 52 #[.agg #[.slice A0 n0 c0, .slice A1 n1 c1, .int .i64 a2, .slice A3 n3 c3]] W fun e w' => e = .returned .nilIface ∧ Below W.heap.size W w')
    (ho : i < 0 ∨ (n1 : Int) ≤ i ∨ tm < 0 ∨ (n0 : Int) ≤ tm) :
    Calls Tryd.prog 15 #[.agg #[.slice A0 n0 c0, .slice A1 n1 c1, .int .i64 a2, .slice A3 n3 c3], .int .i64 i, .int .i64 tm, .bool r] w fun e w' => e = .returned (.tuple #[.slice none 0 0, E1]) ∧ Below w.heap.size w w' := by
  have hb0 := C0i_start w #[.slice A0 n0 c0, .slice A1 n1 c1, .int .i64 a2, .slice A3 n3 c3] i tm
  have hx0 := ((Box.new w #[.slice A0 n0 c0, .slice A1 n1 c1, .int .i64 a2, .slice A3 n3 c3] 32).alloc (.cells #[.int .i64 i] 3)).alloc (.cells #[.int .i64 tm] 3)
  have hx1 : Box (w.heap.size + 1) #[.int .i64 i] 3 (((w.alloc (.cells #[.slice A0 n0 c0, .slice A1 n1 c1, .int .i64 a2, .slice A3 n3 c3] 32)).alloc (.cells #[.int .i64 i] 3)).alloc (.cells #[.int .i64 tm] 3)) := by
    have := (Box.new (w.alloc (.cells #[.slice A0 n0 c0, .slice A1 n1 c1, .int .i64 a2, .slice A3 n3 c3] 32)) #[.int .i64 i] 3).alloc (.cells #[.int .i64 tm] 3)
    simpa using this
  have hx2 : Box (w.heap.size + 2) #[.int .i64 tm] 3 (((w.alloc (.cells #[.slice A0 n0 c0, .slice A1 n1 c1, .int .i64 a2, .slice A3 n3 c3] 32)).alloc (.cells #[.int .i64 i] 3)).alloc (.cells #[.int .i64 tm] 3)) := by
    have := Box.new ((w.alloc (.cells #[.slice A0 n0 c0, .slice A1 n1 c1, .int .i64 a2, .slice A3 n3 c3] 32)).alloc (.cells #[.int .i64 i] 3)) #[.int .i64 tm] 3
    simpa using this
  have KC : Aside0 (Calls Tryd.prog 52 #[.agg #[.slice A0 n0 c0, .slice A1 n1 c1, .int .i64 a2, .slice A3 n3 c3]] _ fun e w' => e = .returned .nilIface ∧ Aside0 (Below w.heap.size w w') ∧ w'.cell? ⟨w.heap.size, 0, none⟩ = some (.slice A0 n0 c0) ∧ w'.cell? ⟨w.heap.size, 1, none⟩ = some (.slice A1 n1 c1) ∧ w'.cell? ⟨w.heap.size + 1, 0, none⟩ = some (.int .i64 i) ∧ w'.cell? ⟨w.heap.size + 2, 0, none⟩ = some (.int .i64 tm) ∧ w'.cell? ⟨0, 0, none⟩ = some E1) := ⟨(hC _ hb0).mono fun e w' ⟨he, hb⟩ =>
    ⟨he, ⟨hb0.trans (hb.mono hb0.size)⟩, (hx0.below hb).cell 0 _ rfl, (hx0.below hb).cell 1 _ rfl, (hx1.below hb).cell 0 _ rfl, (hx2.below hb).cell 0 _ rfl, ((hb0.trans (hb.mono hb0.size)).cell (World.block_lt_of_cell? w _ h1)).trans h1⟩⟩
  clear hC hb0 hx0 hx1 hx2
  have hcase : (i < 0) ∨ (¬ i < 0 ∧ (n1 : Int) ≤ i) ∨ (¬ i < 0 ∧ ¬ (n1 : Int) ≤ i ∧ tm < 0) ∨ (¬ i < 0 ∧ ¬ (n1 : Int) ≤ i ∧ ¬ tm < 0 ∧ (n0 : Int) ≤ tm) := by omega
  have H0 := Lib.hid h0
  have H1 := Lib.hid h1'
  clear ho
  rcases hcase with a1 | ⟨a1, a3⟩ | ⟨a1, a3, a4⟩ | ⟨a1, a3, a4, a5⟩
  · have d1 := decide_eq_true a1
    have HA := Lib.hid a1
    clear a1
    go_enter Tryd.func15, Tryd.ntmps15
    go_wp2
    go_step3
    go_wp2_with (go_at_call 52; (with_reducible refine KC.out.mono ?_); rintro e w1 ⟨rfl, t1, f0, f1, f2, f3, f4⟩)
    go_quiet (fail)
    go_wp2_with fail
    (try rw [Exit.noGoto_ret])
    exact bodyPost_ret (v := .tuple #[.slice none 0 0, E1]) (by simp [results, Tryd.results15, go_sem]) rfl ⟨rfl, pw_below_drewN t1.out _⟩
  · have d1 := decide_eq_false a1
    have d2 := decide_eq_true a3
    have HA := Lib.hid a1
    have HB := Lib.hid a3
    clear a1 a3
    go_enter Tryd.func15, Tryd.ntmps15
    go_wp2
    go_step3
    go_wp2_with (go_at_call 52; (with_reducible refine KC.out.mono ?_); rintro e w1 ⟨rfl, t1, f0, f1, f2, f3, f4⟩)
    go_quiet (fail)
    go_wp2_with fail
    (try rw [Exit.noGoto_ret])
    exact bodyPost_ret (v := .tuple #[.slice none 0 0, E1]) (by simp [results, Tryd.results15, go_sem]) rfl ⟨rfl, pw_below_drewN t1.out _⟩
  · have d1 := decide_eq_false a1
    have d2 := decide_eq_false a3
    have d3 := decide_eq_true a4
    have HA := Lib.hid a1
    have HB := Lib.hid a3
    have HC := Lib.hid a4
    clear a1 a3 a4
    go_enter Tryd.func15, Tryd.ntmps15
    go_wp2
    go_step3
    go_wp2_with (go_at_call 52; (with_reducible refine KC.out.mono ?_); rintro e w1 ⟨rfl, t1, f0, f1, f2, f3, f4⟩)
    go_quiet (fail)
    go_wp2_with fail
    (try rw [Exit.noGoto_ret])
    exact bodyPost_ret (v := .tuple #[.slice none 0 0, E1]) (by simp [results, Tryd.results15, go_sem]) rfl ⟨rfl, pw_below_drewN t1.out _⟩
  · have d1 := decide_eq_false a1
    have d2 := decide_eq_false a3
    have d3 := decide_eq_false a4
    have d4 := decide_eq_true a5
    have HA := Lib.hid a1
    have HB := Lib.hid a3
    have HC := Lib.hid a4
    have HD := Lib.hid a5
    clear a1 a3 a4 a5
    go_enter Tryd.func15, Tryd.ntmps15
    go_wp2
    go_step3
    go_wp2_with (go_at_call 52; (with_reducible refine KC.out.mono ?_); rintro e w1 ⟨rfl, t1, f0, f1, f2, f3, f4⟩)
    go_quiet (fail)
    go_wp2_with fail
    (try rw [Exit.noGoto_ret])
    exact bodyPost_ret (v := .tuple #[.slice none 0 0, E1]) (by simp [results, Tryd.results15, go_sem]) rfl ⟨rfl, pw_below_drewN t1.out _⟩
set_option maxHeartbeats 4000000 in
set_option maxRecDepth 100000 in
theorem Of_err (ad : Int → Addr) (p : Int × Int) (hp : p.1 ≠ 0) (A0 : Option Addr) (n0 c0 : Nat) (A1 : Option Addr) (n1 c1 : Nat) (a2 : Int) (A3 : Option Addr) (n3 c3 : Nat) (w : World)
    (hC : ∀ W, Below w.heap.size w W → Calls Tryd.prog 52 #[.agg #[.slice A0 n0 c0, .slice A1 n1 c1, .int .i64 a2, .slice A3 n3 c3]] W fun e w' => (∃ v, e = .returned v ∧ ErrW ad w' v p) ∧ Below W.heap.size W w') :
    Calls Tryd.prog 17 #[.agg #[.slice A0 n0 c0, .slice A1 n1 c1, .int .i64 a2, .slice A3 n3 c3]] w fun e w' => ∃ t u, e = .returned (.tuple #[.agg #[.slice none 0 0, .slice none 0 0], .iface t u]) ∧ ErrW ad w' (.iface t u) p ∧ Below w.heap.size w w' := by
  obtain ⟨cs, hcs⟩ : ∃ cs : Array Value, cs = #[.slice A0 n0 c0, .slice A1 n1 c1, .int .i64 a2, .slice A3 n3 c3] := ⟨_, rfl⟩
  have CE : ∀ W, GO w cs W → CO w (.slice A0 n0 c0) (.slice A1 n1 c1) (.int .i64 a2) (.slice A3 n3 c3) W := by
    intro W hW; subst hcs; exact hW.cells
  have st : GO w cs ((w.alloc (.cells #[.slice A0 n0 c0, .slice A1 n1 c1, .int .i64 a2, .slice A3 n3 c3] 32)).alloc (.cells #[.slice none 0 0, .slice none 0 0] 36)) := by subst hcs; exact GO.start w _
  have kC : ∀ W, GO w cs W → Calls Tryd.prog 52 #[.agg #[.slice A0 n0 c0, .slice A1 n1 c1, .int .i64 a2, .slice A3 n3 c3]] W fun e w' => ∃ t u, e = .returned (.iface t u) ∧ Aside0 (GO w cs w' ∧ ErrW ad w' (.iface t u) p) := fun W hW => (hC W hW.low).mono fun e w' ⟨⟨v, he, hv⟩, hb⟩ => by
    obtain ⟨t, u, rfl⟩ := hv.any hp
    exact ⟨t, u, he, ⟨hW.more hb, hv⟩⟩
  have ST := Aside0.mk st
  have CE' := Aside0.mk CE
  have HCS := Lib.hid hcs
  have KC := Aside0.mk kC
  clear st CE hcs kC hC
  go_enter Tryd.func17, Tryd.ntmps17
  go_wp2_with (first
    | (go_at_call 52; (with_reducible refine (KC.out _ ST.out).mono ?_); rintro e w1 ⟨te, ue, rfl, t1⟩; obtain ⟨f0, f1, f2, f3, f4, f5, f6, f7⟩ := CE'.out _ t1.out.1))
  have hb := t1.out.1.low
  have hx : Box (w.heap.size + 1) #[.slice none 0 0, .slice none 0 0] 36 w1 := t1.out.1.2.2
  have hE1 := ErrW_far t1.out.2 hx (by decide) 0 (.slice none 0 0)
  have hx2 : Box (w.heap.size + 1) #[.slice none 0 0, .slice none 0 0] 36 (w1.setCell ⟨w.heap.size + 1, 0, none⟩ (.slice none 0 0)) := by
    have := blk_put (w := w1) (g := w.heap.size + 1) (cs := #[.slice none 0 0, .slice none 0 0]) (t := 36) hx 0 (.slice none 0 0) rfl
    exact this
  have hE2 := ErrW_far hE1 hx2 (by decide) 1 (.slice none 0 0)
  exact bodyPost_ret (v := .tuple #[.agg #[.slice none 0 0, .slice none 0 0], .iface te ue]) (by simp [results, Tryd.results17, go_sem, f4, f5]) rfl ⟨te, ue, rfl, hE2, (hb.setCell (p := ⟨w.heap.size + 1, 0, none⟩) (by dsimp only; omega) _).setCell (p := ⟨w.heap.size + 1, 1, none⟩) (by dsimp only; omega) _⟩

/-- The sets that ends.sets comes to. -/
noncomputable def endsS (l0 l1 : List ByteArray) (a2 : Int) (R : List S41) (a : Int) : List Int := open Classical in if h : ∃ S, ∃ k, ends_sets.f k l0 l1 a2 R a = some S then Classical.choose h else []
theorem endsS_is {l0 l1 : List ByteArray} {a2 : Int} {R : List S41} {a : Int} {k : Nat} {S : List Int} (h : ends_sets.f k l0 l1 a2 R a = some S) : endsS l0 l1 a2 R a = S := by
  have hex : ∃ S, ∃ k, ends_sets.f k l0 l1 a2 R a = some S := ⟨S, k, h⟩
  unfold endsS
  rw [dif_pos hex]
  obtain ⟨k', h'⟩ := Classical.choose_spec hex
  have e1 := at_rounds (g := fun k => ends_sets.f k l0 l1 a2 R a) (fun k => ends_sets.mono _ _ _ _ _ k) (Nat.le_max_left k k') h
  have e2 := at_rounds (g := fun k => ends_sets.f k l0 l1 a2 R a) (fun k => ends_sets.mono _ _ _ _ _ k) (Nat.le_max_right k k') h'
  exact Option.some.inj (e2.symm.trans e1)
/-- What Check tells. -/
def chkG (l0 l1 : List ByteArray) (a2 : Int) (R : List S41) : Int × Int := chk (namesOK l0) (namesOK l1) l0.length l1.length a2 R
noncomputable def ends_Of.f (l0 l1 : List ByteArray) (a2 : Int) (R : List S41) : Option (List Int × List Int × Option Int) :=
  some (if (chkG l0 l1 a2 R).1 = 0 then (endsS l0 l1 a2 R 0, endsS l0 l1 a2 R 1, none) else ([], [], encE (chkG l0 l1 a2 R)))
/-- The chain, or what is wrong. -/
def chainG (l0 l1 : List ByteArray) (a2 : Int) (R : List S41) (i tm : Int) (r : Bool) : List Int × Option Int :=
  if (chkG l0 l1 a2 R).1 = 0 then
    if i < 0 ∨ (l1.length : Int) ≤ i ∨ tm < 0 ∨ (l0.length : Int) ≤ tm then ([], encE (1, -1)) else
    if (farF r tm.toNat l1.length R).getD i.toNat 0 = 0 then ([], encE (15, -1)) else
    (walkC r tm.toNat (farF r tm.toNat l1.length R) R ((farF r tm.toNat l1.length R).getD i.toNat 0).toNat i.toNat, none)
  else ([], encE (chkG l0 l1 a2 R))
def ends_Chain.f (l0 l1 : List ByteArray) (a2 : Int) (R : List S41) (i tm : Int) (r : Bool) : Option (List Int × Option Int) := some (chainG l0 l1 a2 R i tm r)
theorem encE_ne {p : Int × Int} (h : p.1 ≠ 0) : ∃ c, encE p = some c := ⟨_, if_neg h⟩
theorem ends_Of.calls (ad : Int → Addr) (A0 : Option Addr) (c0 : Nat) (l0 : List ByteArray) (A1 : Option Addr) (c1 : Nat) (l1 : List ByteArray) (a2 : Int) (A3 : Option Addr) (c3 : Nat) (l3 : List S41) (r1 r2 : List Int) (r3 : Option Int) (w : World) (hs : SentsK ad w) (hr0 : Kd.C Kd.string w A0 l0.length l0) (hc0 : l0.length ≤ c0) (hr1 : Kd.C Kd.string w A1 l1.length l1) (hc1 : l1.length ≤ c1) (hr3 : Kd.C k41 w A3 l3.length l3) (hc3 : l3.length ≤ c3) (h : ends_Of.f l0 l1 a2 l3 = some (r1, r2, r3)) :
    Calls Tryd.prog 17 #[.agg #[.slice A0 l0.length c0, .slice A1 l1.length c1, .int .i64 a2, .slice A3 l3.length c3]] w fun e w' => ∃ v0 v1 tx, e = .returned (.tuple #[.agg #[v0, v1], errV tx r3]) ∧ Kq.R (Kd.int .u64) 45 w' w.heap.size (fun k => w.heap.size ≤ k ∧ some k ≠ v1.ownBlock) v0 r1 ∧ Kq.R (Kd.int .u64) 45 w' w.heap.size (fun k => w.heap.size ≤ k ∧ some k ≠ v0.ownBlock) v1 r2 ∧ ErrF ad w' (errV tx r3) r3 ∧ Below w.heap.size w w' := by
  have h' := Option.some.inj h
  have kC := fun W (hb : Below w.heap.size w W) => Check_any ad A0 c0 l0 A1 c1 l1 a2 A3 c3 l3 W (hs.below hb) (Kd.C_below hr0 hb) hc0 (Kd.C_below hr1 hb) hc1 (Kd.C_below hr3 hb) hc3
  by_cases hp : (chkG l0 l1 a2 l3).1 = 0
  · rw [if_pos hp] at h'
    obtain ⟨q1, q2, q3, q4, q5, q6, q7⟩ := chk_ok hp
    obtain ⟨k1, S1, e1, _⟩ := Sets_ev l0.length 0 l0 l1 a2 l3 (by omega) (by omega) q7 q2
    obtain ⟨k2, S2, e2, _⟩ := Sets_ev l0.length 1 l0 l1 a2 l3 (by omega) (by omega) q7 q2
    rw [endsS_is e1, endsS_is e2] at h'
    injection h' with h1 h2
    injection h2 with h2 h3
    subst h1 h2 h3
    have f1 := at_rounds (g := fun k => ends_sets.f k l0 l1 a2 l3 0) (fun k => ends_sets.mono _ _ _ _ _ k) (Nat.le_max_left k1 k2) e1
    have f2 := at_rounds (g := fun k => ends_sets.f k l0 l1 a2 l3 1) (fun k => ends_sets.mono _ _ _ _ _ k) (Nat.le_max_right k1 k2) e2
    refine (Of_ok (fun _ => ⟨0, 0, none⟩) A0 c0 l0 A1 c1 l1 a2 A3 c3 l3 _ S1 S2 w hr0 hc0 hr1 hc1 hr3 hc3 (fun W hb => (kC W hb).mono fun e w' ⟨⟨v, he, hv⟩, hb'⟩ => ⟨by rw [he, hv.nil hp], hb'⟩) f1 f2).mono ?_
    rintro e w' ⟨v0, v1, rfl, R0, R1, hap, hb⟩
    refine ⟨v0, v1, (0, .nilIface), rfl, Kq.R_mono (Kq.R_bound (Kq.R_of (fun h => h) (Kd.R_of_own (enc := Value.int .u64) (h1 := fun _ => rfl) (ok := fun k => v0.ownBlock = some k) (Kd.own_of_R R0) (fun k hk => hk)))) (fun k hk => ⟨hk.2.1, fun e => ?_⟩), Kq.R_mono (Kq.R_bound (Kq.R_of (fun h => h) (Kd.R_of_own (enc := Value.int .u64) (h1 := fun _ => rfl) (ok := fun k => v1.ownBlock = some k) (Kd.own_of_R R1) (fun k hk => hk)))) (fun k hk => ⟨hk.2.1, fun e => ?_⟩), ⟨(0, -1), .inl ⟨rfl, rfl, rfl⟩, rfl⟩, hb⟩
    · rcases hap with h0 | h0
      · rw [hk.1] at h0; cases h0
      · exact h0 (hk.1.trans e)
    · rcases hap with h0 | h0
      · rw [h0] at e; cases e
      · exact h0 (e.symm.trans hk.1.symm)
  · rw [if_neg hp] at h'
    injection h' with h1 h2
    injection h2 with h2 h3
    subst h1 h2
    refine (Of_err ad (chkG l0 l1 a2 l3) hp A0 l0.length c0 A1 l1.length c1 a2 A3 l3.length c3 w (fun W hb => (kC W hb).mono fun e w' ⟨⟨v, he, hv⟩, hb'⟩ => ⟨⟨v, he, ErrW.of hv⟩, hb'⟩)).mono ?_
    rintro e w' ⟨t, u, rfl, hE, hb⟩
    obtain ⟨c, hc⟩ := encE_ne hp
    rw [hc] at h3
    subst h3
    exact ⟨_, _, (t, u), rfl, Kq.R_nil (fun h => h) _ _ _ _, Kq.R_nil (fun h => h) _ _ _ _, ⟨_, hE, hc.symm⟩, hb⟩
theorem ends_Chain.calls (ad : Int → Addr) (A0 : Option Addr) (c0 : Nat) (l0 : List ByteArray) (A1 : Option Addr) (c1 : Nat) (l1 : List ByteArray) (a2 : Int) (A3 : Option Addr) (c3 : Nat) (l3 : List S41) (i tm : Int) (r : Bool) (r1 : List Int) (r2 : Option Int) (w : World) (hs : SentsK ad w) (hr0 : Kd.C Kd.string w A0 l0.length l0) (hc0 : l0.length ≤ c0) (hr1 : Kd.C Kd.string w A1 l1.length l1) (hc1 : l1.length ≤ c1) (hr3 : Kd.C k41 w A3 l3.length l3) (hc3 : l3.length ≤ c3) (h : ends_Chain.f l0 l1 a2 l3 i tm r = some (r1, r2)) :
    Calls Tryd.prog 15 #[.agg #[.slice A0 l0.length c0, .slice A1 l1.length c1, .int .i64 a2, .slice A3 l3.length c3], .int .i64 i, .int .i64 tm, .bool r] w fun e w' => ∃ v0 tx, e = .returned (.tuple #[v0, errV tx r2]) ∧ Kq.R (Kd.int .i64) 3 w' w.heap.size (fun k => w.heap.size ≤ k) v0 r1 ∧ ErrF ad w' (errV tx r2) r2 ∧ Below w.heap.size w w' := by
  have h' := Option.some.inj h
  have kC := fun W (hb : Below w.heap.size w W) => Check_any ad A0 c0 l0 A1 c1 l1 a2 A3 c3 l3 W (hs.below hb) (Kd.C_below hr0 hb) hc0 (Kd.C_below hr1 hb) hc1 (Kd.C_below hr3 hb) hc3
  unfold chainG at h'
  by_cases hp : (chkG l0 l1 a2 l3).1 = 0
  · rw [if_pos hp] at h'
    obtain ⟨q1, q2, q3, q4, q5, q6, q7⟩ := chk_ok hp
    have kC0 : ∀ W, Below w.heap.size w W → Calls Tryd.prog 52 #[.agg #[.slice A0 l0.length c0, .slice A1 l1.length c1, .int .i64 a2, .slice A3 l3.length c3]] W fun e w' => e = .returned .nilIface ∧ Below W.heap.size W w' := fun W hb => (kC W hb).mono fun e w' ⟨⟨v, he, hv⟩, hb'⟩ => ⟨by rw [he, hv.nil hp], hb'⟩
    by_cases ho : i < 0 ∨ (l1.length : Int) ≤ i ∨ tm < 0 ∨ (l0.length : Int) ≤ tm
    · rw [if_pos ho] at h'
      injection h' with h1 h2
      subst h1 h2
      refine (Chain_arg _ A0 l0.length c0 A1 l1.length c1 a2 A3 l3.length c3 i tm r w (SentsK.arg hs) (by omega) (by omega) kC0 ho).mono ?_
      rintro e w' ⟨rfl, hb⟩
      exact ⟨_, (190, .pointer (some (ad 1))), rfl, Kq.R_nil (fun h => h) _ _ _ _, ⟨(1, -1), ErrW.sent (by decide) (by decide), rfl⟩, hb⟩
    · rw [if_neg ho] at h'
      obtain ⟨i, rfl⟩ : ∃ n : Nat, i = n := ⟨i.toNat, by omega⟩
      obtain ⟨tm, rfl⟩ : ∃ n : Nat, tm = n := ⟨tm.toNat, by omega⟩
      rw [Int.toNat_natCast, Int.toNat_natCast] at h'
      refine (Chain_ok _ A0 c0 l0 A1 c1 l1 a2 A3 c3 l3 r i tm w hr3 hc3 (SentsK.none_ hs) kC0 q7 (by omega) (by omega) q2 (by omega) (by omega)).mono ?_
      rintro e w' ⟨hb, ⟨hz, rfl⟩ | ⟨hz, g, n, cur, rfl, rfl, hg, hh, ht⟩⟩
      · rw [if_pos hz] at h'
        injection h' with h1 h2
        subst h1 h2
        exact ⟨_, (190, .pointer (some (ad 15))), rfl, Kq.R_nil (fun h => h) _ _ _ _, ⟨(15, -1), ErrW.sent (by decide) (by decide), rfl⟩, hb⟩
      · rw [if_neg hz] at h'
        injection h' with h1 h2
        subst h2
        rw [h1] at ht ⊢
        have hF := (farF_far (r := r) (tm := tm) q7).rng i (by omega)
        have hle : r1.length ≤ 60 := by
          have hW := (walkC_ch (farF_far (r := r) (tm := tm) q7) q7 (((farF r tm l1.length l3).getD i 0).toNat - 1) i (by omega) (by omega)).2
          rw [show ((farF r tm l1.length l3).getD i 0).toNat - 1 + 1 = ((farF r tm l1.length l3).getD i 0).toNat from by omega, h1] at hW
          omega
        exact ⟨_, (0, .nilIface), rfl, Kq.R_mono (Kq.R_clip .i64 3 w' w.heap.size g _ cur r1 (Nat.le_refl _) (by omega) hg hh ht) (fun k hk => by rw [hk]; exact hg), ⟨(0, -1), .inl ⟨rfl, rfl, rfl⟩, rfl⟩, hb⟩
  · rw [if_neg hp] at h'
    injection h' with h1 h2
    subst h1
    refine (Chain_bad ad (chkG l0 l1 a2 l3) hp A0 l0.length c0 A1 l1.length c1 a2 A3 l3.length c3 i tm r w (fun W hb => (kC W hb).mono fun e w' ⟨⟨v, he, hv⟩, hb'⟩ => ⟨⟨v, he, ErrW.of hv⟩, hb'⟩)).mono ?_
    rintro e w' ⟨t, u, rfl, hE, hb⟩
    obtain ⟨c, hc⟩ := encE_ne hp
    rw [hc] at h2
    subst h2
    exact ⟨_, (t, u), rfl, Kq.R_nil (fun h => h) _ _ _ _, ⟨_, hE, hc.symm⟩, hb⟩
end Go.Proofs.YtjkifeladmhkoaaDoor.E8
/- Where two grammars' boxes lie; rows of sets that calls have made, pairwise apart. -/
set_option linter.unusedVariables false
set_option linter.unusedSimpArgs false
namespace Go.Proofs.YtjkifeladmhkoaaDoor.St
open Go.RowKit Go.Proofs.YtjkifeladmhkoaaDoorW.PrintWords Go.Proofs.YtjkifeladmhkoaaDoorW.PrintLast Go.Proofs.YtjkifeladmhkoaaDoorW.PrintMore
open Go.Proofs.YtjkifeladmhkoaaDoor.B Go.Proofs.YtjkifeladmhkoaaDoor.AP Go.Proofs.YtjkifeladmhkoaaDoor.E8 Go.Proofs.YtjkifeladmhkoaaDoor.F Go.Proofs.YtjkifeladmhkoaaDoor.Es Go.Proofs.YtjkifeladmhkoaaDoor.Er

theorem KSets_l (l : List Int) (hm : l.length ≤ 9223372036854775807) : ∀ (d i k : Nat), l.length - i = d → i ≤ l.length → d < k → dovetailkit_Sets.l0 k l l (i : Int) = some true := by
  intro d
  induction d with
  | zero =>
    intro i k hi hle hk
    obtain ⟨k, rfl⟩ : ∃ j, k = j + 1 := ⟨k - 1, by omega⟩
    rw [dovetailkit_Sets.l0, if_neg (by omega)]
  | succ d ih =>
    intro i k hi hle hk
    obtain ⟨k, rfl⟩ : ∃ j, k = j + 1 := ⟨k - 1, by omega⟩
    rw [dovetailkit_Sets.l0, if_pos (by omega), if_pos (by omega), if_pos (by omega), if_pos rfl, w64 i (by omega), ih (i + 1) k (by omega) (by omega) (by omega)]
theorem KSets_f (l : List Int) (hm : l.length ≤ 9223372036854775807) (k : Nat) (hk : l.length < k) : dovetailkit_Sets.f k l l = some true := by
  unfold dovetailkit_Sets.f
  rw [if_pos rfl]
  exact KSets_l l hm l.length 0 k (by omega) (by omega) hk
def GW (w : World) (cs : Array Value) (W : World) : Prop := Below w.heap.size w W ∧ Box w.heap.size cs 32 W
theorem GW.start (w : World) (cs : Array Value) : GW w cs (w.alloc (.cells cs 32)) := ⟨(Below.refl _ w).alloc (Nat.le_refl _) _, Box.new w _ _⟩
theorem GW.low {w : World} {cs : Array Value} {W : World} (h : GW w cs W) : Below w.heap.size w W := h.1
theorem GW.more {w : World} {cs : Array Value} {W W' : World} (h : GW w cs W) (hb : Below W.heap.size W W') : GW w cs W' := ⟨h.1.trans (hb.mono h.1.size), h.2.below hb⟩
/-- The two grammars' boxes lie. -/
def TN (w w1 : World) (cs bs : Array Value) (W : World) : Prop := Below w.heap.size w W ∧ Below w1.heap.size w1 W ∧ Box w.heap.size cs 32 W ∧ Box w1.heap.size bs 32 W
theorem TN.low {w w1 : World} {cs bs : Array Value} {W : World} (h : TN w w1 cs bs W) : Below w.heap.size w W := h.1
theorem TN.low1 {w w1 : World} {cs bs : Array Value} {W : World} (h : TN w w1 cs bs W) : Below w1.heap.size w1 W := h.2.1
theorem Box.in_ {b : Nat} {cs : Array Value} {t : TypeId} {W : World} (h : Box b cs t W) : b < W.heap.size := by
  have h2 : W.heap[b]? = some (.cells cs t (0, 0)) := h
  rcases Nat.lt_or_ge b W.heap.size with h1 | h1
  · exact h1
  · rw [Array.getElem?_eq_none h1] at h2; cases h2
theorem TN.base {w w1 : World} {cs bs : Array Value} {W W' : World} (h : TN w w1 cs bs W) (base : Nat) (hb : Below base W W') (h0 : w.heap.size < base) (h1 : w1.heap.size < base) (hbW : base ≤ W.heap.size) : TN w w1 cs bs W' :=
  ⟨h.1.trans (hb.mono (by omega)), h.2.1.trans (hb.mono (by omega)), (hb.block _ h0).trans h.2.2.1, (hb.block _ h1).trans h.2.2.2⟩
theorem TN.more {w w1 : World} {cs bs : Array Value} {W W' : World} (h : TN w w1 cs bs W) (hb : Below W.heap.size W W') : TN w w1 cs bs W' := h.base W.heap.size hb (Box.in_ h.2.2.1) (Box.in_ h.2.2.2) (Nat.le_refl _)
theorem TN.cells {w w1 : World} {v0 v1 v2 v3 u0 u1 u2 u3 : Value} {W : World} (h : TN w w1 #[v0, v1, v2, v3] #[u0, u1, u2, u3] W) : (W.cell? ⟨w.heap.size, 0, none⟩ = some v0 ∧ W.cell? ⟨w.heap.size, 1, none⟩ = some v1 ∧ W.cell? ⟨w.heap.size, 2, none⟩ = some v2 ∧ W.cell? ⟨w.heap.size, 3, none⟩ = some v3) ∧
    W.cell? ⟨w1.heap.size, 0, none⟩ = some u0 ∧ W.cell? ⟨w1.heap.size, 1, none⟩ = some u1 ∧ W.cell? ⟨w1.heap.size, 2, none⟩ = some u2 ∧ W.cell? ⟨w1.heap.size, 3, none⟩ = some u3 :=
  ⟨⟨h.2.2.1.cell 0 _ rfl, h.2.2.1.cell 1 _ rfl, h.2.2.1.cell 2 _ rfl, h.2.2.1.cell 3 _ rfl⟩, h.2.2.2.cell 0 _ rfl, h.2.2.2.cell 1 _ rfl, h.2.2.2.cell 2 _ rfl, h.2.2.2.cell 3 _ rfl⟩
/-- A call's contract, said of every world in which the boxes lie. -/
abbrev LaterT (w w1 : World) (cs bs : Array Value) (F : Nat) (args : Array Value) (v : Value) : Prop := ∀ (W : World), TN w w1 cs bs W → Calls Tryd.prog F args W fun e w' => e = .returned v ∧ Aside0 (TN w w1 cs bs w')
theorem LaterT.of {w w1 : World} {cs bs : Array Value} {F : Nat} {args : Array Value} {v : Value} (h : ∀ (W : World), TN w w1 cs bs W → Calls Tryd.prog F args W fun e w' => e = .returned v ∧ Below W.heap.size W w') : LaterT w w1 cs bs F args v :=
  fun W hW => (h W hW).mono fun _ _ ⟨he, hb⟩ => ⟨he, ⟨hW.more hb⟩⟩

theorem lit4_All (W : World) (b : Nat) (t : TypeId) (x y z u : OneV) (h : W.heap[b]? = some (.cells #[x.1, y.1, z.1, u.1] t (0, 0))) : All (some ⟨b, 0, none⟩) [x, y, z, u] W := by
  have h0 : Box b #[x.1, y.1, z.1, u.1] t W := h
  refine ⟨rfl, by simp, fun _ => ⟨⟨b, 0, none⟩, rfl, fun j p hj => ⟨[p.1], rfl, rfl, fun i v hi => ?_⟩⟩⟩
  obtain rfl : i = 0 := by
    rcases i with _ | i
    · rfl
    · simp at hi
  simp at hi
  subst hi
  rw [Addr.add_lit]
  match j, hj with
  | 0, hj => simp at hj; subst hj; exact h0.cell 0 _ rfl
  | 1, hj => simp at hj; subst hj; exact h0.cell 1 _ rfl
  | 2, hj => simp at hj; subst hj; exact h0.cell 2 _ rfl
  | 3, hj => simp at hj; subst hj; exact h0.cell 3 _ rfl
  | j + 4, hj => simp at hj
/-- Two rows of sets that one call made: apart, and between the two standings. -/
def Pair (lo hi : Nat) (u v : OneV) (X Y : List Int) (W : World) : Prop :=
  Kd.R (Kd.int .u64) 45 W lo (fun k => (lo ≤ k ∧ k < hi) ∧ some k ≠ v.1.ownBlock) u.1 X ∧ Kd.R (Kd.int .u64) 45 W lo (fun k => (lo ≤ k ∧ k < hi) ∧ some k ≠ u.1.ownBlock) v.1 Y
theorem Pair.below {lo hi : Nat} {u v : OneV} {X Y : List Int} {W W' : World} (h : Pair lo hi u v X Y W) (hb : Below W.heap.size W W') : Pair lo hi u v X Y W' := ⟨Kd.R_below h.1 hb, Kd.R_below h.2 hb⟩
theorem Pair.own4 {lo mid top : Nat} {u v u' v' : OneV} {X Y X' Y' : List Int} {W : World} (h : Pair lo mid u v X Y W) (h' : Pair mid top u' v' X' Y' W) (hle : lo ≤ mid) : Own .u64 45 lo [u, v, u', v'] [X, Y, X', Y'] W := by
  refine Own.of fun i hi => ?_
  match i, hi with
  | 0, _ =>
    refine Kd.R_mono (ok := fun k => (lo ≤ k ∧ k < mid) ∧ some k ≠ v.1.ownBlock) h.1 fun k hk j hj hne e => ?_
    match j, hj with
    | 0, _ => exact hne rfl
    | 1, _ => exact hk.2 e
    | 2, _ => have := (h'.1.1 k e.symm).1; omega
    | 3, _ => have := (h'.2.1 k e.symm).1; omega
    | j + 4, hj => exact absurd hj (by simp)
  | 1, _ =>
    refine Kd.R_mono (ok := fun k => (lo ≤ k ∧ k < mid) ∧ some k ≠ u.1.ownBlock) h.2 fun k hk j hj hne e => ?_
    match j, hj with
    | 0, _ => exact hk.2 e
    | 1, _ => exact hne rfl
    | 2, _ => have := (h'.1.1 k e.symm).1; omega
    | 3, _ => have := (h'.2.1 k e.symm).1; omega
    | j + 4, hj => exact absurd hj (by simp)
  | 2, _ =>
    refine Kd.R_mono (ok := fun k => (mid ≤ k ∧ k < top) ∧ some k ≠ v'.1.ownBlock) (Kd.R_lower h'.1 hle) fun k hk j hj hne e => ?_
    match j, hj with
    | 0, _ => have := (h.1.1 k e.symm).1; omega
    | 1, _ => have := (h.2.1 k e.symm).1; omega
    | 2, _ => exact hne rfl
    | 3, _ => exact hk.2 e
    | j + 4, hj => exact absurd hj (by simp)
  | 3, _ =>
    refine Kd.R_mono (ok := fun k => (mid ≤ k ∧ k < top) ∧ some k ≠ u'.1.ownBlock) (Kd.R_lower h'.2 hle) fun k hk j hj hne e => ?_
    match j, hj with
    | 0, _ => have := (h.1.1 k e.symm).1; omega
    | 1, _ => have := (h.2.1 k e.symm).1; omega
    | 2, _ => exact hk.2 e
    | 3, _ => exact hne rfl
    | j + 4, hj => exact absurd hj (by simp)
  | i + 4, hi => exact absurd hi (by simp)
theorem chkRs_two (t n : Nat) : ∀ (R : List S41) (j : Nat), (chkRs t n R j).1 = 0 → chkRs t n R j = (0, -1)
  | [], j, _ => rfl
  | y :: R, j, h => by
    unfold chkRs at h ⊢
    by_cases h0 : checkR t n y = 0
    · rw [if_pos h0] at h ⊢
      exact chkRs_two t n R (j + 1) h
    · rw [if_neg h0] at h
      exact absurd h h0
theorem chk_two {b0 b1 : Bool} {n0 n1 : Nat} {a2 : Int} {R : List S41} (h : (chk b0 b1 n0 n1 a2 R).1 = 0) : chk b0 b1 n0 n1 a2 R = (0, -1) := by
  unfold chk at h ⊢
  split at h
  · simp at h
  · rename_i h1
    rw [if_neg h1]
    split at h
    · simp at h
    · rename_i h2
      rw [if_neg h2]
      split at h
      · simp at h
      · rename_i h3
        rw [if_neg h3]
        exact chkRs_two _ _ R 0 h
/-- ends.Of beside the document's Of, whatever the grammar. -/
theorem Of_x (ad : Int → Addr) (l0 l1 : List ByteArray) (a2 : Int) (l3 : List S41) (m0 : l0.length ≤ 9223372036854775807) (m1 : l1.length ≤ 9223372036854775807) : ∃ S0 S1 : List Int, S0.length ≤ 60 ∧ S1.length ≤ 60 ∧ (∃ k, dovetailref08_Of.f k l0 l1 a2 l3 = some (S0, S1, (chkG l0 l1 a2 l3).1, (chkG l0 l1 a2 l3).2)) ∧
    ∀ (A0 : Option Addr) (c0 : Nat) (A1 : Option Addr) (c1 : Nat) (A3 : Option Addr) (c3 : Nat) (w : World), SentsK ad w → Kd.C Kd.string w A0 l0.length l0 → l0.length ≤ c0 → Kd.C Kd.string w A1 l1.length l1 → l1.length ≤ c1 → Kd.C k41 w A3 l3.length l3 → l3.length ≤ c3 →
      Calls Tryd.prog 17 #[.agg #[.slice A0 l0.length c0, .slice A1 l1.length c1, .int .i64 a2, .slice A3 l3.length c3]] w fun e w' => ∃ L C M D E, e = .returned (.tuple #[.agg #[.slice L S0.length C, .slice M S1.length D], E]) ∧ Aside0 (Pair w.heap.size w'.heap.size ⟨.slice L S0.length C, rfl⟩ ⟨.slice M S1.length D, rfl⟩ S0 S1 w' ∧ ErrW ad w' E (chkG l0 l1 a2 l3) ∧ Below w.heap.size w w') := by
  by_cases hp : (chkG l0 l1 a2 l3).1 = 0
  · have h2 := chk_two hp
    obtain ⟨q1, q2, q3, q4, q5, q6, q7⟩ := chk_ok hp
    obtain ⟨k1, S1, e1, I1⟩ := Sets_ev l0.length 0 l0 l1 a2 l3 (by omega) (by omega) q7 q2
    obtain ⟨k2, S2, e2, I2⟩ := Sets_ev l0.length 1 l0 l1 a2 l3 (by omega) (by omega) q7 q2
    have f1 := at_rounds (g := fun k => ends_sets.f k l0 l1 a2 l3 0) (fun k => ends_sets.mono _ _ _ _ _ k) (Nat.le_max_left k1 k2) e1
    have f2 := at_rounds (g := fun k => ends_sets.f k l0 l1 a2 l3 1) (fun k => ends_sets.mono _ _ _ _ _ k) (Nat.le_max_right k1 k2) e2
    have n1 := I1.len
    have n2 := I2.len
    have hc : chkG l0 l1 a2 l3 = (0, -1) := h2
    obtain ⟨k, hk⟩ := refOf_ok l0 l1 a2 l3 m0 m1 hp S1 S2 I1 I2
    refine ⟨S1, S2, by omega, by omega, ⟨k, by rw [hc]; exact hk⟩, fun A0 c0 A1 c1 A3 c3 w hs hr0 hc0 hr1 hc1 hr3 hc3 => ?_⟩
    have kC := fun W (hb : Below w.heap.size w W) => Check_any ad A0 c0 l0 A1 c1 l1 a2 A3 c3 l3 W (hs.below hb) (Kd.C_below hr0 hb) hc0 (Kd.C_below hr1 hb) hc1 (Kd.C_below hr3 hb) hc3
    refine (Of_ok (fun _ => ⟨0, 0, none⟩) A0 c0 l0 A1 c1 l1 a2 A3 c3 l3 _ S1 S2 w hr0 hc0 hr1 hc1 hr3 hc3 (fun W hb => (kC W hb).mono fun e w' ⟨⟨v, he, hv⟩, hb'⟩ => ⟨by rw [he, hv.nil hp], hb'⟩) f1 f2).mono ?_
    rintro e w' ⟨v0, v1, rfl, R0, R1, hap, hb⟩
    obtain ⟨L, C, rfl⟩ := Kd.R_slice R0
    obtain ⟨M, D, rfl⟩ := Kd.R_slice R1
    refine ⟨L, C, M, D, .nilIface, rfl, ⟨⟨?_, ?_⟩, .inl ⟨hp, by rw [hc], rfl⟩, hb⟩⟩
    · refine Kd.R_mono (Kd.R_bound (Kd.R_of_own (enc := Value.int .u64) (h1 := fun _ => rfl) (ok := fun k => Value.ownBlock (.slice L S1.length C) = some k) (Kd.own_of_R R0) (fun k hk => hk))) (fun k hk => ⟨⟨hk.2.1, hk.2.2.1⟩, fun e => ?_⟩)
      rcases hap with h0 | h0
      · rw [hk.1] at h0; cases h0
      · exact h0 (hk.1.trans e)
    · refine Kd.R_mono (Kd.R_bound (Kd.R_of_own (enc := Value.int .u64) (h1 := fun _ => rfl) (ok := fun k => Value.ownBlock (.slice M S2.length D) = some k) (Kd.own_of_R R1) (fun k hk => hk))) (fun k hk => ⟨⟨hk.2.1, hk.2.2.1⟩, fun e => ?_⟩)
      rcases hap with h0 | h0
      · exact absurd (e.trans h0) (by simp)
      · exact h0 (e.symm.trans hk.1.symm)
  · obtain ⟨k, hk⟩ := refOf_no l0 l1 a2 l3 m0 m1 hp
    refine ⟨[], [], by simp, by simp, ⟨k, hk⟩, fun A0 c0 A1 c1 A3 c3 w hs hr0 hc0 hr1 hc1 hr3 hc3 => ?_⟩
    have kC := fun W (hb : Below w.heap.size w W) => Check_any ad A0 c0 l0 A1 c1 l1 a2 A3 c3 l3 W (hs.below hb) (Kd.C_below hr0 hb) hc0 (Kd.C_below hr1 hb) hc1 (Kd.C_below hr3 hb) hc3
    refine (Of_err ad (chkG l0 l1 a2 l3) hp A0 l0.length c0 A1 l1.length c1 a2 A3 l3.length c3 w (fun W hb => (kC W hb).mono fun e w' ⟨⟨v, he, hv⟩, hb'⟩ => ⟨⟨v, he, ErrW.of hv⟩, hb'⟩)).mono ?_
    rintro e w' ⟨t, u, rfl, hE, hb⟩
    exact ⟨none, 0, none, 0, .iface t u, rfl, ⟨⟨Kd.R_nil _ _ _ _ _, Kd.R_nil _ _ _ _ _⟩, hE, hb⟩⟩
end Go.Proofs.YtjkifeladmhkoaaDoor.St
/- dovetaillaw08.awake, dovetaillaw08.chain: walked. -/
set_option linter.unusedVariables false
set_option linter.unusedSimpArgs false
namespace Go.Proofs.YtjkifeladmhkoaaDoor.E8
open Go.RowKit Go.Proofs.YtjkifeladmhkoaaDoorW.PrintWords Go.Proofs.YtjkifeladmhkoaaDoorW.PrintLast Go.Proofs.YtjkifeladmhkoaaDoorW.PrintMore
open Go.Proofs.YtjkifeladmhkoaaDoor.B Go.Proofs.YtjkifeladmhkoaaDoor.Es Go.Proofs.YtjkifeladmhkoaaDoor.F

theorem lit_C (k : IntKind) (W : World) (b : Nat) (t : TypeId) (xs : List Int) (hm : xs.length ≤ 9223372036854775807) (h : W.heap[b]? = some (.cells (nums k xs).toArray t (0, 0))) : Kd.C (Kd.int k) W (some ⟨b, 0, none⟩) xs.length xs :=
  (Kq.R_reads' (Kq.R_clip k t W 0 b xs.length _ xs (Nat.le_refl _) hm (Nat.zero_le _) h (by rw [List.take_of_length_le (by simp [nums])]))).2.2
theorem given_C (r1 r2 : List ByteArray) (r3 : Int) (r4 : List S41) (w : World) (h : dovetaillaw08_given.f = some (r1, r2, r3, r4)) :
    Calls Tryd.prog 16 #[] w fun e w' => ∃ A0 c0 A1 c1 A3 c3, e = .returned (.agg #[.slice A0 r1.length c0, .slice A1 r2.length c1, .int .i64 r3, .slice A3 r4.length c3]) ∧ Kd.C Kd.string w' A0 r1.length r1 ∧ r1.length ≤ c0 ∧ Kd.C Kd.string w' A1 r2.length r2 ∧ r2.length ≤ c1 ∧ Kd.C k41 w' A3 r4.length r4 ∧ r4.length ≤ c3 ∧ Below w.heap.size w w' := by
  refine (dovetaillaw08_given.calls r1 r2 r3 r4 w h).mono ?_
  rintro e w' ⟨v0, v1, v3, rfl, h0, h1, h3, hb⟩
  obtain ⟨A0, c0, rfl⟩ := Kd.R_slice h0
  obtain ⟨A1, c1, rfl⟩ := Kd.R_slice h1
  obtain ⟨A3, c3, rfl⟩ := Kd.N_slice h3
  exact ⟨A0, c0, A1, c1, A3, c3, rfl, (Kd.R_reads' h0).2.2, (Kd.R_reads' h0).2.1, (Kd.R_reads' h1).2.2, (Kd.R_reads' h1).2.1, (Kd.N_reads' h3).2.2, (Kd.N_reads' h3).2.1, hb⟩

def dovetaillaw08_awake.ok : Bool :=
  match dovetaillaw08_given.f with
  | some (g0, g1, g2, g3) =>
    decide ((chkG g0 g1 g2 g3).1 = 0) && decide (ends_sets.f 50 g0 g1 g2 g3 0 = some [23, 22, 20]) && decide (ends_sets.f 50 g0 g1 g2 g3 1 = some [27, 26, 24]) && decide (dovetailkit_Sets.f 50 [23, 22, 20] [23, 22, 20] = some true) && decide (dovetailkit_Sets.f 50 [27, 26, 24] [27, 26, 24] = some true)
  | _ => false
theorem dovetaillaw08_awake.ok_true : dovetaillaw08_awake.ok = true := by kernel_rfl
set_option maxHeartbeats 2000000 in
set_option maxRecDepth 100000 in
theorem Awake_calls (ad : Int → Addr) (w : World) (hs : SentsK ad w) : Calls Tryd.prog 13 #[] w fun e w' => e = .returned (.bool true) ∧ Below w.heap.size w w' := by
  obtain ⟨g0, g1, g2, g3, hgv, hof, hs1, hs2⟩ : ∃ g0 g1 g2 g3, dovetaillaw08_given.f = some (g0, g1, g2, g3) ∧ ends_Of.f g0 g1 g2 g3 = some ([23, 22, 20], [27, 26, 24], none) ∧ dovetailkit_Sets.f 50 [23, 22, 20] [23, 22, 20] = some true ∧ dovetailkit_Sets.f 50 [27, 26, 24] [27, 26, 24] = some true := by
    have h := dovetaillaw08_awake.ok_true
    unfold dovetaillaw08_awake.ok at h
    split at h
    · rename_i g0 g1 g2 g3 hg
      simp only [Bool.and_eq_true, decide_eq_true_eq] at h
      refine ⟨g0, g1, g2, g3, hg, ?_, h.1.2, h.2⟩
      unfold ends_Of.f
      rw [if_pos h.1.1.1.1, endsS_is h.1.1.1.2, endsS_is h.1.1.2]
    · cases h
  have HG := Aside0.mk hgv
  have HO := Aside0.mk hof
  have H1 := Aside0.mk hs1
  have H2 := Aside0.mk hs2
  have HSK := Aside0.mk hs
  have TR : Aside0 (∀ {W W' : World}, Below w.heap.size w W → Below W.heap.size W W' → Below w.heap.size w W') := ⟨fun h1 h2 => h1.trans (h2.mono h1.size)⟩
  clear hgv hof hs1 hs2 hs
  go_enter Tryd.func13, Tryd.ntmps13
  go_wp2_with (go_at_call 16; (with_reducible refine (given_C g0 g1 g2 g3 _ HG.out).mono ?_); rintro e w1 ⟨A0, c0, A1, c1, A3, c3, rfl, r0, l0, r1, l1, r3, l3, b1⟩; have R0 := Aside0.mk r0; have R1 := Aside0.mk r1; have R3 := Aside0.mk r3; have B1 := Aside0.mk b1; clear r0 r1 r3 b1)
  refine (ends_Of.calls ad A0 c0 g0 A1 c1 g1 g2 A3 c3 g3 _ _ none w1 (HSK.out.below B1.out) R0.out l0 R1.out l1 R3.out l3 HO.out).mono ?_
  rintro e w2 ⟨v0, v1, tx, rfl, q0, q1, _, b2⟩
  obtain ⟨L, C, e0⟩ : ∃ L C, v0 = .slice L 3 C := Kq.R_slice q0
  obtain ⟨M, D, e1⟩ : ∃ M D, v1 = .slice M 3 D := Kq.R_slice q1
  subst e0 e1
  obtain ⟨_, hC, hL⟩ := Kq.R_reads' q0
  obtain ⟨_, hD, hM⟩ := Kq.R_reads' q1
  have B2 := Aside0.mk (TR.out B1.out b2)
  have QL := Aside0.mk hL
  have QM := Aside0.mk hM
  clear b2 q0 q1 hL hM R0 R1 R3 B1 l0 l1 l3
  simp only [errV_none]
  have hb3 : Below w2.heap.size w2 (w2.alloc (.cells #[.slice L 3 C, .slice M 3 D] 36)) := (Below.refl _ w2).alloc (Nat.le_refl _) _
  have hx3 := Box.new w2 #[.slice L 3 C, .slice M 3 D] 36
  have B3 := Aside0.mk hb3
  have X3 := Aside0.mk hx3
  clear hb3 hx3
  have K1 : Aside0 (∀ W, Below w2.heap.size w2 W → Box w2.heap.size #[.slice L 3 C, .slice M 3 D] 36 W → W.cell? ⟨w2.heap.size, 0, none⟩ = some (.slice L 3 C) ∧ W.cell? ⟨w2.heap.size, 1, none⟩ = some (.slice M 3 D)) := ⟨fun W _ hx => ⟨hx.cell 0 _ rfl, hx.cell 1 _ rfl⟩⟩
  have KS1 : Aside0 (∀ (W : World) (q : Nat), q = W.heap.size → Below w2.heap.size w2 W → Calls Tryd.prog 19 #[.slice L 3 C, .slice (some ⟨q, 0, none⟩) 3 3] (W.alloc (.cells #[.int .u64 23, .int .u64 22, .int .u64 20] 45)) fun e w' => e = .returned (.bool true) ∧ Below W.heap.size W w') := ⟨fun W q hq hb => by
    subst hq
    have hb' : Below W.heap.size W (W.alloc (.cells #[.int .u64 23, .int .u64 22, .int .u64 20] 45)) := (Below.refl _ W).alloc (Nat.le_refl _) _
    exact (dovetailkit_Sets.calls 50 L C [23, 22, 20] (some ⟨W.heap.size, 0, none⟩) 3 [23, 22, 20] true _ (Kd.C_below (Kd.C_below QL.out hb) hb') hC (lit_C .u64 _ _ _ [23, 22, 20] (by simp) (heap_alloc_new W _)) (by simp) H1.out).mono fun _ _ ⟨he, hd⟩ => ⟨he, hb'.trans (hd.below.mono hb'.size)⟩⟩
  have KS2 : Aside0 (∀ (W : World) (q : Nat), q = W.heap.size → Below w2.heap.size w2 W → Calls Tryd.prog 19 #[.slice M 3 D, .slice (some ⟨q, 0, none⟩) 3 3] (W.alloc (.cells #[.int .u64 27, .int .u64 26, .int .u64 24] 45)) fun e w' => e = .returned (.bool true) ∧ Below W.heap.size W w') := ⟨fun W q hq hb => by
    subst hq
    have hb' : Below W.heap.size W (W.alloc (.cells #[.int .u64 27, .int .u64 26, .int .u64 24] 45)) := (Below.refl _ W).alloc (Nat.le_refl _) _
    exact (dovetailkit_Sets.calls 50 M D [27, 26, 24] (some ⟨W.heap.size, 0, none⟩) 3 [27, 26, 24] true _ (Kd.C_below (Kd.C_below QM.out hb) hb') hD (lit_C .u64 _ _ _ [27, 26, 24] (by simp) (heap_alloc_new W _)) (by simp) H2.out).mono fun _ _ ⟨he, hd⟩ => ⟨he, hb'.trans (hd.below.mono hb'.size)⟩⟩
  obtain ⟨f0, f1⟩ := K1.out _ B3.out X3.out
  go_wp2_with (first
    | (go_at_call 19; ((with_reducible refine (KS1.out _ _ ?hq B3.out).mono ?_); (case hq => simp); clear f0 f1; rintro e w4 ⟨rfl, b4⟩; have B4 := Aside0.mk (B3.out.trans (b4.mono B3.out.size)); have X4 := Aside0.mk (X3.out.below b4); clear b4; obtain ⟨f0, f1⟩ := K1.out _ B4.out X4.out))
    | (go_at_call 19; ((with_reducible refine (KS2.out _ _ ?hq B4.out).mono ?_); (case hq => simp); clear f0 f1; rintro e w5 ⟨rfl, b5⟩; have B5 := Aside0.mk (B4.out.trans (b5.mono B4.out.size)); clear b5)))
  go_ret
  exact ⟨rfl, B2.out.trans (B5.out.mono B2.out.size)⟩
def dovetaillaw08_awake.f : Option Bool := some true
theorem dovetaillaw08_awake.calls (ad : Int → Addr) (r : Bool) (w : World) (hs : SentsK ad w) (h : dovetaillaw08_awake.f = some r) :
    Calls Tryd.prog 13 #[] w fun e w' => e = .returned (.bool r) ∧ Below w.heap.size w w' := by
  obtain rfl := Option.some.inj h
  exact Awake_calls ad w hs
end Go.Proofs.YtjkifeladmhkoaaDoor.E8
/- dovetaillaw08.EndsSets: the walk. -/
set_option linter.unusedVariables false
set_option linter.unusedSimpArgs false
namespace Go.Proofs.YtjkifeladmhkoaaDoor.Sw
open Go.RowKit Go.Proofs.YtjkifeladmhkoaaDoorW.PrintWords Go.Proofs.YtjkifeladmhkoaaDoorW.PrintLast Go.Proofs.YtjkifeladmhkoaaDoorW.PrintMore
open Go.Proofs.YtjkifeladmhkoaaDoor.B Go.Proofs.YtjkifeladmhkoaaDoor.AP Go.Proofs.YtjkifeladmhkoaaDoor.E8 Go.Proofs.YtjkifeladmhkoaaDoor.F Go.Proofs.YtjkifeladmhkoaaDoor.Es Go.Proofs.YtjkifeladmhkoaaDoor.Er Go.Proofs.YtjkifeladmhkoaaDoor.St

abbrev sl (A : Option Addr) (n c : Nat) : OneV := ⟨.slice A n c, rfl⟩
theorem Pair.lower {lo lo' hi : Nat} {u v : OneV} {X Y : List Int} {W : World} (h : Pair lo hi u v X Y W) (hle : lo' ≤ lo) : Pair lo' hi u v X Y W :=
  ⟨Kd.R_mono (Kd.R_lower h.1 hle) fun k hk => ⟨⟨by have := hk.1.1; omega, hk.1.2⟩, hk.2⟩, Kd.R_mono (Kd.R_lower h.2 hle) fun k hk => ⟨⟨by have := hk.1.1; omega, hk.1.2⟩, hk.2⟩⟩
section
variable {ad : Int → Addr} {pr : Int × Int} {S0 S1 : List Int} {w w1 : World} {cs bs : Array Value} {lo mid top : Nat} {L : Option Addr} {C : Nat} {M : Option Addr} {D : Nat} {L' : Option Addr} {C' : Nat} {M' : Option Addr} {D' : Nat} {E0 E1 : Value} {N0 : Option Addr} {G0 : Nat} {N1 : Option Addr} {G1 : Nat}
/-- After the first call. -/
structure T2 (ad : Int → Addr) (pr : Int × Int) (S0 S1 : List Int) (w w1 : World) (cs bs : Array Value) (lo mid : Nat) (L : Option Addr) (C : Nat) (M : Option Addr) (D : Nat) (E0 : Value) (W : World) : Prop where
  tn : TN w w1 cs bs W
  pa : Pair lo mid (sl L S0.length C) (sl M S1.length D) S0 S1 W
  ba : Box mid #[.slice L S0.length C, .slice M S1.length D] 36 W
  e0 : ErrW ad W E0 pr
  h0 : w.heap.size < lo
  h1 : w1.heap.size < lo
  h2 : lo ≤ mid
theorem T2.more {W W' : World} (h : T2 ad pr S0 S1 w w1 cs bs lo mid L C M D E0 W) (hb : Below W.heap.size W W') : T2 ad pr S0 S1 w w1 cs bs lo mid L C M D E0 W' :=
  ⟨h.tn.more hb, h.pa.below hb, h.ba.below hb, h.e0.below hb, h.h0, h.h1, h.h2⟩
theorem T2.start {W W' : World} (h : TN w w1 cs bs W) (hp : Pair W.heap.size W'.heap.size (sl L S0.length C) (sl M S1.length D) S0 S1 W') (he : ErrW ad W' E0 pr) (hb : Below W.heap.size W W') :
    T2 ad pr S0 S1 w w1 cs bs W.heap.size W'.heap.size L C M D E0 (W'.alloc (.cells #[.slice L S0.length C, .slice M S1.length D] 36)) := by
  have hb' := (Below.refl W'.heap.size W').alloc (Nat.le_refl _) (.cells #[.slice L S0.length C, .slice M S1.length D] 36)
  exact ⟨(h.more hb).more hb', hp.below hb', Box.new W' _ _, he.below hb', Box.in_ h.2.2.1, Box.in_ h.2.2.2, hb.size⟩
/-- After the second. -/
structure T4 (ad : Int → Addr) (pr : Int × Int) (S0 S1 : List Int) (w w1 : World) (cs bs : Array Value) (lo mid : Nat) (L : Option Addr) (C : Nat) (M : Option Addr) (D : Nat) (E0 : Value) (top : Nat) (L' : Option Addr) (C' : Nat) (M' : Option Addr) (D' : Nat) (E1 : Value) (W : World) : Prop where
  t2 : T2 ad pr S0 S1 w w1 cs bs lo mid L C M D E0 W
  pb : Pair mid top (sl L' S0.length C') (sl M' S1.length D') S0 S1 W
  bb : Box top #[.slice L' S0.length C', .slice M' S1.length D'] 36 W
  e1 : ErrW ad W E1 pr
  h3 : mid ≤ top
theorem T4.more {W W' : World} (h : T4 ad pr S0 S1 w w1 cs bs lo mid L C M D E0 top L' C' M' D' E1 W) (hb : Below W.heap.size W W') : T4 ad pr S0 S1 w w1 cs bs lo mid L C M D E0 top L' C' M' D' E1 W' :=
  ⟨h.t2.more hb, h.pb.below hb, h.bb.below hb, h.e1.below hb, h.h3⟩
theorem T4.start {W W' : World} (h : T2 ad pr S0 S1 w w1 cs bs lo mid L C M D E0 W) (hp : Pair W.heap.size W'.heap.size (sl L' S0.length C') (sl M' S1.length D') S0 S1 W') (he : ErrW ad W' E1 pr) (hb : Below W.heap.size W W') :
    T4 ad pr S0 S1 w w1 cs bs lo mid L C M D E0 W'.heap.size L' C' M' D' E1 (W'.alloc (.cells #[.slice L' S0.length C', .slice M' S1.length D'] 36)) := by
  have hb' := (Below.refl W'.heap.size W').alloc (Nat.le_refl _) (.cells #[.slice L' S0.length C', .slice M' S1.length D'] 36)
  have hm := Box.in_ h.ba
  have hs := hb.size
  exact ⟨(h.more hb).more hb', (Pair.lower hp (by omega)).below hb', Box.new W' _ _, he.below hb', by omega⟩
theorem T4.cells {W : World} (h : T4 ad pr S0 S1 w w1 cs bs lo mid L C M D E0 top L' C' M' D' E1 W) : W.cell? ⟨mid, 0, none⟩ = some (.slice L S0.length C) ∧ W.cell? ⟨mid, 1, none⟩ = some (.slice M S1.length D) ∧ W.cell? ⟨top, 0, none⟩ = some (.slice L' S0.length C') ∧ W.cell? ⟨top, 1, none⟩ = some (.slice M' S1.length D') :=
  ⟨h.t2.ba.cell 0 _ rfl, h.t2.ba.cell 1 _ rfl, h.bb.cell 0 _ rfl, h.bb.cell 1 _ rfl⟩
theorem T4.apart {W : World} (h : T4 ad pr S0 S1 w w1 cs bs lo mid L C M D E0 top L' C' M' D' E1 W) (hS0 : S0.length ≤ 60) (hS1 : S1.length ≤ 60) (t : TypeId) :
    Calls Tryd.prog 30 #[.slice (some ⟨W.heap.size, 0, none⟩) 4 4] (W.alloc (.cells #[.slice L S0.length C, .slice M S1.length D, .slice L' S0.length C', .slice M' S1.length D'] t)) fun e w' => e = .returned (.bool true) ∧ Aside0 (TN w w1 cs bs w') := by
  have hb := (Below.refl W.heap.size W).alloc (Nat.le_refl _) (.cells #[.slice L S0.length C, .slice M S1.length D, .slice L' S0.length C', .slice M' S1.length D'] t)
  have h' := h.more hb
  have hA : All (some ⟨W.heap.size, 0, none⟩) [sl L S0.length C, sl M S1.length D, sl L' S0.length C', sl M' S1.length D'] (W.alloc (.cells #[.slice L S0.length C, .slice M S1.length D, .slice L' S0.length C', .slice M' S1.length D'] t)) := lit4_All _ _ t (sl L S0.length C) (sl M S1.length D) (sl L' S0.length C') (sl M' S1.length D') (Box.new W _ _)
  have hO : Own .u64 45 lo [sl L S0.length C, sl M S1.length D, sl L' S0.length C', sl M' S1.length D'] [S0, S1, S0, S1] W := Pair.own4 h.t2.pa h.pb h.t2.h2
  have hO' : Own .u64 45 lo [sl L S0.length C, sl M S1.length D, sl L' S0.length C', sl M' S1.length D'] [S0, S1, S0, S1] (W.alloc (.cells #[.slice L S0.length C, .slice M S1.length D, .slice L' S0.length C', .slice M' S1.length D'] t)) := Pair.own4 h'.t2.pa h'.pb h'.t2.h2
  have hlo : lo ≤ W.heap.size := by
    have := Box.in_ h.t2.ba
    have := h.t2.h2
    omega
  have hlo' : lo ≤ (W.alloc (.cells #[.slice L S0.length C, .slice M S1.length D, .slice L' S0.length C', .slice M' S1.length D'] t)).heap.size := Nat.le_trans hlo hb.size
  refine (ApartSets_yes lo _ [S0, S1, S0, S1] (some ⟨W.heap.size, 0, none⟩) 4 _ (by simp) (by simp) hA ?_ hO' rfl ?_ hlo').mono fun e w' ⟨he, hb'⟩ => ⟨he, ⟨h'.t2.tn.base lo hb' h.t2.h0 h.t2.h1 hlo'⟩⟩
  · intro ad ha j hj e
    obtain rfl := Option.some.inj ha
    have := (hO.lo j hj _ e).2
    dsimp only at this
    omega
  · intro p hp
    match p, hp with
    | 0, _ => show S0.length ≤ _; omega
    | 1, _ => show S1.length ≤ _; omega
    | 2, _ => show S0.length ≤ _; omega
    | 3, _ => show S1.length ≤ _; omega
/-- Beside the document's. -/
structure T5 (ad : Int → Addr) (pr : Int × Int) (S0 S1 : List Int) (w w1 : World) (cs bs : Array Value) (lo mid : Nat) (L : Option Addr) (C : Nat) (M : Option Addr) (D : Nat) (E0 : Value) (top : Nat) (L' : Option Addr) (C' : Nat) (M' : Option Addr) (D' : Nat) (E1 : Value) (N0 : Option Addr) (G0 : Nat) (N1 : Option Addr) (G1 : Nat) (W : World) : Prop where
  t4 : T4 ad pr S0 S1 w w1 cs bs lo mid L C M D E0 top L' C' M' D' E1 W
  g0 : S0.length ≤ G0
  n0 : Kd.C (Kd.int .u64) W N0 S0.length S0
  g1 : S1.length ≤ G1
  n1 : Kd.C (Kd.int .u64) W N1 S1.length S1
theorem T5.more {W W' : World} (h : T5 ad pr S0 S1 w w1 cs bs lo mid L C M D E0 top L' C' M' D' E1 N0 G0 N1 G1 W) (hb : Below W.heap.size W W') : T5 ad pr S0 S1 w w1 cs bs lo mid L C M D E0 top L' C' M' D' E1 N0 G0 N1 G1 W' :=
  ⟨h.t4.more hb, h.g0, Kd.C_below h.n0 hb, h.g1, Kd.C_below h.n1 hb⟩
theorem T5.tn {W : World} (h : T5 ad pr S0 S1 w w1 cs bs lo mid L C M D E0 top L' C' M' D' E1 N0 G0 N1 G1 W) : TN w w1 cs bs W := h.t4.t2.tn
theorem sets_yes {S : List Int} {A : Option Addr} {c : Nat} {N : Option Addr} {G : Nat} {W : World} (hS : S.length ≤ 60) (h : Kd.C (Kd.int .u64) W A S.length S) (hc : S.length ≤ c) (h' : Kd.C (Kd.int .u64) W N S.length S) (hc' : S.length ≤ G) :
    Calls Tryd.prog 19 #[.slice A S.length c, .slice N S.length G] W fun e w' => e = .returned (.bool true) ∧ Below W.heap.size W w' :=
  (dovetailkit_Sets.calls 61 A c S N G S true W h hc h' hc' (KSets_f S (by omega) 61 (by omega))).mono fun _ _ ⟨he, hd⟩ => ⟨he, hd.below⟩
theorem T5.s0 {W : World} (h : T5 ad pr S0 S1 w w1 cs bs lo mid L C M D E0 top L' C' M' D' E1 N0 G0 N1 G1 W) (hS : S0.length ≤ 60) : Calls Tryd.prog 19 #[.slice L S0.length C, .slice N0 S0.length G0] W fun e w' => e = .returned (.bool true) ∧ Aside0 (T5 ad pr S0 S1 w w1 cs bs lo mid L C M D E0 top L' C' M' D' E1 N0 G0 N1 G1 w') :=
  (sets_yes hS (Kd.R_reads' h.t4.t2.pa.1).2.2 (Kd.R_reads' h.t4.t2.pa.1).2.1 h.n0 h.g0).mono fun _ _ ⟨he, hb⟩ => ⟨he, ⟨h.more hb⟩⟩
theorem T5.s1 {W : World} (h : T5 ad pr S0 S1 w w1 cs bs lo mid L C M D E0 top L' C' M' D' E1 N0 G0 N1 G1 W) (hS : S1.length ≤ 60) : Calls Tryd.prog 19 #[.slice M S1.length D, .slice N1 S1.length G1] W fun e w' => e = .returned (.bool true) ∧ Aside0 (T5 ad pr S0 S1 w w1 cs bs lo mid L C M D E0 top L' C' M' D' E1 N0 G0 N1 G1 w') :=
  (sets_yes hS (Kd.R_reads' h.t4.t2.pa.2).2.2 (Kd.R_reads' h.t4.t2.pa.2).2.1 h.n1 h.g1).mono fun _ _ ⟨he, hb⟩ => ⟨he, ⟨h.more hb⟩⟩
theorem T5.s2 {W : World} (h : T5 ad pr S0 S1 w w1 cs bs lo mid L C M D E0 top L' C' M' D' E1 N0 G0 N1 G1 W) (hS : S0.length ≤ 60) : Calls Tryd.prog 19 #[.slice L' S0.length C', .slice N0 S0.length G0] W fun e w' => e = .returned (.bool true) ∧ Aside0 (T5 ad pr S0 S1 w w1 cs bs lo mid L C M D E0 top L' C' M' D' E1 N0 G0 N1 G1 w') :=
  (sets_yes hS (Kd.R_reads' h.t4.pb.1).2.2 (Kd.R_reads' h.t4.pb.1).2.1 h.n0 h.g0).mono fun _ _ ⟨he, hb⟩ => ⟨he, ⟨h.more hb⟩⟩
theorem T5.s3 {W : World} (h : T5 ad pr S0 S1 w w1 cs bs lo mid L C M D E0 top L' C' M' D' E1 N0 G0 N1 G1 W) (hS : S1.length ≤ 60) : Calls Tryd.prog 19 #[.slice M' S1.length D', .slice N1 S1.length G1] W fun e w' => e = .returned (.bool true) ∧ Aside0 (T5 ad pr S0 S1 w w1 cs bs lo mid L C M D E0 top L' C' M' D' E1 N0 G0 N1 G1 w') :=
  (sets_yes hS (Kd.R_reads' h.t4.pb.2).2.2 (Kd.R_reads' h.t4.pb.2).2.1 h.n1 h.g1).mono fun _ _ ⟨he, hb⟩ => ⟨he, ⟨h.more hb⟩⟩
end

set_option maxHeartbeats 4000000 in
set_option maxRecDepth 100000 in
theorem EndsSets_calls (ad : Int → Addr) (A0 : Option Addr) (c0 : Nat) (l0 : List ByteArray) (A1 : Option Addr) (c1 : Nat) (l1 : List ByteArray) (a2 : Int) (A3 : Option Addr) (c3 : Nat) (l3 : List S41) (w : World) (hs : SentsK ad w) (hg : B.HandleP w) (hr0 : Kd.C Kd.string w A0 l0.length l0) (hc0 : l0.length ≤ c0) (hr1 : Kd.C Kd.string w A1 l1.length l1) (hc1 : l1.length ≤ c1) (hr3 : Kd.C k41 w A3 l3.length l3) (hc3 : l3.length ≤ c3)
    (b0 : l0.length < 8796093022207) (b1 : l1.length < 8796093022207) (b3 : l3.length < 4398046511104) (bx : ∀ x ∈ l3, x.f1.length < 17592186044415) :
    Calls Tryd.prog 7 #[.agg #[.slice A0 l0.length c0, .slice A1 l1.length c1, .int .i64 a2, .slice A3 l3.length c3]] w fun e w' => e = .returned (.bool true) ∧ Below w.heap.size w w' := by
  obtain ⟨cs, hcs⟩ : ∃ cs : Array Value, cs = #[.slice A0 l0.length c0, .slice A1 l1.length c1, .int .i64 a2, .slice A3 l3.length c3] := ⟨_, rfl⟩
  have st : GW w cs (w.alloc (.cells #[.slice A0 l0.length c0, .slice A1 l1.length c1, .int .i64 a2, .slice A3 l3.length c3] 32)) := by subst hcs; exact GW.start w _
  have kL : ∀ W, GW w cs W → Calls Tryd.prog 26 #[.agg #[.slice A0 l0.length c0, .slice A1 l1.length c1, .int .i64 a2, .slice A3 l3.length c3]] W fun e w' => ∃ B0 d0 B1 d1 B3 d3, e = .returned (.agg #[.slice B0 l0.length d0, .slice B1 l1.length d1, .int .i64 a2, .slice B3 l3.length d3]) ∧ Aside0 (MG w' B0 d0 l0 B1 d1 l1 B3 d3 l3 ∧ GW w cs w') :=
    fun W hW => (LentGrammar_m A0 c0 l0 A1 c1 l1 a2 A3 c3 l3 W (Kd.C_below hr0 hW.low) (Kd.C_below hr1 hW.low) (Kd.C_below hr3 hW.low) b0 b1 b3 bx).mono fun e w' ⟨B0, d0, B1, d1, B3, d3, he, hm⟩ => ⟨B0, d0, B1, d1, B3, d3, he, ⟨hm.out.1, hW.more hm.out.2⟩⟩
  have ST := Aside0.mk st
  have KL := Aside0.mk kL
  have HS := Aside0.mk hs
  have HG := Aside0.mk hg
  have HR0 := Aside0.mk hr0
  have HR1 := Aside0.mk hr1
  have HR3 := Aside0.mk hr3
  have HCS := Lib.hid hcs
  clear hs hg hr0 hr1 hr3 st kL hcs
  go_enter Tryd.func7, Tryd.ntmps7
  go_wp2_with (first
    | (go_at_call 26; (with_reducible refine (KL.out _ ST.out).mono ?_); rintro e w1 ⟨B0, d0, B1, d1, B3, d3, rfl, hm⟩)
    | (go_at_call 17; refine Aside0.out ?_))
  refine Aside0.mk ?_
  have hr0 := HR0.out
  have hr1 := HR1.out
  have hr3 := HR3.out
  have hs := HS.out
  have hg := HG.out
  obtain ⟨hmg, hgw⟩ := hm.out
  have m0 := C_max hr0
  have m1 := C_max hr1
  obtain ⟨bs, hbs⟩ : ∃ bs : Array Value, bs = #[.slice B0 l0.length d0, .slice B1 l1.length d1, .int .i64 a2, .slice B3 l3.length d3] := ⟨_, rfl⟩
  have t1 : TN w w1 cs bs (w1.alloc (.cells #[.slice B0 l0.length d0, .slice B1 l1.length d1, .int .i64 a2, .slice B3 l3.length d3] 32)) := by
    subst hbs
    have hb := (Below.refl w1.heap.size w1).alloc (Nat.le_refl _) (.cells #[.slice B0 l0.length d0, .slice B1 l1.length d1, .int .i64 a2, .slice B3 l3.length d3] 32)
    exact ⟨hgw.low.trans (hb.mono hgw.low.size), hb, hgw.2.below hb, Box.new w1 _ _⟩
  have CE : ∀ W, TN w w1 cs bs W → (W.cell? ⟨w.heap.size, 0, none⟩ = some (.slice A0 l0.length c0) ∧ W.cell? ⟨w.heap.size, 1, none⟩ = some (.slice A1 l1.length c1) ∧ W.cell? ⟨w.heap.size, 2, none⟩ = some (.int .i64 a2) ∧ W.cell? ⟨w.heap.size, 3, none⟩ = some (.slice A3 l3.length c3)) ∧ W.cell? ⟨w1.heap.size, 0, none⟩ = some (.slice B0 l0.length d0) ∧ W.cell? ⟨w1.heap.size, 1, none⟩ = some (.slice B1 l1.length d1) ∧ W.cell? ⟨w1.heap.size, 2, none⟩ = some (.int .i64 a2) ∧ W.cell? ⟨w1.heap.size, 3, none⟩ = some (.slice B3 l3.length d3) := by
    intro W hW; have hcs := HCS.out; subst hcs hbs; exact hW.cells
  have e0 := hmg.h0
  have e1 := hmg.h1
  have e3 := hmg.r3.1
  have q0 : ∀ W, TN w w1 cs bs W → Kd.C Kd.string W A0 l0.length l0 := fun W hW => Kd.C_below hr0 hW.low
  have q1 : ∀ W, TN w w1 cs bs W → Kd.C Kd.string W A1 l1.length l1 := fun W hW => Kd.C_below hr1 hW.low
  have q3 : ∀ W, TN w w1 cs bs W → Kd.C k41 W A3 l3.length l3 := fun W hW => Kd.C_below hr3 hW.low
  have p0 : ∀ W, TN w w1 cs bs W → Kd.C Kd.string W B0 l0.length l0 := fun W hW => Kd.C_below (C_pre hmg.r0) hW.low1
  have p1 : ∀ W, TN w w1 cs bs W → Kd.C Kd.string W B1 l1.length l1 := fun W hW => Kd.C_below (C_pre hmg.r1) hW.low1
  have p3 : ∀ W, TN w w1 cs bs W → Kd.C k41 W B3 l3.length l3 := fun W hW => Kd.C_below hmg.r3.reads hW.low1
  have kK : ∀ W, TN w w1 cs bs W → Calls Tryd.prog 29 #[.agg #[.slice B0 l0.length d0, .slice B1 l1.length d1, .int .i64 a2, .slice B3 l3.length d3], .agg #[.slice A0 l0.length c0, .slice A1 l1.length c1, .int .i64 a2, .slice A3 l3.length c3]] W fun e w' => e = .returned (.bool true) ∧ Below W.heap.size W w' :=
    fun W hW => KeptGrammar_yes B0 d0 B1 d1 B3 d3 A0 c0 l0 A1 c1 l1 a2 A3 c3 l3 W (hmg.below hW.low1) (q0 W hW) hc0 (q1 W hW) hc1 (q3 W hW) hc3
  obtain ⟨S0, S1, hS0, hS1, ⟨kk, hrf⟩, kX⟩ := Of_x ad l0 l1 a2 l3 m0 m1
  have kO : ∀ W, TN w w1 cs bs W → Calls Tryd.prog 17 #[.agg #[.slice B0 l0.length d0, .slice B1 l1.length d1, .int .i64 a2, .slice B3 l3.length d3]] W fun e w' => ∃ L C M D E, e = .returned (.tuple #[.agg #[.slice L S0.length C, .slice M S1.length D], E]) ∧ Aside0 (Pair W.heap.size w'.heap.size (sl L S0.length C) (sl M S1.length D) S0 S1 w' ∧ ErrW ad w' E (chkG l0 l1 a2 l3) ∧ Below W.heap.size W w') :=
    fun W hW => kX B0 d0 B1 d1 B3 d3 W (hs.below hW.low) (p0 W hW) (by omega) (p1 W hW) (by omega) (p3 W hW) (by omega)
  have kR : ∀ W, TN w w1 cs bs W → Calls Tryd.prog 27 #[.agg #[.slice A0 l0.length c0, .slice A1 l1.length c1, .int .i64 a2, .slice A3 l3.length c3]] W fun e w' => ∃ N0 G0 N1 G1, e = .returned (.tuple #[.slice N0 S0.length G0, .slice N1 S1.length G1, .int .i64 (chkG l0 l1 a2 l3).1, .int .i64 (chkG l0 l1 a2 l3).2]) ∧ Aside0 (S0.length ≤ G0 ∧ Kd.C (Kd.int .u64) w' N0 S0.length S0 ∧ S1.length ≤ G1 ∧ Kd.C (Kd.int .u64) w' N1 S1.length S1 ∧ Below W.heap.size W w') := by
    intro W hW
    refine (dovetailref08_Of.calls kk A0 c0 l0 A1 c1 l1 a2 A3 c3 l3 S0 S1 _ _ W (q0 W hW) hc0 (q1 W hW) hc1 (q3 W hW) hc3 hrf).mono ?_
    rintro e w6 ⟨v0, v1, rfl, hv, hv1, b2⟩
    obtain ⟨N0, G0, rfl⟩ := Kd.R_slice hv
    obtain ⟨N1, G1, rfl⟩ := Kd.R_slice hv1
    exact ⟨N0, G0, N1, G1, rfl, ⟨(Kd.R_reads' hv).2.1, (Kd.R_reads' hv).2.2, (Kd.R_reads' hv1).2.1, (Kd.R_reads' hv1).2.2, b2⟩⟩
  have kW : ∀ W, TN w w1 cs bs W → Calls Tryd.prog 13 #[] W fun e w' => e = .returned (.bool true) ∧ Aside0 (TN w w1 cs bs w') := fun W hW => (E8.Awake_calls ad W (hs.below hW.low)).mono fun _ _ ⟨he, hb⟩ => ⟨he, ⟨hW.more hb⟩⟩
  generalize chkG l0 l1 a2 l3 = pr at hrf kX kO kR
  obtain ⟨n1, n2⟩ := pr
  have kD : ∀ W E, TN w w1 cs bs W → ErrW ad W E (n1, n2) → Calls Tryd.prog 18 #[E] W fun e w' => e = .returned (.int .i64 n1) ∧ Below W.heap.size W w' := fun W E hW hE => Kind_w (hs.below hW.low) hE
  have kU : ∀ W E, TN w w1 cs bs W → ErrW ad W E (n1, n2) → Calls Tryd.prog 28 #[E] W fun e w' => e = .returned (.int .i64 n2) ∧ Below W.heap.size W w' := fun W E hW hE => Rule_w (hg.below hW.low) hE
  have T1 := Aside0.mk t1
  have CE' := Aside0.mk CE
  have KK := Aside0.mk kK
  have KO := Aside0.mk kO
  have KR := Aside0.mk kR
  have KD := Aside0.mk kD
  have KU := Aside0.mk kU
  have KW := Aside0.mk kW
  have HBS := Lib.hid hbs
  have H60 := Lib.hid (And.intro hS0 hS1)
  clear hr0 hr1 hr3 hs hg hmg hgw HR0 HR1 HR3 HS HG KL ST hm t1 CE q0 q1 q3 p0 p1 p3 kK kO kR kX kD kU kW hbs bx hrf hS0 hS1 b0 b1 b3 m0 m1 e0 e1 e3
  (with_reducible refine (KO.out _ T1.out).mono ?_); rintro e w2 ⟨L, C, M, D, E0, rfl, u1⟩
  have z2 := Aside0.mk (T2.start T1.out u1.out.1 u1.out.2.1 u1.out.2.2)
  obtain ⟨⟨f0, f1, f2, f3⟩, g0, g1, g2, g3⟩ := CE'.out _ z2.out.tn
  go_wp2_with (first
    | (go_at_call 17; (with_reducible refine (KO.out _ z2.out.tn).mono ?_); clear f0 f1 f2 f3 g0 g1 g2 g3; rintro e w3 ⟨L', C', M', D', E1, rfl, u2⟩; have z3 := Aside0.mk (T4.start z2.out u2.out.1 u2.out.2.1 u2.out.2.2); obtain ⟨⟨f0, f1, f2, f3⟩, g0, g1, g2, g3⟩ := CE'.out _ z3.out.t2.tn)
    | (go_at_call 27; refine Aside0.out ?_))
  refine Aside0.mk ?_
  (with_reducible refine (KR.out _ z3.out.t2.tn).mono ?_); clear f0 f1 f2 f3 g0 g1 g2 g3; rintro e w4 ⟨N0, G0, N1, G1, rfl, u4⟩
  have z4 : Aside0 (T5 ad (n1, n2) S0 S1 w w1 cs bs _ _ L C M D E0 _ L' C' M' D' E1 N0 G0 N1 G1 w4) := ⟨z3.out.more u4.out.2.2.2.2, u4.out.1, u4.out.2.1, u4.out.2.2.1, u4.out.2.2.2.1⟩
  obtain ⟨⟨f0, f1, f2, f3⟩, g0, g1, g2, g3⟩ := CE'.out _ z4.out.tn
  obtain ⟨k0, k1, k2, k3⟩ := z4.out.t4.cells
  clear u1 u2 u4 z2 z3
  go_wp2_with (first
    | (go_at_call 18; (with_reducible refine (KD.out _ _ z4.out.tn z4.out.t4.t2.e0).mono ?_); clear f0 f1 f2 f3 g0 g1 g2 g3 k0 k1 k2 k3; rintro e w5 ⟨rfl, b5⟩; have z5 := Aside0.mk (z4.out.more b5); clear b5; obtain ⟨⟨f0, f1, f2, f3⟩, g0, g1, g2, g3⟩ := CE'.out _ z5.out.tn; obtain ⟨k0, k1, k2, k3⟩ := z5.out.t4.cells)
    | (go_at_call 28; (with_reducible refine (KU.out _ _ z5.out.tn z5.out.t4.t2.e0).mono ?_); clear f0 f1 f2 f3 g0 g1 g2 g3 k0 k1 k2 k3; rintro e w6 ⟨rfl, b6⟩; have z6 := Aside0.mk (z5.out.more b6); clear b6; obtain ⟨⟨f0, f1, f2, f3⟩, g0, g1, g2, g3⟩ := CE'.out _ z6.out.tn; obtain ⟨k0, k1, k2, k3⟩ := z6.out.t4.cells)
    | (go_at_call 19; (with_reducible refine (z9.out.s3 H60.out.2).mono ?_); clear f0 f1 f2 f3 g0 g1 g2 g3 k0 k1 k2 k3; rintro e x1 ⟨rfl, z10⟩; obtain ⟨⟨f0, f1, f2, f3⟩, g0, g1, g2, g3⟩ := CE'.out _ z10.out.tn; obtain ⟨k0, k1, k2, k3⟩ := z10.out.t4.cells)
    | (go_at_call 19; (with_reducible refine (z8.out.s2 H60.out.1).mono ?_); clear f0 f1 f2 f3 g0 g1 g2 g3 k0 k1 k2 k3; rintro e w9 ⟨rfl, z9⟩; obtain ⟨⟨f0, f1, f2, f3⟩, g0, g1, g2, g3⟩ := CE'.out _ z9.out.tn; obtain ⟨k0, k1, k2, k3⟩ := z9.out.t4.cells)
    | (go_at_call 19; (with_reducible refine (z7.out.s1 H60.out.2).mono ?_); clear f0 f1 f2 f3 g0 g1 g2 g3 k0 k1 k2 k3; rintro e w8 ⟨rfl, z8⟩; obtain ⟨⟨f0, f1, f2, f3⟩, g0, g1, g2, g3⟩ := CE'.out _ z8.out.tn; obtain ⟨k0, k1, k2, k3⟩ := z8.out.t4.cells)
    | (go_at_call 19; (with_reducible refine (z6.out.s0 H60.out.1).mono ?_); clear f0 f1 f2 f3 g0 g1 g2 g3 k0 k1 k2 k3; rintro e w7 ⟨rfl, z7⟩; obtain ⟨⟨f0, f1, f2, f3⟩, g0, g1, g2, g3⟩ := CE'.out _ z7.out.tn; obtain ⟨k0, k1, k2, k3⟩ := z7.out.t4.cells)
    | (go_at_call 29; (with_reducible refine (KK.out _ z10.out.tn).mono ?_); clear f0 f1 f2 f3 g0 g1 g2 g3 k0 k1 k2 k3; rintro e x2 ⟨rfl, b11⟩; have z11 := Aside0.mk (z10.out.more b11); clear b11; obtain ⟨⟨f0, f1, f2, f3⟩, g0, g1, g2, g3⟩ := CE'.out _ z11.out.tn; obtain ⟨k0, k1, k2, k3⟩ := z11.out.t4.cells)
    | (go_at_call 30; refine Aside0.out ?_))
  refine Aside0.mk ?_
  (with_reducible refine (z11.out.t4.apart H60.out.1 H60.out.2 _).mono ?_); clear f0 f1 f2 f3 g0 g1 g2 g3 k0 k1 k2 k3; rintro e x3 ⟨rfl, z12⟩
  obtain ⟨⟨f0, f1, f2, f3⟩, g0, g1, g2, g3⟩ := CE'.out _ z12.out
  go_wp2_with (first
    | (go_at_call 29; (with_reducible refine (KK.out _ z12.out).mono ?_); clear f0 f1 f2 f3 g0 g1 g2 g3; rintro e x4 ⟨rfl, b13⟩; have z13 := Aside0.mk (z12.out.more b13); clear b13)
    | (go_at_call 13; (with_reducible refine (KW.out _ z13.out).mono ?_); rintro e x5 ⟨rfl, z14⟩))
  go_ret
  exact ⟨rfl, z14.out.low⟩
end Go.Proofs.YtjkifeladmhkoaaDoor.Sw
set_option linter.unusedVariables false
namespace Go.Proofs.YtjkifeladmhkoaaDoor.endsSets
open Go.ChangeShapes Go.WideShapes Go.ChangeAt Go.RowKit Go.Proofs.YtjkifeladmhkoaaDoorW.PrintWords Go.Proofs.YtjkifeladmhkoaaDoor.H Go.Proofs.YtjkifeladmhkoaaDoor.B

theorem own : ownKnob Tryd.prog.godebug = none := by kernel_rfl
theorem laidOut : laidOutB Tryd.prog = true := by kernel_rfl
theorem bounds_i {n : Int} (h : (Lit.int .i64 n).wf = true) : -9223372036854775808 ≤ n ∧ n < 9223372036854775808 := by
  have h1 : IntKind.i64.min = -9223372036854775808 := by decide
  have h2 : IntKind.i64.max = 9223372036854775807 := by decide
  have h3 : (decide (IntKind.i64.min ≤ n) && decide (n ≤ IntKind.i64.max)) = true := h
  rw [h1, h2] at h3
  simp only [Bool.and_eq_true, decide_eq_true_eq] at h3
  omega

set_option maxRecDepth 100000 in
theorem contract (H : Type) (enc : TypeId × Value → H) (W : World) (base : Nat) (args : Array Value) (ds gs : List (DataW H)) (before : List MemPlace)
    (hval : ∀ (j : Nat) t v, Tryd.f7.params[j]? = some t → args[j]? = some v → Value.okWide Tryd.prog W .any base t v)
    (ad : Int → Addr) (hs : SentsK ad W) (hg : HandleP W)
    (hz : (DataW.weightsEach Tryd.prog (Tryd.f7.params.toList ++ (OpenSpec.ofChange Rows.endsSetsSpec).bare.plain.varTypes Tryd.prog) (ds ++ gs)).all (· ≤ reachBytes) = true)
    (hW : DataW.Whole enc Tryd.prog Tryd.f7.params.toList Rows.endsSetsSpec.vars false W args.toList ds gs before) :
    Calls Tryd.prog 7 args W fun e W' => ∃ v, e = .returned v ∧ Rows.endsSetsSpec.post enc Tryd.prog Tryd.f7 false true false false W args v W' := by
  have hW' := hW
  obtain ⟨p, q, hA0, hV, rfl, hfz, hnd⟩ := hW
  have hA : DataW.TrodAll enc Tryd.prog W 0 (fun _ => true) true Tryd.f7.params.toList args.toList ds p := hA0
  rw [Tryd.params7] at hA hval
  obtain ⟨v0, vs0, d0, ds0, p0, q0, hargs, rfl, rfl, h0, r0⟩ := trodAll_cons hA
  obtain ⟨rfl, rfl, rfl⟩ := trodAll_nil r0
  obtain rfl : args = #[v0] := by cases args; simp_all
  obtain ⟨rfl, rfl⟩ := trodVars_none hV
  obtain ⟨g0, A00, c00, A01, c01, A03, c03, rfl, l00, k00, l01, k01, l03, k03, z00, z01, z03, zx0⟩ := OG.open_gz (hval 0 32 v0 rfl rfl) h0 (fun n hn => by simpa using List.all_eq_true.1 hz n (DataW.weights_mem_each (j := 0) (by kernel_rfl) rfl n hn))
  refine (Sw.EndsSets_calls ad A00 c00 g0.f0 A01 c01 g0.f1 g0.f2 A03 c03 g0.f3 W hs hg k00 l00 k01 l01 k03 l03 z00 z01 z03 zx0).mono fun e W' ⟨he, bel⟩ => ?_
  subst he
  simp only [List.append_nil] at hW'
  exact ⟨_, rfl, _, _, _, [], _, [], hW', trodAll_mk1 (shut_bool Tryd.underlying4 _), (trodAll_cons_mk (Below.trod laidOut (by kernel_rfl) (of_decide_eq_true (by kernel_rfl)) h0 bel (trod_below h0)) trodAll_mk0), rfl, bel.frame _, fun h => by cases h⟩

theorem laid_met (os : Os) (args : Array Value) : laidMetH Tryd.prog Rows.endsSetsRow.laid ((laidWorld16 os).forCall (fun _ _ => 0) ⟨#[], args, []⟩).memory := laid_met16 os args
theorem sents {W : World} (h : laidMetH Tryd.prog Rows.endsSetsRow.laid W) : (∃ ad, SentsK ad W) ∧ HandleP W := sents16 h
theorem reads (os : Os) {H : Type} (enc : TypeId × Value → H) : ∃ places, DataW.whole enc Tryd.prog ((laidWorld16 os).forCall (fun _ _ => 0) ⟨#[], #[Value.agg #[.slice none 0 0, .slice none 0 0, .int .i64 0, .slice none 0 0]], []⟩).memory Tryd.f7.params.toList Rows.endsSetsSpec.vars false (#[Value.agg #[.slice none 0 0, .slice none 0 0, .int .i64 0, .slice none 0 0]] : Array Value).toList 8 = some ([.agg [.nil, .nil, .lit (.int .i64 0), .nil]], [], places) :=
  ⟨[], by kernel_rfl⟩

set_option maxRecDepth 100000 in
theorem lifted (os : Os) (started : os.Started) (H : Type) (enc : TypeId × Value → H) (F : Stop.Interp) :
    ReturnsInHanded {} Tryd.checked os 7 .any ((OpenSpec.ofChange Rows.endsSetsSpec).preRow enc Tryd.prog Tryd.f7 Rows.endsSetsRow.domain false Rows.endsSetsRow.laid) (((OpenSpec.ofChange Rows.endsSetsSpec).at F).post enc Tryd.prog Tryd.f7 false true false false) := by
  obtain ⟨places, hx⟩ := reads os enc
  refine returnsInHanded_of_row (C := Tryd.checked) (s := OpenSpec.ofChange Rows.endsSetsSpec) own started (by kernel_rfl) Tryd.func7
    (witness_row_atRef (enc := enc) (C := Tryd.checked) false (laidWorld16 os) #[Value.agg #[.slice none 0 0, .slice none 0 0, .int .i64 0, .slice none 0 0]] rfl (by kernel_rfl) (by kernel_rfl) (by kernel_rfl)
      (OpenSpec.preRow_of_cond 8 hx (by kernel_rfl) (fun k hk => by cases hk) (by kernel_rfl) (laid_met os _))) ?_
  intro W base args ds gs before hval hW _ hcond hz hL _ _
  obtain ⟨⟨ad, hs⟩, hg⟩ := sents hL
  exact contract H enc W base args ds gs before hval ad hs hg hz hW

theorem said : Rows.EndsSetsSaid :=
  OpenClaim.holds_of_cond 7 Tryd.f7 rfl rfl rfl rfl rfl rfl rfl ⟨rfl, rfl, rfl, rfl, rfl⟩ rfl rfl rfl rfl rfl (by kernel_rfl) Tryd.func7 (by kernel_rfl)
    (of_decide_eq_true (by kernel_rfl)) (by unfold Func.isWrapper; first | (rw [if_pos (by decide +kernel)]; kernel_rfl) | (rw [if_neg (by decide +kernel)]; exact ⟨rfl, rfl⟩))
    (fun os started H enc _ F => by rw [OpenClaim.pre_eq_preRow]; exact lifted os started H enc F)

theorem plain (f : FuncId) (fn : Func) (hf : Tryd.pinned.checked.prog.funcNamed "dovetail/dovetaillaw08.EndsSets" = some f) (hfn : Tryd.pinned.checked.prog.funcs[f]? = some fn) :
    true = Tryd.pinned.checked.prog.looks [] ∧ ∀ (j : Nat) t, fn.params[j]? = some t → Tryd.pinned.checked.prog.wantsStandIn t = false := by
  obtain rfl : f = 7 := Option.some.inj ((show Tryd.prog.funcNamed "dovetail/dovetaillaw08.EndsSets" = some 7 by kernel_rfl).symm.trans hf) |>.symm
  obtain rfl : fn = Tryd.f7 := (Option.some.inj (Tryd.func7.symm.trans hfn)).symm
  refine ⟨by kernel_rfl, fun j t ht => ?_⟩
  rw [Tryd.params7] at ht
  obtain rfl : t = 32 := by simpa using Array.mem_of_getElem? ht
  exact (show Tryd.prog.wantsStandIn 32 = false by kernel_rfl)

theorem proved : Rows.EndsSetsCardSaid :=
  Claim7.holds_tied_plain_at .later [] _ _ _ _ said (fun _ h => by cases h) (by kernel_rfl) (fun _ h => by cases h) endsSets_row_tie rfl ⟨rfl, rfl⟩ (by kernel_rfl) rfl plain (by kernel_rfl)
#print axioms proved
end Go.Proofs.YtjkifeladmhkoaaDoor.endsSets
