/- words.blank, words.plain, words.wrong. -/
import Derived.Test.YteaiejippkikpaaDoorLineQ
set_option linter.unusedVariables false
set_option linter.unusedSimpArgs false
namespace Go.Proofs.YteaiejippkikpaaDoor.H
open Go.RowKit Go.Proofs.YteaiejippkikpaaDoorW.PrintWords

set_option maxRecDepth 100000 in
theorem Blank_b (c : UInt8) (w : World) : Calls Tryd.prog 76 #[.int .u8 (c.toNat : Int)] w fun e w' => e = .returned (.bool (P.blankB c)) ∧ w = w' := by
  have x32 : c = 32 ↔ c.toNat = 32 := u8_iff c 32 (by omega)
  have x9 : c = 9 ↔ c.toNat = 9 := u8_iff c 9 (by omega)
  by_cases c32 : c.toNat = 32
  · have e1 : ((c.toNat : Int) == 32) = true := beq_iff_eq.2 (by omega)
    have HV := Lib.hid (show P.blankB c = true by unfold P.blankB; rw [beq_iff_eq.2 (x32.2 c32)]; rfl)
    clear x32 x9 c32
    go_enter Tryd.func76, Tryd.ntmps76
    go_wp2_with fail
    go_ret
    exact ⟨by rw [HV.out]; rfl, rfl⟩
  have e1 : ((c.toNat : Int) == 32) = false := beq_eq_false_iff_ne.2 (by omega)
  by_cases c9 : c.toNat = 9
  · have e2 : ((c.toNat : Int) == 9) = true := beq_iff_eq.2 (by omega)
    have HV := Lib.hid (show P.blankB c = true by unfold P.blankB; rw [beq_iff_eq.2 (x9.2 c9)]; simp)
    clear x32 x9 c32 c9
    go_enter Tryd.func76, Tryd.ntmps76
    go_wp2_with fail
    go_ret
    exact ⟨by rw [HV.out]; rfl, rfl⟩
  have e2 : ((c.toNat : Int) == 9) = false := beq_eq_false_iff_ne.2 (by omega)
  have HV := Lib.hid (show P.blankB c = false by unfold P.blankB; rw [beq_eq_false_iff_ne.2 (fun h => c32 (x32.1 h)), beq_eq_false_iff_ne.2 (fun h => c9 (x9.1 h))]; rfl)
  clear x32 x9 c32 c9
  go_enter Tryd.func76, Tryd.ntmps76
  go_wp2_with fail
  go_ret
  exact ⟨by rw [HV.out]; rfl, rfl⟩
set_option maxRecDepth 100000 in
theorem Plain_b (c : UInt8) (w : World) : Calls Tryd.prog 79 #[.int .u8 (c.toNat : Int)] w fun e w' => e = .returned (.bool (P.plainB c)) ∧ w = w' := by
  have x34 : c = 34 ↔ c.toNat = 34 := u8_iff c 34 (by omega)
  have l1 : (32 : UInt8) < c ↔ 32 < c.toNat := UInt8.lt_iff_toNat_lt
  have l2 : c < (127 : UInt8) ↔ c.toNat < 127 := UInt8.lt_iff_toNat_lt
  by_cases c32 : 32 < c.toNat
  rotate_left
  · have e1 : decide ((32 : Int) < (c.toNat : Int)) = false := decide_eq_false (by omega)
    have e1' : decide (32 < c.toNat) = false := decide_eq_false c32
    have HV := Lib.hid (show P.plainB c = false by unfold P.plainB; rw [decide_eq_false (fun h => c32 (l1.1 h))]; rfl)
    clear x34 l1 l2 c32
    go_enter Tryd.func79, Tryd.ntmps79
    go_wp2_with fail
    go_ret
    exact ⟨by rw [HV.out]; rfl, rfl⟩
  have e1 : decide ((32 : Int) < (c.toNat : Int)) = true := decide_eq_true (by omega)
  have e1' : decide (32 < c.toNat) = true := decide_eq_true c32
  by_cases c127 : c.toNat < 127
  rotate_left
  · have e2 : decide ((c.toNat : Int) < 127) = false := decide_eq_false (by omega)
    have e2' : decide (c.toNat < 127) = false := decide_eq_false c127
    have HV := Lib.hid (show P.plainB c = false by unfold P.plainB; rw [decide_eq_false (fun h => c127 (l2.1 h))]; simp)
    clear x34 l1 l2 c32 c127
    go_enter Tryd.func79, Tryd.ntmps79
    go_wp2_with fail
    go_ret
    exact ⟨by rw [HV.out]; rfl, rfl⟩
  have e2 : decide ((c.toNat : Int) < 127) = true := decide_eq_true (by omega)
  have e2' : decide (c.toNat < 127) = true := decide_eq_true c127
  by_cases c34 : c.toNat = 34
  · have e3 : ((c.toNat : Int) == 34) = true := beq_iff_eq.2 (by omega)
    have e3' : ((c.toNat : Int) != 34) = false := by rw [bne, e3]; rfl
    have HV := Lib.hid (show P.plainB c = false by unfold P.plainB; rw [beq_iff_eq.2 (x34.2 c34)]; simp)
    clear x34 l1 l2 c32 c127 c34
    go_enter Tryd.func79, Tryd.ntmps79
    go_wp2_with fail
    go_ret
    exact ⟨by rw [HV.out]; rfl, rfl⟩
  have e3 : ((c.toNat : Int) == 34) = false := beq_eq_false_iff_ne.2 (by omega)
  have e3' : ((c.toNat : Int) != 34) = true := by rw [bne, e3]; rfl
  have HV := Lib.hid (show P.plainB c = true by unfold P.plainB; rw [beq_eq_false_iff_ne.2 (fun h => c34 (x34.1 h)), decide_eq_true (l1.2 c32), decide_eq_true (l2.2 c127)]; rfl)
  clear x34 l1 l2 c32 c127 c34
  go_enter Tryd.func79, Tryd.ntmps79
  go_wp2_with fail
  go_ret
  exact ⟨by rw [HV.out]; rfl, rfl⟩
set_option maxRecDepth 100000 in
theorem Wrong_calls (p : Int) (a : Addr) (w : World) (hg : w.cell? ⟨3, 0, none⟩ = some (.iface 185 (.pointer (some a)))) : Calls Tryd.prog 78 #[.int .i64 p] w fun e w' => e = .returned (.iface 120 (.pointer (some ⟨w.heap.size, 0, none⟩))) ∧ w' = w.alloc (.cells #[.int .i64 p, .iface 185 (.pointer (some a))] 123) := by
  go_enter Tryd.func78, Tryd.ntmps78
  go_wp2_with fail
  go_ret
  exact ⟨rfl, rfl⟩
end Go.Proofs.YteaiejippkikpaaDoor.H
