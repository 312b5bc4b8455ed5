/- gram.rule and what it calls. -/
import Derived.Test.YteaiejippkikpaaDoorGramSn
set_option linter.unusedVariables false
namespace Go.Proofs.YteaiejippkikpaaDoor.B
open Go.RowKit Go.Proofs.YteaiejippkikpaaDoorW.PrintWords Go.Proofs.YteaiejippkikpaaDoorW.PrintLast Go.Proofs.YteaiejippkikpaaDoorW.PrintMore

/-- Is a symbol outside? -/
def outS (t n : Nat) (s : Int) : Bool := decide ((t : Int) ≤ s) || decide (s < -(n : Int))

set_option maxHeartbeats 1000000 in
set_option maxRecDepth 100000 in
theorem OutS_calls (s : Int) (b t n ct cn : Nat) (At An : Option Addr) (w : World) (ht : t ≤ 60) (hn : n ≤ 60) (h0 : w.cell? ⟨b, 0, none⟩ = some (.slice At t ct)) (h1 : w.cell? ⟨b, 1, none⟩ = some (.slice An n cn)) :
    Calls Tryd.prog 97 #[.int .i64 s, .pointer (some ⟨b, 0, none⟩)] w fun e w' => e = .returned (.bool (outS t n s)) ∧ Below w.heap.size w w' := by
  by_cases c : (t : Int) ≤ s
  · have hc : decide ((t : Int) ≤ s) = true := decide_eq_true c
    have hq : outS t n s = true := by simp [outS, c]
    rw [hq]
    clear hq c
    go_enter Tryd.func97, Tryd.ntmps97
    go_wp2_with fail
    go_ret
    exact ⟨rfl, Below.refl _ w⟩
  · have hc : decide ((t : Int) ≤ s) = false := decide_eq_false c
    have hq : outS t n s = decide (s < -(n : Int)) := by simp [outS, c]
    rw [hq]
    generalize hz : decide (s < -(n : Int)) = z
    clear hq c
    go_enter Tryd.func97, Tryd.ntmps97
    go_wp2_with fail
    go_ret
    exact ⟨rfl, Below.refl _ w⟩

set_option maxHeartbeats 1000000 in
set_option maxRecDepth 100000 in
theorem IdxS_calls (A : Option Addr) (l : List Int) (c : Nat) (b t n ct cn : Nat) (At An : Option Addr) (w : World) (ht : t ≤ 60) (hn : n ≤ 60) (h0 : w.cell? ⟨b, 0, none⟩ = some (.slice At t ct)) (h1 : w.cell? ⟨b, 1, none⟩ = some (.slice An n cn))
    (hr : Kd.C (Kd.int .i64) w A l.length l) (hc : l.length ≤ c) :
    Calls Tryd.prog 114 #[.slice A l.length c, .func (.func 97) #[] #[.pointer (some ⟨b, 0, none⟩)]] w fun e w' => (∃ v : Int, e = .returned (.int .i64 v) ∧ decide (0 ≤ v) = l.any (outS t n)) ∧ Below w.heap.size w w' := by
  have hm := C_max hr
  have hcall : ∀ (W : World), Below w.heap.size w W → ∀ s, Calls Tryd.prog 97 #[.int .i64 s, .pointer (some ⟨b, 0, none⟩)] W fun e w' => e = .returned (.bool (outS t n s)) ∧ Below w.heap.size w w' := by
    intro W hW s
    refine (OutS_calls s b t n ct cn At An W ht hn ((hW.cell (World.block_lt_of_cell? w _ h0)).trans h0) ((hW.cell (World.block_lt_of_cell? w _ h1)).trans h1)).mono ?_
    rintro e w' ⟨he, hb⟩
    exact ⟨he, hW.trans (hb.mono hW.size)⟩
  have HR := Aside0.mk hr
  have HC := Aside0.mk hcall
  clear hr hcall h0 h1
  go_enter Tryd.func114, Tryd.ntmps114
  go_wp2_with fail
  go_loopw [5, 8] (fun _ i wr => ∃ k : Nat, k ≤ l.length ∧ i = .int .i64 k ∧ Hid ((l.take k).any (outS t n) = false) ∧ Aside0 (Below w.heap.size w wr)) (fun _ i _ => l.length - (intOf i).toNat)
  case atStart => exact ⟨0, Nat.zero_le _, rfl, Lib.hid (by simp), ⟨Below.refl _ w⟩⟩
  case round =>
    obtain ⟨k, hk, rfl, hno, hbe⟩ := hrel
    by_cases hlt : k < l.length
    · obtain ⟨ad, rfl, hx⟩ := Kd.at_int (Kd.C_below HR.out hbe.out) (k : Int) (by omega) (by omega)
      have hw := HC.out wr hbe.out (rd l (k : Int))
      have g0 : rd l (k : Int) = l[k] := by simp [rd, List.getD_eq_getElem?_getD, List.getElem?_eq_getElem hlt]
      have hn1 : (l.take (k + 1)).any (outS t n) = ((l.take k).any (outS t n) || outS t n l[k]) := by rw [List.take_succ_eq_append_getElem hlt, List.any_append]; simp
      have ha : outS t n l[k] = true → l.any (outS t n) = true := fun h => List.any_eq_true.2 ⟨l[k], List.getElem_mem hlt, h⟩
      rw [Int.toNat_natCast] at hx
      rw [g0] at hx hw
      generalize l[k] = x at hx hw hn1 ha
      cases hq : outS t n x with
      | true =>
        rw [hq] at hw
        have HA := Lib.hid (ha hq)
        have HW := Aside0.mk hw
        clear hw hn1 ha g0 hq
        go_wp2_with (go_at_call 97; (with_reducible refine HW.out.mono ?_); rintro e w' ⟨rfl, hb'⟩)
        go_ret
        exact ⟨⟨(k : Int), rfl, by rw [HA.out]; simp⟩, hb'⟩
      | false =>
        rw [hq] at hw
        have HN := Lib.hid hn1
        have HQ := Lib.hid hq
        have HW := Aside0.mk hw
        clear hw hn1 ha g0 hq
        go_wp2_with (go_at_call 97; (with_reducible refine HW.out.mono ?_); rintro e w' ⟨rfl, hb'⟩)
        go_roundw
        case measure => simp [intOf]; omega
        case rel => exact ⟨k + 1, by omega, rfl, Lib.hid (by rw [HN.out, hno.out, HQ.out]; rfl), ⟨hb'⟩⟩
    · have hkn : k = l.length := by omega
      subst hkn
      have HNO := Lib.hid (show l.any (outS t n) = false by have := hno.out; rwa [List.take_length] at this)
      clear hno
      go_wp2_with fail
      go_ret
      exact ⟨⟨-1, rfl, by rw [HNO.out]; rfl⟩, hbe.out⟩

set_option maxHeartbeats 1000000 in
set_option maxRecDepth 100000 in
theorem ContS_calls (A : Option Addr) (l : List Int) (c : Nat) (b t n ct cn : Nat) (At An : Option Addr) (w : World) (ht : t ≤ 60) (hn : n ≤ 60) (h0 : w.cell? ⟨b, 0, none⟩ = some (.slice At t ct)) (h1 : w.cell? ⟨b, 1, none⟩ = some (.slice An n cn))
    (hr : Kd.C (Kd.int .i64) w A l.length l) (hc : l.length ≤ c) :
    Calls Tryd.prog 96 #[.slice A l.length c, .func (.func 97) #[] #[.pointer (some ⟨b, 0, none⟩)]] w fun e w' => e = .returned (.bool (l.any (outS t n))) ∧ Below w.heap.size w w' := by
  have HW := Aside0.mk (IdxS_calls A l c b t n ct cn At An w ht hn h0 h1 hr hc)
  clear h0 h1 hr
  go_enter Tryd.func96, Tryd.ntmps96
  go_wp2_with (go_at_call 114; (with_reducible refine HW.out.mono ?_); rintro e w' ⟨⟨v, rfl, hv⟩, hb'⟩; have HV := Lib.hid hv; clear hv)
  go_ret
  exact ⟨by show Ending.returned (.bool (decide (0 ≤ v))) = _; rw [HV.out], hb'⟩
end Go.Proofs.YteaiejippkikpaaDoor.B
