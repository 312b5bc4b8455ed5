/- dovetaillaw03.GramAbove, whatever the grammar. -/
import Derived.Test.YteaiejippkikpaaDoorGramAb
import Derived.Test.YteaiejippkikpaaDoorGramEr
import Derived.Test.YteaiejippkikpaaDoorGramAn
set_option linter.unusedVariables false
set_option linter.unusedSimpArgs false
namespace Go.Proofs.YteaiejippkikpaaDoor.B
open Go.RowKit Go.Proofs.YteaiejippkikpaaDoorW.PrintWords Go.Proofs.YteaiejippkikpaaDoorW.PrintLast Go.Proofs.YteaiejippkikpaaDoorW.PrintMore

theorem chkRs_ok (t n : Nat) : ∀ (R : List S35) (j : Nat), (chkRs t n R j).1 = 0 → ∀ x ∈ R, okR t n x = true
  | [], _, _, x, hx => by cases hx
  | y :: R, j, h, x, hx => by
    unfold chkRs at h
    rcases checkR_cases t n y with ⟨h0, hok⟩ | ⟨h0, _⟩
    · rw [if_pos h0] at h
      rcases List.mem_cons.1 hx with rfl | hx
      · exact hok
      · exact chkRs_ok t n R (j + 1) h x hx
    · rw [if_neg (by rcases h0 with h0 | h0 <;> omega)] at h
      rcases h0 with h0 | h0 <;> (dsimp only at h; omega)
theorem chk_ok {b0 b1 : Bool} {n0 n1 : Nat} {a2 : Int} {R : List S35} (h : (chk b0 b1 n0 n1 a2 R).1 = 0) : n0 + n1 ≤ 60 ∧ R.length ≤ 120 ∧ b0 = true ∧ b1 = true ∧ 0 ≤ a2 ∧ a2 < (n1 : Int) ∧ ∀ x ∈ R, okR n0 n1 x = true := by
  unfold chk at h
  split at h
  · simp at h
  · split at h
    · simp at h
    · split at h
      · simp at h
      · rename_i h1 h2 h3
        simp only [Bool.and_eq_false_iff, not_or, Bool.not_eq_false] at h2
        exact ⟨by omega, by omega, h2.1, h2.2, by omega, by omega, chkRs_ok _ _ R 0 h⟩
set_option maxHeartbeats 1000000 in
set_option maxRecDepth 100000 in
theorem GramAbove_bad (A0 : Option Addr) (n0 c0 : Nat) (A1 : Option Addr) (n1 c1 : Nat) (a2 : Int) (A3 : Option Addr) (n3 c3 : Nat) (w : World)
    (hC : ∀ W, Below w.heap.size w W → Calls Tryd.prog 28 #[.agg #[.slice A0 n0 c0, .slice A1 n1 c1, .int .i64 a2, .slice A3 n3 c3]] W fun e w' => (∃ t u, e = .returned (.iface t u)) ∧ Below W.heap.size W w') :
    Calls Tryd.prog 4 #[.agg #[.slice A0 n0 c0, .slice A1 n1 c1, .int .i64 a2, .slice A3 n3 c3]] w fun e w' => e = .returned (.bool true) ∧ Below w.heap.size w w' := by
  have hA : ∀ W, Below w.heap.size w W → Calls Tryd.prog 23 #[.agg #[.slice A0 n0 c0, .slice A1 n1 c1, .int .i64 a2, .slice A3 n3 c3]] W fun e w' => e = .returned (.slice none 0 0) ∧ Below W.heap.size W w' :=
    fun W hW => Above_bad A0 n0 c0 A1 n1 c1 a2 A3 n3 c3 W (fun W' hW' => hC W' (hW.trans (hW'.mono hW.size)))
  obtain ⟨cs, hcs⟩ : ∃ cs : Array Value, cs = #[.slice A0 n0 c0, .slice A1 n1 c1, .int .i64 a2, .slice A3 n3 c3] := ⟨_, rfl⟩
  have kW := Later.of (w := w) (F := 27) (fun W hW => Awake_calls W)
  have kA := Later.of (w := w) (F := 23) hA
  have kC : ∀ W, Below w.heap.size w W → Calls Tryd.prog 28 #[.agg #[.slice A0 n0 c0, .slice A1 n1 c1, .int .i64 a2, .slice A3 n3 c3]] W fun e w' => (∃ t u, e = .returned (.iface t u)) ∧ Aside0 (Below W.heap.size W w') := fun W hW => (hC W hW).mono fun _ _ h => ⟨h.1, ⟨h.2⟩⟩
  have CE : ∀ W, GW w cs W → W.cell? ⟨w.heap.size, 0, none⟩ = some (.slice A0 n0 c0) ∧ W.cell? ⟨w.heap.size, 1, none⟩ = some (.slice A1 n1 c1) ∧ W.cell? ⟨w.heap.size, 2, none⟩ = some (.int .i64 a2) ∧ W.cell? ⟨w.heap.size, 3, none⟩ = some (.slice A3 n3 c3) := by
    intro W hW; subst hcs; exact hW.cells
  have st : GW w cs (w.alloc (.cells #[.slice A0 n0 c0, .slice A1 n1 c1, .int .i64 a2, .slice A3 n3 c3] 25)) := by subst hcs; exact GW.start w _
  have ST := Aside0.mk st
  have KC := Aside0.mk kC
  have KW := Aside0.mk kW
  have KA := Aside0.mk kA
  have CE' := Aside0.mk CE
  have HCS := Lib.hid hcs
  clear hC hA kW kA kC CE st hcs
  go_enter Tryd.func4, Tryd.ntmps4
  go_wp2_with (first
    | (go_at_call 28; (with_reducible refine (KC.out _ ST.out.low).mono ?_); rintro e w1 ⟨⟨te, ue, rfl⟩, b1⟩; have t1 := Aside0.mk (ST.out.more b1.out); clear b1; obtain ⟨f0, f1, f2, f3⟩ := CE'.out _ t1.out)
    | (go_at_call 23; (with_reducible refine (KA.out _ t1.out.low).mono ?_); rintro e w2 ⟨rfl, b2⟩; have t2 := Aside0.mk (t1.out.more b2.out); clear b2 f0 f1 f2 f3; obtain ⟨f0, f1, f2, f3⟩ := CE'.out _ t2.out)
    | (go_at_call 27; (with_reducible refine (KW.out _ t2.out.low).mono ?_); rintro e w3 ⟨rfl, b3⟩; have t3 := Aside0.mk (t2.out.more b3.out); clear b3))
  go_ret
  exact ⟨rfl, t3.out.low⟩

theorem GramAbove_calls (ad : Int → Addr) (A0 : Option Addr) (c0 : Nat) (l0 : List ByteArray) (A1 : Option Addr) (c1 : Nat) (l1 : List ByteArray) (a2 : Int) (A3 : Option Addr) (c3 : Nat) (l3 : List S35) (w : World) (hs : Sents ad w) (hr0 : Kd.C Kd.string w A0 l0.length l0) (hc0 : l0.length ≤ c0) (hr1 : Kd.C Kd.string w A1 l1.length l1) (hc1 : l1.length ≤ c1) (hr3 : Kd.C k35 w A3 l3.length l3) (hc3 : l3.length ≤ c3) :
    Calls Tryd.prog 4 #[.agg #[.slice A0 l0.length c0, .slice A1 l1.length c1, .int .i64 a2, .slice A3 l3.length c3]] w fun e w' => e = .returned (.bool true) ∧ Below w.heap.size w w' := by
  have m0 := C_max hr0
  have m1 := C_max hr1
  have hn0 := Names_f l0 (l0.length + l0.length + l1.length + l1.length + 2) m0 (by omega)
  have hn1 := Names_f l1 (l0.length + l0.length + l1.length + l1.length + 2) m1 (by omega)
  by_cases h0 : (chk (namesOK l0) (namesOK l1) l0.length l1.length a2 l3).1 = 0
  · obtain ⟨q1, q2, q3, q4, q5, q6, q7⟩ := chk_ok h0
    rw [q3] at hn0
    rw [q4] at hn1
    exact GramAbove_ok _ A0 c0 l0 A1 c1 l1 a2 A3 c3 l3 w hr0 hc0 hr1 hc1 hr3 hc3 ⟨q1, q2, hn0, hn1, q5, q6, q7⟩
  · refine GramAbove_bad A0 l0.length c0 A1 l1.length c1 a2 A3 l3.length c3 w fun W hW => ?_
    refine (Check_full ad _ A0 c0 l0 A1 c1 l1 a2 A3 c3 l3 _ _ W (hs.below hW) (Kd.C_below hr0 hW) hc0 (Kd.C_below hr1 hW) hc1 (Kd.C_below hr3 hW) hc3 hn0 hn1).mono ?_
    rintro e w' ⟨⟨v, rfl, hv⟩, hb⟩
    obtain ⟨t, u, rfl⟩ := hv.some h0
    exact ⟨⟨t, u, rfl⟩, hb⟩
end Go.Proofs.YteaiejippkikpaaDoor.B
