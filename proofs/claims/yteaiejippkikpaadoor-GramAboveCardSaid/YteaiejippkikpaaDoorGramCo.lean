/- gram.Check at a grammar that may be: it answers nil. -/
import Derived.Test.YteaiejippkikpaaDoorGramCk
set_option linter.unusedVariables false
namespace Go.Proofs.YteaiejippkikpaaDoor.B
open Go.RowKit Go.Proofs.YteaiejippkikpaaDoorW.PrintWords Go.Proofs.YteaiejippkikpaaDoorW.PrintLast Go.Proofs.YteaiejippkikpaaDoorW.PrintMore

/-- Is a rule right? -/
def okR (t n : Nat) (x : S35) : Bool := decide (x.f1.length ≤ 32) && decide (0 ≤ x.f0) && decide (x.f0 < n) && !x.f1.any (outS t n)

set_option maxHeartbeats 1000000 in
set_option maxRecDepth 100000 in
theorem Rule_ok (A0 : Option Addr) (c0 t : Nat) (A1 : Option Addr) (c1 n : Nat) (a2 : Int) (v3 : Value) (x : S35) (A : Option Addr) (c : Nat) (w : World) (ht : t ≤ 60) (hn : n ≤ 60) (hr : Kd.C (Kd.int .i64) w A x.f1.length x.f1) (hc : x.f1.length ≤ c) (ho : okR t n x = true) :
    Calls Tryd.prog 67 #[.agg #[.slice A0 t c0, .slice A1 n c1, .int .i64 a2, v3], .agg #[.int .i64 x.f0, .slice A x.f1.length c]] w fun e w' => e = .returned .nilIface ∧ Below w.heap.size w w' := by
  obtain ⟨x0, x1⟩ := x
  simp only [okR, Bool.and_eq_true, decide_eq_true_eq, Bool.not_eq_true'] at ho
  obtain ⟨⟨⟨h32, h0⟩, hn0⟩, hany⟩ := ho
  dsimp only at hr hc h32 h0 hn0 hany ⊢
  have hB1 := (Box.new w #[.slice A0 t c0, .slice A1 n c1, .int .i64 a2, v3] 25).alloc (.cells #[.int .i64 x0, .slice A x1.length c] 35)
  have hb : Below w.heap.size w ((w.alloc (.cells #[.slice A0 t c0, .slice A1 n c1, .int .i64 a2, v3] 25)).alloc (.cells #[.int .i64 x0, .slice A x1.length c] 35)) := ((Below.refl _ w).alloc (Nat.le_refl _) _).alloc (by simp) _
  have hcall := ContS_calls A x1 c w.heap.size t n c0 c1 A0 A1 _ ht hn (hB1.cell 0 _ rfl) (hB1.cell 1 _ rfl) (Kd.C_below hr hb) hc
  rw [hany] at hcall
  have HC := Aside0.mk hcall
  have HB := Aside0.mk hb
  have b1 : decide ((32 : Int) < x1.length) = false := decide_eq_false (by omega)
  have b2 : decide (x0 < 0) = false := decide_eq_false (by omega)
  have b3 : decide ((n : Int) ≤ x0) = false := decide_eq_false (by omega)
  have b4 : decide (32 < x1.length) = false := decide_eq_false (by omega)
  clear hr hcall hB1 hb
  go_enter Tryd.func67, Tryd.ntmps67
  go_wp2_with (go_at_call 96; (with_reducible refine HC.out.mono ?_); rintro e w' ⟨rfl, hb'⟩)
  go_ret
  exact ⟨rfl, HB.out.trans (hb'.mono HB.out.size)⟩

/-- May it be? -/
def okG (k : Nat) (l0 l1 : List ByteArray) (a2 : Int) (l3 : List S35) : Prop :=
  l0.length + l1.length ≤ 60 ∧ l3.length ≤ 120 ∧ gram_names.f k l0 = some true ∧ gram_names.f k l1 = some true ∧ 0 ≤ a2 ∧ a2 < (l1.length : Int) ∧ ∀ x ∈ l3, okR l0.length l1.length x = true

set_option maxHeartbeats 800000 in
set_option maxRecDepth 100000 in
theorem Check_ok (k : Nat) (A0 : Option Addr) (c0 : Nat) (l0 : List ByteArray) (A1 : Option Addr) (c1 : Nat) (l1 : List ByteArray) (a2 : Int) (A3 : Option Addr) (c3 : Nat) (l3 : List S35) (w : World) (hr0 : Kd.C Kd.string w A0 l0.length l0) (hc0 : l0.length ≤ c0) (hr1 : Kd.C Kd.string w A1 l1.length l1) (hc1 : l1.length ≤ c1) (hr3 : Kd.C k35 w A3 l3.length l3) (hc3 : l3.length ≤ c3) (ho : okG k l0 l1 a2 l3) :
    Calls Tryd.prog 28 #[.agg #[.slice A0 l0.length c0, .slice A1 l1.length c1, .int .i64 a2, .slice A3 l3.length c3]] w fun e w' => e = .returned .nilIface ∧ Below w.heap.size w w' := by
  obtain ⟨h60, h120, hn0, hn1, ha0, ha1, hall⟩ := ho
  obtain ⟨Tw, hT⟩ : ∃ Tw : World → Prop, ∀ W, Tw W ↔ (Below w.heap.size w W ∧ Box w.heap.size #[.slice A0 l0.length c0, .slice A1 l1.length c1, .int .i64 a2, .slice A3 l3.length c3] 25 W) := ⟨_, fun _ => Iff.rfl⟩
  have start : Tw (w.alloc (.cells #[.slice A0 l0.length c0, .slice A1 l1.length c1, .int .i64 a2, .slice A3 l3.length c3] 25)) := (hT _).2 ⟨(Below.refl _ w).alloc (Nat.le_refl _) _, Box.new w _ _⟩
  have cells : ∀ W, Tw W → W.cell? ⟨w.heap.size, 0, none⟩ = some (.slice A0 l0.length c0) ∧ W.cell? ⟨w.heap.size, 1, none⟩ = some (.slice A1 l1.length c1) ∧ W.cell? ⟨w.heap.size, 2, none⟩ = some (.int .i64 a2) ∧ W.cell? ⟨w.heap.size, 3, none⟩ = some (.slice A3 l3.length c3) := by
    intro W hW
    have h3' := ((hT W).1 hW).2
    exact ⟨h3'.cell 0 _ rfl, h3'.cell 1 _ rfl, h3'.cell 2 _ rfl, h3'.cell 3 _ rfl⟩
  have more : ∀ W W', Tw W → Below W.heap.size W W' → Tw W' := fun W W' h hb => (hT W').2 ⟨((hT W).1 h).1.trans (hb.mono ((hT W).1 h).1.size), ((hT W).1 h).2.below hb⟩
  have last : ∀ W, Tw W → Below w.heap.size w W := fun W h => ((hT W).1 h).1
  clear hT
  have key0 : ∀ W, Tw W → Calls Tryd.prog 66 #[.slice A0 l0.length c0] W fun e w' => e = .returned (.bool true) ∧ Aside0 (Tw w') ∧ w'.cell? ⟨w.heap.size, 0, none⟩ = some (.slice A0 l0.length c0) ∧ w'.cell? ⟨w.heap.size, 1, none⟩ = some (.slice A1 l1.length c1) ∧ w'.cell? ⟨w.heap.size, 2, none⟩ = some (.int .i64 a2) ∧ w'.cell? ⟨w.heap.size, 3, none⟩ = some (.slice A3 l3.length c3) := by
    intro W hW
    refine (gram_names.calls k A0 c0 l0 true W (Kd.C_below hr0 (last W hW)) hc0 hn0).mono ?_
    rintro e w' ⟨he, hd⟩
    have := more W w' hW hd.below
    exact ⟨he, ⟨this⟩, cells _ this⟩
  have key1 : ∀ W, Tw W → Calls Tryd.prog 66 #[.slice A1 l1.length c1] W fun e w' => e = .returned (.bool true) ∧ Aside0 (Tw w') ∧ w'.cell? ⟨w.heap.size, 0, none⟩ = some (.slice A0 l0.length c0) ∧ w'.cell? ⟨w.heap.size, 1, none⟩ = some (.slice A1 l1.length c1) ∧ w'.cell? ⟨w.heap.size, 2, none⟩ = some (.int .i64 a2) ∧ w'.cell? ⟨w.heap.size, 3, none⟩ = some (.slice A3 l3.length c3) := by
    intro W hW
    refine (gram_names.calls k A1 c1 l1 true W (Kd.C_below hr1 (last W hW)) hc1 hn1).mono ?_
    rintro e w' ⟨he, hd⟩
    have := more W w' hW hd.below
    exact ⟨he, ⟨this⟩, cells _ this⟩
  have HR3 := Aside0.mk hr3
  have ST := Aside0.mk start
  have K0 := Aside0.mk key0
  have K1 := Aside0.mk key1
  have CE := Aside0.mk cells
  have MO := Aside0.mk more
  have LA := Aside0.mk last
  have AL := Aside0.mk hall
  have b1 : decide ((60 : Int) < l0.length) = false := decide_eq_false (by omega)
  have b1' : decide (60 < l0.length) = false := decide_eq_false (by omega)
  have b2 : decide ((60 : Int) - l0.length < l1.length) = false := decide_eq_false (by omega)
  have b3 : decide ((120 : Int) < l3.length) = false := decide_eq_false (by omega)
  have b3' : decide (120 < l3.length) = false := decide_eq_false (by omega)
  have b4 : decide (a2 < 0) = false := decide_eq_false (by omega)
  have b5 : decide ((l1.length : Int) ≤ a2) = false := decide_eq_false (by omega)
  clear hr0 hr1 hr3 start key0 key1 cells more last hall hn0 hn1
  go_enter Tryd.func28, Tryd.ntmps28
  go_wp2_with (first | (go_at_call 66; (with_reducible refine (K0.out _ ST.out).mono ?_); rintro e w1 ⟨rfl, t1, f0, f1, f2, f3⟩) | (go_at_call 66; (with_reducible refine (K1.out _ t1.out).mono ?_); rintro e w2 ⟨rfl, t2, g0, g1, g2, g3⟩))
  go_loopw [3, 4, 5, 53] (fun _ _ _ i wr => ∃ j : Nat, j ≤ l3.length ∧ i = .int .i64 j ∧ Aside0 (Tw wr)) (fun _ _ _ i _ => l3.length - (intOf i).toNat)
  case atStart => exact ⟨0, Nat.zero_le _, rfl, t2⟩
  case round =>
    obtain ⟨j, hj, rfl, htw⟩ := hrel
    clear f0 f1 f2 f3 g0 g1 g2 g3
    by_cases hlt : j < l3.length
    · obtain ⟨f0, f1, f2, f3⟩ := CE.out wr htw.out
      obtain ⟨ad, A, c, rfl, h0, h1, h2, h3⟩ := at_T35 (Kd.C_below HR3.out (LA.out wr htw.out)) (j : Int) (by omega) (by omega)
      have g0 : rd_T35 l3 (j : Int) = l3[j] := by simp [rd_T35, List.getD_eq_getElem?_getD, List.getElem?_eq_getElem hlt]
      have hok := AL.out l3[j] (List.getElem_mem hlt)
      rw [Int.toNat_natCast] at h0 h1
      rw [g0] at h0 h1 h2 h3
      generalize l3[j] = x at h0 h1 h2 h3 hok
      have hcall : ∀ W, Below wr.heap.size wr W → Calls Tryd.prog 67 #[.agg #[.slice A0 l0.length c0, .slice A1 l1.length c1, .int .i64 a2, .slice (some ad) l3.length c3], .agg #[.int .i64 x.f0, .slice A x.f1.length c]] W fun e w' => e = .returned .nilIface ∧ Aside0 (Tw w') := by
        intro W hW
        refine (Rule_ok A0 c0 l0.length A1 c1 l1.length a2 _ x A c W (by omega) (by omega) (Kd.C_below h3 hW) h2 hok).mono ?_
        rintro e w' ⟨he, hb⟩
        exact ⟨he, ⟨MO.out _ _ (MO.out _ _ htw.out hW) hb⟩⟩
      have f0a := fun o => Lib.cell?_alloc_some o f0
      have f1a := fun o => Lib.cell?_alloc_some o f1
      have f2a := fun o => Lib.cell?_alloc_some o f2
      have f3a := fun o => Lib.cell?_alloc_some o f3
      have HC := Aside0.mk hcall
      clear hcall h3 g0 hok
      go_wp2_with (go_at_call 67; (with_reducible refine (HC.out _ ((Below.refl _ wr).alloc (Nat.le_refl _) _)).mono ?_); rintro e w' ⟨rfl, t3⟩)
      go_roundw
      case measure => simp [intOf]; omega
      case rel => exact ⟨j + 1, by omega, rfl, t3⟩
    · have hjn : j = l3.length := by omega
      subst hjn
      go_wp2_with fail
      go_ret
      exact ⟨rfl, LA.out _ htw.out⟩
end Go.Proofs.YteaiejippkikpaaDoor.B
