/- Texts of this claim, one behind the other. -/
import Derived.Test.YteaiejippkikpaaDoorMNam1
import Derived.ChangeArms
import Derived.LaidLaws
import Derived.LaidHandle
import Derived.Test.YteaiejippkikpaaDoorRows
import Derived.Lib.LaidTab
import Derived.Lib.LaidIn
import Derived.JoinedCond
import Derived.Deep.DeepWitnessRowRef
import Derived.Test.YteaiejippkikpaaDoorWMore
/- gram.Check at a grammar that may be: it answers nil. -/
set_option linter.unusedVariables false
namespace Go.Proofs.YteaiejippkikpaaDoor.B
open Go.RowKit Go.Proofs.YteaiejippkikpaaDoorW.PrintWords Go.Proofs.YteaiejippkikpaaDoorW.PrintLast Go.Proofs.YteaiejippkikpaaDoorW.PrintMore

/-- Is a rule right? -/
def okR (t n : Nat) (x : S35) : Bool := decide (x.f1.length ≤ 32) && decide (0 ≤ x.f0) && decide (x.f0 < n) && !x.f1.any (outS t n)

set_option maxHeartbeats 1000000 in
set_option maxRecDepth 100000 in
theorem Rule_ok (A0 : Option Addr) (c0 t : Nat) (A1 : Option Addr) (c1 n : Nat) (a2 : Int) (v3 : Value) (x : S35) (A : Option Addr) (c : Nat) (w : World) (ht : t ≤ 60) (hn : n ≤ 60) (hr : Kd.C (Kd.int .i64) w A x.f1.length x.f1) (hc : x.f1.length ≤ c) (ho : okR t n x = true) :
    Calls Tryd.prog 67 #[.agg #[.slice A0 t c0, .slice A1 n c1, .int .i64 a2, v3], .agg #[.int .i64 x.f0, .slice A x.f1.length c]] w fun e w' => e = .returned .nilIface ∧ Below w.heap.size w w' := by
  obtain ⟨x0, x1⟩ := x
  simp only [okR, Bool.and_eq_true, decide_eq_true_eq, Bool.not_eq_true'] at ho
  obtain ⟨⟨⟨h32, h0⟩, hn0⟩, hany⟩ := ho
  dsimp only at hr hc h32 h0 hn0 hany ⊢
  have hB1 := (Box.new w #[.slice A0 t c0, .slice A1 n c1, .int .i64 a2, v3] 25).alloc (.cells #[.int .i64 x0, .slice A x1.length c] 35)
  have hb : Below w.heap.size w ((w.alloc (.cells #[.slice A0 t c0, .slice A1 n c1, .int .i64 a2, v3] 25)).alloc (.cells #[.int .i64 x0, .slice A x1.length c] 35)) := ((Below.refl _ w).alloc (Nat.le_refl _) _).alloc (by simp) _
  have hcall := ContS_calls A x1 c w.heap.size t n c0 c1 A0 A1 _ ht hn (hB1.cell 0 _ rfl) (hB1.cell 1 _ rfl) (Kd.C_below hr hb) hc
  rw [hany] at hcall
  have HC := Aside0.mk hcall
  have HB := Aside0.mk hb
  have b1 : decide ((32 : Int) < x1.length) = false := decide_eq_false (by omega)
  have b2 : decide (x0 < 0) = false := decide_eq_false (by omega)
  have b3 : decide ((n : Int) ≤ x0) = false := decide_eq_false (by omega)
  have b4 : decide (32 < x1.length) = false := decide_eq_false (by omega)
  clear hr hcall hB1 hb
  go_enter Tryd.func67, Tryd.ntmps67
  go_wp2_with (go_at_call 96; (with_reducible refine HC.out.mono ?_); rintro e w' ⟨rfl, hb'⟩)
  go_ret
  exact ⟨rfl, HB.out.trans (hb'.mono HB.out.size)⟩

/-- May it be? -/
def okG (k : Nat) (l0 l1 : List ByteArray) (a2 : Int) (l3 : List S35) : Prop :=
  l0.length + l1.length ≤ 60 ∧ l3.length ≤ 120 ∧ gram_names.f k l0 = some true ∧ gram_names.f k l1 = some true ∧ 0 ≤ a2 ∧ a2 < (l1.length : Int) ∧ ∀ x ∈ l3, okR l0.length l1.length x = true

set_option maxHeartbeats 800000 in
set_option maxRecDepth 100000 in
theorem Check_ok (k : Nat) (A0 : Option Addr) (c0 : Nat) (l0 : List ByteArray) (A1 : Option Addr) (c1 : Nat) (l1 : List ByteArray) (a2 : Int) (A3 : Option Addr) (c3 : Nat) (l3 : List S35) (w : World) (hr0 : Kd.C Kd.string w A0 l0.length l0) (hc0 : l0.length ≤ c0) (hr1 : Kd.C Kd.string w A1 l1.length l1) (hc1 : l1.length ≤ c1) (hr3 : Kd.C k35 w A3 l3.length l3) (hc3 : l3.length ≤ c3) (ho : okG k l0 l1 a2 l3) :
    Calls Tryd.prog 28 #[.agg #[.slice A0 l0.length c0, .slice A1 l1.length c1, .int .i64 a2, .slice A3 l3.length c3]] w fun e w' => e = .returned .nilIface ∧ Below w.heap.size w w' := by
  obtain ⟨h60, h120, hn0, hn1, ha0, ha1, hall⟩ := ho
  obtain ⟨Tw, hT⟩ : ∃ Tw : World → Prop, ∀ W, Tw W ↔ (Below w.heap.size w W ∧ Box w.heap.size #[.slice A0 l0.length c0, .slice A1 l1.length c1, .int .i64 a2, .slice A3 l3.length c3] 25 W) := ⟨_, fun _ => Iff.rfl⟩
  have start : Tw (w.alloc (.cells #[.slice A0 l0.length c0, .slice A1 l1.length c1, .int .i64 a2, .slice A3 l3.length c3] 25)) := (hT _).2 ⟨(Below.refl _ w).alloc (Nat.le_refl _) _, Box.new w _ _⟩
  have cells : ∀ W, Tw W → W.cell? ⟨w.heap.size, 0, none⟩ = some (.slice A0 l0.length c0) ∧ W.cell? ⟨w.heap.size, 1, none⟩ = some (.slice A1 l1.length c1) ∧ W.cell? ⟨w.heap.size, 2, none⟩ = some (.int .i64 a2) ∧ W.cell? ⟨w.heap.size, 3, none⟩ = some (.slice A3 l3.length c3) := by
    intro W hW
    have h3' := ((hT W).1 hW).2
    exact ⟨h3'.cell 0 _ rfl, h3'.cell 1 _ rfl, h3'.cell 2 _ rfl, h3'.cell 3 _ rfl⟩
  have more : ∀ W W', Tw W → Below W.heap.size W W' → Tw W' := fun W W' h hb => (hT W').2 ⟨((hT W).1 h).1.trans (hb.mono ((hT W).1 h).1.size), ((hT W).1 h).2.below hb⟩
  have last : ∀ W, Tw W → Below w.heap.size w W := fun W h => ((hT W).1 h).1
  clear hT
  have key0 : ∀ W, Tw W → Calls Tryd.prog 66 #[.slice A0 l0.length c0] W fun e w' => e = .returned (.bool true) ∧ Aside0 (Tw w') ∧ w'.cell? ⟨w.heap.size, 0, none⟩ = some (.slice A0 l0.length c0) ∧ w'.cell? ⟨w.heap.size, 1, none⟩ = some (.slice A1 l1.length c1) ∧ w'.cell? ⟨w.heap.size, 2, none⟩ = some (.int .i64 a2) ∧ w'.cell? ⟨w.heap.size, 3, none⟩ = some (.slice A3 l3.length c3) := by
    intro W hW
    refine (gram_names.calls k A0 c0 l0 true W (Kd.C_below hr0 (last W hW)) hc0 hn0).mono ?_
    rintro e w' ⟨he, hd⟩
    have := more W w' hW hd.below
    exact ⟨he, ⟨this⟩, cells _ this⟩
  have key1 : ∀ W, Tw W → Calls Tryd.prog 66 #[.slice A1 l1.length c1] W fun e w' => e = .returned (.bool true) ∧ Aside0 (Tw w') ∧ w'.cell? ⟨w.heap.size, 0, none⟩ = some (.slice A0 l0.length c0) ∧ w'.cell? ⟨w.heap.size, 1, none⟩ = some (.slice A1 l1.length c1) ∧ w'.cell? ⟨w.heap.size, 2, none⟩ = some (.int .i64 a2) ∧ w'.cell? ⟨w.heap.size, 3, none⟩ = some (.slice A3 l3.length c3) := by
    intro W hW
    refine (gram_names.calls k A1 c1 l1 true W (Kd.C_below hr1 (last W hW)) hc1 hn1).mono ?_
    rintro e w' ⟨he, hd⟩
    have := more W w' hW hd.below
    exact ⟨he, ⟨this⟩, cells _ this⟩
  have HR3 := Aside0.mk hr3
  have ST := Aside0.mk start
  have K0 := Aside0.mk key0
  have K1 := Aside0.mk key1
  have CE := Aside0.mk cells
  have MO := Aside0.mk more
  have LA := Aside0.mk last
  have AL := Aside0.mk hall
  have b1 : decide ((60 : Int) < l0.length) = false := decide_eq_false (by omega)
  have b1' : decide (60 < l0.length) = false := decide_eq_false (by omega)
  have b2 : decide ((60 : Int) - l0.length < l1.length) = false := decide_eq_false (by omega)
  have b3 : decide ((120 : Int) < l3.length) = false := decide_eq_false (by omega)
  have b3' : decide (120 < l3.length) = false := decide_eq_false (by omega)
  have b4 : decide (a2 < 0) = false := decide_eq_false (by omega)
  have b5 : decide ((l1.length : Int) ≤ a2) = false := decide_eq_false (by omega)
  clear hr0 hr1 hr3 start key0 key1 cells more last hall hn0 hn1
  go_enter Tryd.func28, Tryd.ntmps28
  go_wp2_with (first | (go_at_call 66; (with_reducible refine (K0.out _ ST.out).mono ?_); rintro e w1 ⟨rfl, t1, f0, f1, f2, f3⟩) | (go_at_call 66; (with_reducible refine (K1.out _ t1.out).mono ?_); rintro e w2 ⟨rfl, t2, g0, g1, g2, g3⟩))
  go_loopw [3, 4, 5, 53] (fun _ _ _ i wr => ∃ j : Nat, j ≤ l3.length ∧ i = .int .i64 j ∧ Aside0 (Tw wr)) (fun _ _ _ i _ => l3.length - (intOf i).toNat)
  case atStart => exact ⟨0, Nat.zero_le _, rfl, t2⟩
  case round =>
    obtain ⟨j, hj, rfl, htw⟩ := hrel
    clear f0 f1 f2 f3 g0 g1 g2 g3
    by_cases hlt : j < l3.length
    · obtain ⟨f0, f1, f2, f3⟩ := CE.out wr htw.out
      obtain ⟨ad, A, c, rfl, h0, h1, h2, h3⟩ := at_T35 (Kd.C_below HR3.out (LA.out wr htw.out)) (j : Int) (by omega) (by omega)
      have g0 : rd_T35 l3 (j : Int) = l3[j] := by simp [rd_T35, List.getD_eq_getElem?_getD, List.getElem?_eq_getElem hlt]
      have hok := AL.out l3[j] (List.getElem_mem hlt)
      rw [Int.toNat_natCast] at h0 h1
      rw [g0] at h0 h1 h2 h3
      generalize l3[j] = x at h0 h1 h2 h3 hok
      have hcall : ∀ W, Below wr.heap.size wr W → Calls Tryd.prog 67 #[.agg #[.slice A0 l0.length c0, .slice A1 l1.length c1, .int .i64 a2, .slice (some ad) l3.length c3], .agg #[.int .i64 x.f0, .slice A x.f1.length c]] W fun e w' => e = .returned .nilIface ∧ Aside0 (Tw w') := by
        intro W hW
        refine (Rule_ok A0 c0 l0.length A1 c1 l1.length a2 _ x A c W (by omega) (by omega) (Kd.C_below h3 hW) h2 hok).mono ?_
        rintro e w' ⟨he, hb⟩
        exact ⟨he, ⟨MO.out _ _ (MO.out _ _ htw.out hW) hb⟩⟩
      have f0a := fun o => Lib.cell?_alloc_some o f0
      have f1a := fun o => Lib.cell?_alloc_some o f1
      have f2a := fun o => Lib.cell?_alloc_some o f2
      have f3a := fun o => Lib.cell?_alloc_some o f3
      have HC := Aside0.mk hcall
      clear hcall h3 g0 hok
      go_wp2_with (go_at_call 67; (with_reducible refine (HC.out _ ((Below.refl _ wr).alloc (Nat.le_refl _) _)).mono ?_); rintro e w' ⟨rfl, t3⟩)
      go_roundw
      case measure => simp [intOf]; omega
      case rel => exact ⟨j + 1, by omega, rfl, t3⟩
    · have hjn : j = l3.length := by omega
      subst hjn
      go_wp2_with fail
      go_ret
      exact ⟨rfl, LA.out _ htw.out⟩
end Go.Proofs.YteaiejippkikpaaDoor.B
/- gram.Check: what it answers, whatever the grammar. -/
set_option linter.unusedVariables false
set_option linter.unusedSimpArgs false
namespace Go.Proofs.YteaiejippkikpaaDoor.B
open Go.RowKit Go.Proofs.YteaiejippkikpaaDoorW.PrintWords Go.Proofs.YteaiejippkikpaaDoorW.PrintLast Go.Proofs.YteaiejippkikpaaDoorW.PrintMore

/-- The sentinels that Check tells lie; ad: to what each points, by its number. -/
def Sents (ad : Int → Addr) (w : World) : Prop := w.cell? ⟨0, 0, none⟩ = some (.iface 185 (.pointer (some (ad 3)))) ∧ w.cell? ⟨1, 0, none⟩ = some (.iface 185 (.pointer (some (ad 10)))) ∧ w.cell? ⟨2, 0, none⟩ = some (.iface 185 (.pointer (some (ad 1))))
theorem Sents.below {ad : Int → Addr} {w w' : World} (h : Sents ad w) (hb : Below w.heap.size w w') : Sents ad w' :=
  ⟨(hb.cell (World.block_lt_of_cell? w _ h.1)).trans h.1, (hb.cell (World.block_lt_of_cell? w _ h.2.1)).trans h.2.1, (hb.cell (World.block_lt_of_cell? w _ h.2.2)).trans h.2.2⟩
/-- What is wrong of a rule: the error's number. -/
def checkR (t n : Nat) (x : S35) : Int := if 32 < x.f1.length then 3 else if x.f0 < 0 ∨ (n : Int) ≤ x.f0 ∨ x.f1.any (outS t n) = true then 1 else 0
/-- The first wrong rule, and what is wrong of it. -/
def chkRs (t n : Nat) : List S35 → Nat → Int × Int
  | [], _ => (0, -1)
  | x :: l, j => if checkR t n x = 0 then chkRs t n l (j + 1) else (checkR t n x, (j : Int))
theorem chkRs_drop (t n : Nat) (R : List S35) (j : Nat) (h : j < R.length) : chkRs t n (R.drop j) j = if checkR t n R[j] = 0 then chkRs t n (R.drop (j + 1)) (j + 1) else (checkR t n R[j], (j : Int)) := by
  rw [List.drop_eq_getElem_cons h, chkRs]
/-- What Check tells: the error's number, and the rule's. -/
def chk (b0 b1 : Bool) (l0 l1 : Nat) (a2 : Int) (R : List S35) : Int × Int :=
  if 60 < l0 + l1 ∨ 120 < R.length then (3, -1) else if (b0 && b1) = false then (10, -1) else if a2 < 0 ∨ (l1 : Int) ≤ a2 then (1, -1) else chkRs l0 l1 R 0
theorem checkR_cases (t n : Nat) (x : S35) : checkR t n x = 0 ∧ okR t n x = true ∨ (checkR t n x = 3 ∨ checkR t n x = 1) ∧ okR t n x = false := by
  unfold checkR okR
  by_cases c1 : 32 < x.f1.length
  · rw [if_pos c1]; right; simp; omega
  · rw [if_neg c1]
    by_cases c2 : x.f0 < 0 ∨ (n : Int) ≤ x.f0 ∨ x.f1.any (outS t n) = true
    · rw [if_pos c2]; right
      refine ⟨.inr rfl, ?_⟩
      rcases c2 with c | c | c
      · simp [show ¬ (0 ≤ x.f0) from by omega]
      · simp [show ¬ (x.f0 < (n : Int)) from by omega]
      · simp [c]
    · rw [if_neg c2]; left
      simp only [not_or, Bool.not_eq_true] at c2
      refine ⟨rfl, ?_⟩
      simp [c2.2.2, show x.f1.length ≤ 32 from by omega, show 0 ≤ x.f0 from by omega, show x.f0 < (n : Int) from by omega]
/-- An error value: none, a sentinel, a rule's. -/
def ErrV (ad : Int → Addr) (w : World) (v : Value) (p : Int × Int) : Prop :=
  (p.1 = 0 ∧ p.2 = -1 ∧ v = .nilIface) ∨ ((p.1 = 3 ∨ p.1 = 10 ∨ p.1 = 1) ∧ p.2 = -1 ∧ v = .iface 185 (.pointer (some (ad p.1)))) ∨
  ((p.1 = 3 ∨ p.1 = 1) ∧ 0 ≤ p.2 ∧ p.2 < 120 ∧ ∃ b, v = .iface 103 (.pointer (some ⟨b, 0, none⟩)) ∧ w.heap[b]? = some (.cells #[.int .i64 p.2, .iface 185 (.pointer (some (ad p.1)))] 105 (0, 0)))
def CheckPost (ad : Int → Addr) (w : World) (p : Int × Int) (e : Ending) (w' : World) : Prop := (∃ v, e = .returned v ∧ ErrV ad w' v p) ∧ Below w.heap.size w w'
theorem ErrV.nil {ad : Int → Addr} {w : World} {v : Value} {p : Int × Int} (h : ErrV ad w v p) (h0 : p.1 = 0) : v = .nilIface := by
  rcases h with h | h | h
  · exact h.2.2
  · rcases h.1 with h | h | h <;> omega
  · rcases h.1 with h | h <;> omega
theorem ErrV.some {ad : Int → Addr} {w : World} {v : Value} {p : Int × Int} (h : ErrV ad w v p) (h0 : p.1 ≠ 0) : ∃ t u, v = .iface t u := by
  rcases h with h | h | h
  · exact absurd h.1 h0
  · exact ⟨_, _, h.2.2⟩
  · obtain ⟨_, _, _, b, h, _⟩ := h; exact ⟨_, _, h⟩
theorem ErrV.below {ad : Int → Addr} {w w' : World} {v : Value} {p : Int × Int} (h : ErrV ad w v p) (hb : Below w.heap.size w w') : ErrV ad w' v p := by
  rcases h with h | h | ⟨h1, h2, h3, b, hv, hx⟩
  · exact .inl h
  · exact .inr (.inl h)
  · exact .inr (.inr ⟨h1, h2, h3, b, hv, Box.below (W := w) (W' := w') hx hb⟩)
/-- What a rule's look answers. -/
def ruleV (ad : Int → Addr) (c : Int) : Value := if c = 0 then .nilIface else .iface 185 (.pointer (some (ad c)))

set_option maxHeartbeats 1000000 in
set_option maxRecDepth 100000 in
theorem Rule_full (ad : Int → Addr) (A0 : Option Addr) (c0 t : Nat) (A1 : Option Addr) (c1 n : Nat) (a2 : Int) (v3 : Value) (x : S35) (A : Option Addr) (c : Nat) (w : World) (hg : Sents ad w) (ht : t ≤ 60) (hn : n ≤ 60) (hr : Kd.C (Kd.int .i64) w A x.f1.length x.f1) (hc : x.f1.length ≤ c) :
    Calls Tryd.prog 67 #[.agg #[.slice A0 t c0, .slice A1 n c1, .int .i64 a2, v3], .agg #[.int .i64 x.f0, .slice A x.f1.length c]] w fun e w' => e = .returned (ruleV ad (checkR t n x)) ∧ Below w.heap.size w w' := by
  obtain ⟨x0, x1⟩ := x
  dsimp only at hr hc ⊢
  have hB1 := (Box.new w #[.slice A0 t c0, .slice A1 n c1, .int .i64 a2, v3] 25).alloc (.cells #[.int .i64 x0, .slice A x1.length c] 35)
  have hb : Below w.heap.size w ((w.alloc (.cells #[.slice A0 t c0, .slice A1 n c1, .int .i64 a2, v3] 25)).alloc (.cells #[.int .i64 x0, .slice A x1.length c] 35)) := ((Below.refl _ w).alloc (Nat.le_refl _) _).alloc (by simp) _
  have hcall := ContS_calls A x1 c w.heap.size t n c0 c1 A0 A1 _ ht hn (hB1.cell 0 _ rfl) (hB1.cell 1 _ rfl) (Kd.C_below hr hb) hc
  obtain ⟨h0, h1, h2⟩ := hg.below hb
  have HB := Aside0.mk hb
  have H0 : ∀ w', Below ((w.alloc (.cells #[.slice A0 t c0, .slice A1 n c1, .int .i64 a2, v3] 25)).alloc (.cells #[.int .i64 x0, .slice A x1.length c] 35)).heap.size ((w.alloc (.cells #[.slice A0 t c0, .slice A1 n c1, .int .i64 a2, v3] 25)).alloc (.cells #[.int .i64 x0, .slice A x1.length c] 35)) w' → w'.cell? ⟨2, 0, none⟩ = some (.iface 185 (.pointer (some (ad 1)))) := fun w' hb' => (hb'.cell (World.block_lt_of_cell? _ _ h2)).trans h2
  by_cases k1 : x1.length ≤ 32
  · have b1 : decide ((32 : Int) < x1.length) = false := decide_eq_false (by omega)
    have b1' : decide (32 < x1.length) = false := decide_eq_false (by omega)
    by_cases k2 : x0 < 0
    · have b2 : decide (x0 < 0) = true := decide_eq_true k2
      have HE := Lib.hid (show ruleV ad (checkR t n ⟨x0, x1⟩) = .iface 185 (.pointer (some (ad 1))) by simp [ruleV, checkR, show ¬ 32 < x1.length from by omega, k2])
      clear hr hcall hB1 hb H0
      go_enter Tryd.func67, Tryd.ntmps67
      go_wp2_with fail
      go_ret
      exact ⟨by rw [HE.out]; rfl, HB.out⟩
    · have b2 : decide (x0 < 0) = false := decide_eq_false k2
      by_cases k3 : (n : Int) ≤ x0
      · have b3 : decide ((n : Int) ≤ x0) = true := decide_eq_true k3
        have HE := Lib.hid (show ruleV ad (checkR t n ⟨x0, x1⟩) = .iface 185 (.pointer (some (ad 1))) by simp [ruleV, checkR, show ¬ 32 < x1.length from by omega, k3])
        clear hr hcall hB1 hb H0
        go_enter Tryd.func67, Tryd.ntmps67
        go_wp2_with fail
        go_ret
        exact ⟨by rw [HE.out]; rfl, HB.out⟩
      · have b3 : decide ((n : Int) ≤ x0) = false := decide_eq_false k3
        cases hany : x1.any (outS t n) with
        | true =>
          rw [hany] at hcall
          have HE := Lib.hid (show ruleV ad (checkR t n ⟨x0, x1⟩) = .iface 185 (.pointer (some (ad 1))) by simp [ruleV, checkR, hany, show ¬ 32 < x1.length from by omega])
          have HC := Aside0.mk hcall
          have HH := Aside0.mk H0
          clear hr hcall hB1 hb hany H0
          go_enter Tryd.func67, Tryd.ntmps67
          go_wp2_with (go_at_call 96; (with_reducible refine HC.out.mono ?_); rintro e w' ⟨rfl, hb'⟩; have q2 := HH.out _ hb')
          go_ret
          exact ⟨by rw [HE.out]; rfl, HB.out.trans (hb'.mono HB.out.size)⟩
        | false =>
          rw [hany] at hcall
          have HE := Lib.hid (show ruleV ad (checkR t n ⟨x0, x1⟩) = .nilIface by simp [ruleV, checkR, hany, show ¬ 32 < x1.length from by omega, k2, k3])
          have HC := Aside0.mk hcall
          clear hr hcall hB1 hb hany H0
          go_enter Tryd.func67, Tryd.ntmps67
          go_wp2_with (go_at_call 96; (with_reducible refine HC.out.mono ?_); rintro e w' ⟨rfl, hb'⟩)
          go_ret
          exact ⟨by rw [HE.out]; rfl, HB.out.trans (hb'.mono HB.out.size)⟩
  · have b1 : decide ((32 : Int) < x1.length) = true := decide_eq_true (by omega)
    have b1' : decide (32 < x1.length) = true := decide_eq_true (by omega)
    have HE := Lib.hid (show ruleV ad (checkR t n ⟨x0, x1⟩) = .iface 185 (.pointer (some (ad 3))) by simp [ruleV, checkR, show 32 < x1.length from by omega])
    clear hr hcall hB1 hb H0
    go_enter Tryd.func67, Tryd.ntmps67
    go_wp2_with fail
    go_ret
    exact ⟨by rw [HE.out]; rfl, HB.out⟩
set_option maxHeartbeats 1500000 in
set_option maxRecDepth 100000 in
theorem Check_full (ad : Int → Addr) (k : Nat) (A0 : Option Addr) (c0 : Nat) (l0 : List ByteArray) (A1 : Option Addr) (c1 : Nat) (l1 : List ByteArray) (a2 : Int) (A3 : Option Addr) (c3 : Nat) (l3 : List S35) (b0 b1 : Bool) (w : World) (hG : Sents ad w) (hr0 : Kd.C Kd.string w A0 l0.length l0) (hc0 : l0.length ≤ c0) (hr1 : Kd.C Kd.string w A1 l1.length l1) (hc1 : l1.length ≤ c1) (hr3 : Kd.C k35 w A3 l3.length l3) (hc3 : l3.length ≤ c3)
    (hn0 : gram_names.f k l0 = some b0) (hn1 : gram_names.f k l1 = some b1) :
    Calls Tryd.prog 28 #[.agg #[.slice A0 l0.length c0, .slice A1 l1.length c1, .int .i64 a2, .slice A3 l3.length c3]] w (CheckPost ad w (chk b0 b1 l0.length l1.length a2 l3)) := by
  obtain ⟨x0, x1, x2⟩ := id hG
  obtain ⟨Tw, hT⟩ : ∃ Tw : World → Prop, ∀ W, Tw W ↔ (Below w.heap.size w W ∧ Box w.heap.size #[.slice A0 l0.length c0, .slice A1 l1.length c1, .int .i64 a2, .slice A3 l3.length c3] 25 W) := ⟨_, fun _ => Iff.rfl⟩
  have start : Tw (w.alloc (.cells #[.slice A0 l0.length c0, .slice A1 l1.length c1, .int .i64 a2, .slice A3 l3.length c3] 25)) := (hT _).2 ⟨(Below.refl _ w).alloc (Nat.le_refl _) _, Box.new w _ _⟩
  have cells : ∀ W, Tw W → W.cell? ⟨w.heap.size, 0, none⟩ = some (.slice A0 l0.length c0) ∧ W.cell? ⟨w.heap.size, 1, none⟩ = some (.slice A1 l1.length c1) ∧ W.cell? ⟨w.heap.size, 2, none⟩ = some (.int .i64 a2) ∧ W.cell? ⟨w.heap.size, 3, none⟩ = some (.slice A3 l3.length c3) ∧ W.cell? ⟨0, 0, none⟩ = some (.iface 185 (.pointer (some (ad 3)))) ∧ W.cell? ⟨1, 0, none⟩ = some (.iface 185 (.pointer (some (ad 10)))) ∧ W.cell? ⟨2, 0, none⟩ = some (.iface 185 (.pointer (some (ad 1)))) := by
    intro W hW
    have hb := ((hT W).1 hW).1
    have h3' := ((hT W).1 hW).2
    exact ⟨h3'.cell 0 _ rfl, h3'.cell 1 _ rfl, h3'.cell 2 _ rfl, h3'.cell 3 _ rfl, (hb.cell (World.block_lt_of_cell? w _ x0)).trans x0, (hb.cell (World.block_lt_of_cell? w _ x1)).trans x1, (hb.cell (World.block_lt_of_cell? w _ x2)).trans x2⟩
  have more : ∀ W W', Tw W → Below W.heap.size W W' → Tw W' := fun W W' h hb => (hT W').2 ⟨((hT W).1 h).1.trans (hb.mono ((hT W).1 h).1.size), ((hT W).1 h).2.below hb⟩
  have last : ∀ W, Tw W → Below w.heap.size w W := fun W h => ((hT W).1 h).1
  clear hT
  have key0 : ∀ W, Tw W → Calls Tryd.prog 66 #[.slice A0 l0.length c0] W fun e W => e = .returned (.bool b0) ∧ Aside0 (Tw W) ∧ W.cell? ⟨w.heap.size, 0, none⟩ = some (.slice A0 l0.length c0) ∧ W.cell? ⟨w.heap.size, 1, none⟩ = some (.slice A1 l1.length c1) ∧ W.cell? ⟨w.heap.size, 2, none⟩ = some (.int .i64 a2) ∧ W.cell? ⟨w.heap.size, 3, none⟩ = some (.slice A3 l3.length c3) ∧ W.cell? ⟨0, 0, none⟩ = some (.iface 185 (.pointer (some (ad 3)))) ∧ W.cell? ⟨1, 0, none⟩ = some (.iface 185 (.pointer (some (ad 10)))) ∧ W.cell? ⟨2, 0, none⟩ = some (.iface 185 (.pointer (some (ad 1)))) := by
    intro W hW
    refine (gram_names.calls k A0 c0 l0 b0 W (Kd.C_below hr0 (last W hW)) hc0 hn0).mono ?_
    rintro e w' ⟨he, hd⟩
    have := more W w' hW hd.below
    exact ⟨he, ⟨this⟩, cells _ this⟩
  have key1 : ∀ W, Tw W → Calls Tryd.prog 66 #[.slice A1 l1.length c1] W fun e W => e = .returned (.bool b1) ∧ Aside0 (Tw W) ∧ W.cell? ⟨w.heap.size, 0, none⟩ = some (.slice A0 l0.length c0) ∧ W.cell? ⟨w.heap.size, 1, none⟩ = some (.slice A1 l1.length c1) ∧ W.cell? ⟨w.heap.size, 2, none⟩ = some (.int .i64 a2) ∧ W.cell? ⟨w.heap.size, 3, none⟩ = some (.slice A3 l3.length c3) ∧ W.cell? ⟨0, 0, none⟩ = some (.iface 185 (.pointer (some (ad 3)))) ∧ W.cell? ⟨1, 0, none⟩ = some (.iface 185 (.pointer (some (ad 10)))) ∧ W.cell? ⟨2, 0, none⟩ = some (.iface 185 (.pointer (some (ad 1)))) := by
    intro W hW
    refine (gram_names.calls k A1 c1 l1 b1 W (Kd.C_below hr1 (last W hW)) hc1 hn1).mono ?_
    rintro e w' ⟨he, hd⟩
    have := more W w' hW hd.below
    exact ⟨he, ⟨this⟩, cells _ this⟩
  obtain ⟨s0, s1, s2, s3, s4, s5, s6⟩ := cells _ start
  have HR3 := Aside0.mk hr3
  have ST := Aside0.mk start
  have CE := Aside0.mk cells
  have MO := Aside0.mk more
  have LA := Aside0.mk last
  clear hr0 hr1 hr3 start cells more last hn0 hn1
  by_cases d1 : l0.length ≤ 60
  rotate_left
  · have e1 : decide ((60 : Int) < l0.length) = true := decide_eq_true (by omega)
    have e1' : decide (60 < l0.length) = true := decide_eq_true (by omega)
    clear key0 key1
    have HE := Lib.hid (show chk b0 b1 l0.length l1.length a2 l3 = (3, -1) by simp [chk, show 60 < l0.length + l1.length from by omega])
    go_enter Tryd.func28, Tryd.ntmps28
    go_wp2_with fail
    go_ret
    exact ⟨⟨_, rfl, by rw [HE.out]; exact .inr (.inl ⟨by simp, rfl, rfl⟩)⟩, LA.out _ ST.out⟩
  have e1 : decide ((60 : Int) < l0.length) = false := decide_eq_false (by omega)
  have e1' : decide (60 < l0.length) = false := decide_eq_false (by omega)
  by_cases d2 : l0.length + l1.length ≤ 60
  rotate_left
  · have e2 : decide ((60 : Int) - l0.length < l1.length) = true := decide_eq_true (by omega)
    clear key0 key1
    have HE := Lib.hid (show chk b0 b1 l0.length l1.length a2 l3 = (3, -1) by simp [chk, show 60 < l0.length + l1.length from by omega])
    go_enter Tryd.func28, Tryd.ntmps28
    go_wp2_with fail
    go_ret
    exact ⟨⟨_, rfl, by rw [HE.out]; exact .inr (.inl ⟨by simp, rfl, rfl⟩)⟩, LA.out _ ST.out⟩
  have e2 : decide ((60 : Int) - l0.length < l1.length) = false := decide_eq_false (by omega)
  by_cases d3 : l3.length ≤ 120
  rotate_left
  · have e3 : decide ((120 : Int) < l3.length) = true := decide_eq_true (by omega)
    have e3' : decide (120 < l3.length) = true := decide_eq_true (by omega)
    clear key0 key1
    have HE := Lib.hid (show chk b0 b1 l0.length l1.length a2 l3 = (3, -1) by simp [chk, show 120 < l3.length from by omega])
    go_enter Tryd.func28, Tryd.ntmps28
    go_wp2_with fail
    go_ret
    exact ⟨⟨_, rfl, by rw [HE.out]; exact .inr (.inl ⟨by simp, rfl, rfl⟩)⟩, LA.out _ ST.out⟩
  have e3 : decide ((120 : Int) < l3.length) = false := decide_eq_false (by omega)
  have e3' : decide (120 < l3.length) = false := decide_eq_false (by omega)
  have K0 := Aside0.mk key0
  have K1 := Aside0.mk key1
  clear key0 key1
  cases b0
  · skip
    have HE := Lib.hid (show chk false b1 l0.length l1.length a2 l3 = (10, -1) by simp [chk, show ¬ 60 < l0.length + l1.length from by omega, show ¬ 120 < l3.length from by omega])
    go_enter Tryd.func28, Tryd.ntmps28
    go_wp2_with (first | (go_at_call 66; (with_reducible refine (K0.out _ ST.out).mono ?_); rintro e w1 ⟨rfl, z1, f0, f1, f2, f3, f4, f5, f6⟩))
    go_ret
    exact ⟨⟨_, rfl, by rw [HE.out]; exact .inr (.inl ⟨by simp, rfl, rfl⟩)⟩, LA.out _ z1.out⟩
  cases b1
  · skip
    have HE := Lib.hid (show chk true false l0.length l1.length a2 l3 = (10, -1) by simp [chk, show ¬ 60 < l0.length + l1.length from by omega, show ¬ 120 < l3.length from by omega])
    go_enter Tryd.func28, Tryd.ntmps28
    go_wp2_with (first | (go_at_call 66; (with_reducible refine (K0.out _ ST.out).mono ?_); rintro e w1 ⟨rfl, z1, f0, f1, f2, f3, f4, f5, f6⟩) | (go_at_call 66; (with_reducible refine (K1.out _ z1.out).mono ?_); rintro e w2 ⟨rfl, z2, g0, g1, g2, g3, g4, g5, g6⟩))
    go_ret
    exact ⟨⟨_, rfl, by rw [HE.out]; exact .inr (.inl ⟨by simp, rfl, rfl⟩)⟩, LA.out _ z2.out⟩
  by_cases d4 : a2 < 0
  · have e4 : decide (a2 < 0) = true := decide_eq_true d4
    have HE := Lib.hid (show chk true true l0.length l1.length a2 l3 = (1, -1) by simp [chk, show ¬ 60 < l0.length + l1.length from by omega, show ¬ 120 < l3.length from by omega, d4])
    go_enter Tryd.func28, Tryd.ntmps28
    go_wp2_with (first | (go_at_call 66; (with_reducible refine (K0.out _ ST.out).mono ?_); rintro e w1 ⟨rfl, z1, f0, f1, f2, f3, f4, f5, f6⟩) | (go_at_call 66; (with_reducible refine (K1.out _ z1.out).mono ?_); rintro e w2 ⟨rfl, z2, g0, g1, g2, g3, g4, g5, g6⟩))
    go_ret
    exact ⟨⟨_, rfl, by rw [HE.out]; exact .inr (.inl ⟨by simp, rfl, rfl⟩)⟩, LA.out _ z2.out⟩
  have e4 : decide (a2 < 0) = false := decide_eq_false d4
  by_cases d5 : (l1.length : Int) ≤ a2
  · have e5 : decide ((l1.length : Int) ≤ a2) = true := decide_eq_true d5
    have HE := Lib.hid (show chk true true l0.length l1.length a2 l3 = (1, -1) by simp [chk, show ¬ 60 < l0.length + l1.length from by omega, show ¬ 120 < l3.length from by omega, d5])
    go_enter Tryd.func28, Tryd.ntmps28
    go_wp2_with (first | (go_at_call 66; (with_reducible refine (K0.out _ ST.out).mono ?_); rintro e w1 ⟨rfl, z1, f0, f1, f2, f3, f4, f5, f6⟩) | (go_at_call 66; (with_reducible refine (K1.out _ z1.out).mono ?_); rintro e w2 ⟨rfl, z2, g0, g1, g2, g3, g4, g5, g6⟩))
    go_ret
    exact ⟨⟨_, rfl, by rw [HE.out]; exact .inr (.inl ⟨by simp, rfl, rfl⟩)⟩, LA.out _ z2.out⟩
  have e5 : decide ((l1.length : Int) ≤ a2) = false := decide_eq_false d5
  have HE := Lib.hid (show chk true true l0.length l1.length a2 l3 = chkRs l0.length l1.length l3 0 by simp [chk, show ¬ 60 < l0.length + l1.length from by omega, show ¬ 120 < l3.length from by omega, d4, d5])
  go_enter Tryd.func28, Tryd.ntmps28
  go_wp2_with (first | (go_at_call 66; (with_reducible refine (K0.out _ ST.out).mono ?_); rintro e w1 ⟨rfl, z1, f0, f1, f2, f3, f4, f5, f6⟩) | (go_at_call 66; (with_reducible refine (K1.out _ z1.out).mono ?_); rintro e w2 ⟨rfl, z2, g0, g1, g2, g3, g4, g5, g6⟩))
  go_loopw [3, 4, 5, 53] (fun _ _ _ i wr => ∃ j : Nat, j ≤ l3.length ∧ i = .int .i64 j ∧ Aside0 (Tw wr) ∧ Hid (chkRs l0.length l1.length (l3.drop j) j = chkRs l0.length l1.length l3 0)) (fun _ _ _ i _ => l3.length - (intOf i).toNat)
  case atStart => exact ⟨0, Nat.zero_le _, rfl, z2, Lib.hid rfl⟩
  case round =>
    obtain ⟨j, hj, rfl, htw, hok⟩ := hrel
    clear f0 f1 f2 f3 f4 f5 f6 g0 g1 g2 g3 g4 g5 g6 s0 s1 s2 s3 s4 s5 s6
    by_cases hlt : j < l3.length
    · obtain ⟨f0, f1, f2, f3, f4, f5, f6⟩ := CE.out wr htw.out
      obtain ⟨ad', A, cc, rfl, h0, h1, h2, h3⟩ := at_T35 (Kd.C_below HR3.out (LA.out wr htw.out)) (j : Int) (by omega) (by omega)
      have q0 : rd_T35 l3 (j : Int) = l3[j] := by simp [rd_T35, List.getD_eq_getElem?_getD, List.getElem?_eq_getElem hlt]
      have hn := chkRs_drop l0.length l1.length l3 j hlt
      rw [Int.toNat_natCast] at h0 h1
      rw [q0] at h0 h1 h2 h3
      generalize l3[j] = x at h0 h1 h2 h3 hn
      have hGr : Sents ad wr := ⟨f4, f5, f6⟩
      have f0a := fun o => Lib.cell?_alloc_some o f0
      have f1a := fun o => Lib.cell?_alloc_some o f1
      have f2a := fun o => Lib.cell?_alloc_some o f2
      have f3a := fun o => Lib.cell?_alloc_some o f3
      have hcall : ∀ W, Below wr.heap.size wr W → Calls Tryd.prog 67 #[.agg #[.slice A0 l0.length c0, .slice A1 l1.length c1, .int .i64 a2, .slice (some ad') l3.length c3], .agg #[.int .i64 x.f0, .slice A x.f1.length cc]] W fun e w' => e = .returned (ruleV ad (checkR l0.length l1.length x)) ∧ Aside0 (Tw w') := by
        intro W hW
        refine (Rule_full ad A0 c0 l0.length A1 c1 l1.length a2 _ x A cc W (hGr.below hW) (by omega) (by omega) (Kd.C_below h3 hW) h2).mono ?_
        rintro e w' ⟨he, hb⟩
        exact ⟨he, ⟨MO.out _ _ (MO.out _ _ htw.out hW) hb⟩⟩
      by_cases hq : checkR l0.length l1.length x = 0
      · rw [if_pos hq] at hn
        rw [hq, show ruleV ad 0 = .nilIface from rfl] at hcall
        have HC := Aside0.mk hcall
        have HN := Lib.hid hn
        clear hcall h3 q0 hq hn hGr
        go_wp2_with (go_at_call 67; (with_reducible refine (HC.out _ ((Below.refl _ wr).alloc (Nat.le_refl _) _)).mono ?_); rintro e w' ⟨rfl, t3⟩)
        go_roundw
        case measure => simp [intOf]; omega
        case rel => exact ⟨j + 1, by omega, rfl, t3, Lib.hid (HN.out.symm.trans hok.out)⟩
      · rw [if_neg hq] at hn
        have hc : checkR l0.length l1.length x = 3 ∨ checkR l0.length l1.length x = 1 := (checkR_cases l0.length l1.length x).elim (fun h => absurd h.1 hq) (fun h => h.1)
        rw [show ruleV ad (checkR l0.length l1.length x) = .iface 185 (.pointer (some (ad (checkR l0.length l1.length x)))) from if_neg hq] at hcall
        generalize checkR l0.length l1.length x = c at hcall hn hc
        have HC := Aside0.mk hcall
        have HN := Lib.hid (hn.symm.trans hok.out)
        have HCC := Aside0.mk hc
        clear hcall h3 q0 hq hn hGr hc
        go_wp2_with (go_at_call 67; (with_reducible refine (HC.out _ ((Below.refl _ wr).alloc (Nat.le_refl _) _)).mono ?_); rintro e w' ⟨rfl, t3⟩)
        go_ret
        exact ⟨⟨_, rfl, by rw [HE.out, ← HN.out]; exact .inr (.inr ⟨HCC.out, by simp, by simp; omega, _, rfl, heap_alloc_new _ _⟩)⟩, (LA.out _ t3.out).alloc (LA.out _ t3.out).size _⟩
    · have hjn : j = l3.length := by omega
      subst hjn
      have HN := Lib.hid (show chkRs l0.length l1.length l3 0 = (0, -1) by have := hok.out; rw [List.drop_length] at this; exact this.symm)
      go_wp2_with fail
      go_ret
      exact ⟨⟨_, rfl, by rw [HE.out, HN.out]; exact .inl ⟨rfl, rfl, rfl⟩⟩, LA.out _ htw.out⟩
theorem chkRs_ok (t n : Nat) : ∀ (R : List S35) (j : Nat), (chkRs t n R j).1 = 0 → ∀ x ∈ R, okR t n x = true
  | [], _, _, x, hx => by cases hx
  | y :: R, j, h, x, hx => by
    unfold chkRs at h
    rcases checkR_cases t n y with ⟨h0, hok⟩ | ⟨h0, _⟩
    · rw [if_pos h0] at h
      rcases List.mem_cons.1 hx with rfl | hx
      · exact hok
      · exact chkRs_ok t n R (j + 1) h x hx
    · rw [if_neg (by rcases h0 with h0 | h0 <;> omega)] at h
      rcases h0 with h0 | h0 <;> (dsimp only at h; omega)
theorem chk_ok {b0 b1 : Bool} {n0 n1 : Nat} {a2 : Int} {R : List S35} (h : (chk b0 b1 n0 n1 a2 R).1 = 0) : n0 + n1 ≤ 60 ∧ R.length ≤ 120 ∧ b0 = true ∧ b1 = true ∧ 0 ≤ a2 ∧ a2 < (n1 : Int) ∧ ∀ x ∈ R, okR n0 n1 x = true := by
  unfold chk at h
  split at h
  · simp at h
  · split at h
    · simp at h
    · split at h
      · simp at h
      · rename_i h1 h2 h3
        simp only [Bool.and_eq_false_iff, not_or, Bool.not_eq_false] at h2
        exact ⟨by omega, by omega, h2.1, h2.2, by omega, by omega, chkRs_ok _ _ R 0 h⟩
end Go.Proofs.YteaiejippkikpaaDoor.B
/- What the row's listed sentinels give: each variable's cell, to what it points; no two point to one place. -/
set_option linter.unusedVariables false
set_option linter.unusedSimpArgs false
namespace Go.Proofs.YteaiejippkikpaaDoor.H
open Go.RowKit Go.ChangeShapes

/-- A list of sentinels: names, texts, the variables' numbers. -/
def sentData (nm : String) (l : List (String × List UInt8 × Nat)) : List (String × DataW Unit) := l.map fun x => (x.1, .iface nm (.ptr (.agg [.lit (.string x.2.1)])))
theorem sents_of_vars {P : Program} {W : World} {nm : String} {ti tp te ts : TypeId} {ms : Array (String × TypeId)} {f : Field}
    (hi : P.underlying ti = some (.interface ms)) (hrow : ∀ u, P.typeName? 3 u = some nm → u = tp)
    (hp : P.underlying tp = some (.pointer te)) (he : P.underlying te = some (.struct #[f])) (hft : f.type = ts) (hfo : f.offset = 0) (hs : P.underlying ts = some .string) (hc : P.cellsOf te = 1) (hcs : P.cellsOf ts = 1) :
    ∀ (l : List (String × List UInt8 × Nat)) (ps : List MemPlace), DataW.LaidVars P W (sentData nm l) ps → ps.Nodup →
      (∀ b off, MemPlace.cell b off ∈ ps → (∃ c t, W.heap[b]? = some (.cells c t (0, 0))) ∧ ∀ u v, W.cell? ⟨b, off, none⟩ = some (.iface u v) → Value.okWide P W .any 0 u v) →
      (∀ x ∈ l, P.globalNamed x.1 = some x.2.2 ∧ (P.globals[x.2.2]?).map (·.type) = some ti) →
      ∃ az : List Addr, az.length = l.length ∧ (∀ (i : Nat) x a, l[i]? = some x → az[i]? = some a → W.cell? ⟨x.2.2, 0, none⟩ = some (.iface tp (.pointer (some a))) ∧ ∃ c t, W.heap[a.block]? = some (.cells c t (0, 0))) ∧ (∀ a ∈ az, ∀ m ∈ MemPlace.row a 1, m ∈ ps) ∧ az.Nodup
  | [], ps, _, _, _, _ => ⟨[], rfl, fun i x a h => by simp at h, fun a h => by simp at h, List.nodup_nil⟩
  | x :: l, ps, h, hnd, hrows, hg => by
    obtain ⟨g, t, cs, fu, p, q, hg0, ht0, hv, hd, hr, rfl⟩ := h
    obtain ⟨hgx, htx⟩ := hg x (List.mem_cons_self ..)
    obtain rfl := Option.some.inj (hgx.symm.trans hg0)
    obtain rfl := Option.some.inj (htx.symm.trans ht0)
    obtain ⟨l0⟩ := cs
    have hcell := World.var?_cell hgx hv 0
    have ok0 : ∀ u v, l0 = [.iface u v] → Value.okWide P W .any 0 u v := fun u v e => by
      subst e
      exact (hrows x.2.2 0 (by simp [MemPlace.row])).2 u v (by simpa using hcell)
    obtain ⟨a, s, rfl, hca, _, _, rfl⟩ := errorString_of_trod hi hrow hp he hft hfo hs hc hcs hd ok0
    obtain ⟨az, e1, e2, e3, e4⟩ := sents_of_vars hi hrow hp he hft hfo hs hc hcs l q hr (List.nodup_append.1 hnd).2.1 (fun b off hm => hrows b off (by simp [hm])) (fun y hy => hg y (List.mem_cons_of_mem _ hy))
    refine ⟨a :: az, by simp [e1], ?_, ?_, ?_⟩
    · intro i y b hy hb
      cases i with
      | zero =>
        simp at hy hb
        subst hy hb
        exact ⟨by simpa using hcell, (hrows a.block a.off (by simp [MemPlace.row])).1⟩
      | succ i => exact e2 i y b (by simpa using hy) (by simpa using hb)
    · intro b hb m hm
      rcases List.mem_cons.1 hb with rfl | hb
      · simp [hm]
      · simp [e3 b hb m hm]
    · refine List.nodup_cons.2 ⟨fun hm => ?_, e4⟩
      have h1 := e3 a hm (.cell a.block a.off) (by simp [MemPlace.row])
      have h2 := List.nodup_append.1 hnd
      exact h2.2.2 (.cell a.block a.off) (by simp [MemPlace.row]) _ h1 rfl
theorem sents_of_laid {P : Program} {W : World} {nm : String} {ti tp te ts : TypeId} {ms : Array (String × TypeId)} {f : Field} {l : List (String × List UInt8 × Nat)}
    (hi : P.underlying ti = some (.interface ms)) (hrow : ∀ u, P.typeName? 3 u = some nm → u = tp)
    (hp : P.underlying tp = some (.pointer te)) (he : P.underlying te = some (.struct #[f])) (hft : f.type = ts) (hfo : f.offset = 0) (hs : P.underlying ts = some .string) (hc : P.cellsOf te = 1) (hcs : P.cellsOf ts = 1)
    (h : laidMet P (sentData nm l) W) (hg : ∀ x ∈ l, P.globalNamed x.1 = some x.2.2 ∧ (P.globals[x.2.2]?).map (·.type) = some ti) :
    ∃ az : List Addr, az.length = l.length ∧ (∀ (i : Nat) x a, l[i]? = some x → az[i]? = some a → W.cell? ⟨x.2.2, 0, none⟩ = some (.iface tp (.pointer (some a))) ∧ ∃ c t, W.heap[a.block]? = some (.cells c t (0, 0))) ∧ az.Nodup := by
  obtain ⟨ps, hv, hnd, hrows⟩ := h
  obtain ⟨az, e1, e2, _, e4⟩ := sents_of_vars hi hrow hp he hft hfo hs hc hcs l ps hv hnd hrows hg
  exact ⟨az, e1, e2, e4⟩
/-- The type of the sentinels, by its name alone. -/
theorem es_star : "*" ++ "errors.errorString" = "*errors.errorString" := by decide
theorem es_row : ∀ u, Tryd.prog.typeName? 3 u = some "*errors.errorString" → u = 185 := fun u h =>
  typeName_ptr_named (nm := "errors.errorString") (by rw [es_star]; kernel_rfl) (by kernel_rfl) (by decide) u (by rw [es_star]; exact h)
end Go.Proofs.YteaiejippkikpaaDoor.H
/- Three sentinels (ErrArg, ErrBounds, ErrName) as the listed variables tell them; a world in which they lie. -/
set_option linter.unusedVariables false
namespace Go.Proofs.YteaiejippkikpaaDoor.L3
open Go.ChangeShapes Go.RowKit Go.Proofs.YteaiejippkikpaaDoor.H Go.Proofs.YteaiejippkikpaaDoor.B

def names3 : List (String × List UInt8 × Nat) := [("dovetail/api.ErrArg", [100, 111, 118, 101, 116, 97, 105, 108, 58, 32, 97, 114, 103, 117, 109, 101, 110, 116], 2), ("dovetail/api.ErrBounds", [100, 111, 118, 101, 116, 97, 105, 108, 58, 32, 98, 111, 117, 110, 100, 115], 0), ("dovetail/api.ErrName", [100, 111, 118, 101, 116, 97, 105, 108, 58, 32, 110, 97, 109, 101], 1)]
theorem sents {W : World} (h : laidMetH Tryd.prog Rows.gramNamesRow.laid W) : ∃ ad, Sents ad W := by
  have h' : laidMet Tryd.prog (sentData "*errors.errorString" names3) W := h
  obtain ⟨az, hl, hx, _⟩ := sents_of_laid Tryd.underlying44 es_row Tryd.underlying185 Tryd.underlying205 rfl rfl Tryd.underlying9 (by kernel_rfl) (by kernel_rfl) h' (by
    intro x hx
    simp only [names3, List.mem_cons, List.not_mem_nil, or_false] at hx
    rcases hx with rfl | rfl | rfl <;> exact ⟨by kernel_rfl, by kernel_rfl⟩)
  match az, hl with
  | [a0, a1, a2], _ =>
    exact ⟨fun k => if k = 1 then a0 else if k = 3 then a1 else a2, (hx 1 _ a1 rfl rfl).1, (hx 2 _ a2 rfl rfl).1, (hx 0 _ a0 rfl rfl).1⟩
/-- A WORLD FOR THE WITNESS: the settled one, the three sentinels laid. -/
noncomputable def low : Nat := (World.holding Tryd.prog default ⟨#[], #[], []⟩).heap.size
noncomputable def laidWorld (os : Os) : World :=
  let w0 := World.holding Tryd.prog os ⟨#[.cells #[.string ⟨#[100, 111, 118, 101, 116, 97, 105, 108, 58, 32, 98, 111, 117, 110, 100, 115]⟩] 205, .cells #[.string ⟨#[100, 111, 118, 101, 116, 97, 105, 108, 58, 32, 110, 97, 109, 101]⟩] 205, .cells #[.string ⟨#[100, 111, 118, 101, 116, 97, 105, 108, 58, 32, 97, 114, 103, 117, 109, 101, 110, 116]⟩] 205], #[], []⟩
  let put (h : Array Obj) (g : Nat) (cs : Array Value) : Array Obj := h.modify g fun
    | .cells _ t frozen => .cells cs t frozen
    | o => o
  { w0 with heap := put (put (put w0.heap 0 #[.iface 185 (.pointer (some ⟨low, 0, none⟩))]) 1 #[.iface 185 (.pointer (some ⟨low + 1, 0, none⟩))]) 2 #[.iface 185 (.pointer (some ⟨low + 2, 0, none⟩))] }
theorem laid_met (os : Os) (args : Array Value) : laidMetH Tryd.prog Rows.gramNamesRow.laid ((laidWorld os).forCall (fun _ _ => 0) ⟨#[], args, []⟩).memory :=
  laidMet_of_run' 8 (by kernel_rfl) (by kernel_rfl)
end Go.Proofs.YteaiejippkikpaaDoor.L3
/- Sets of small numbers as whole numbers of 64 bits: membership. -/
set_option linter.unusedVariables false
set_option linter.unusedSimpArgs false
namespace Go.Proofs.YteaiejippkikpaaDoor.B
open Go.RowKit Go.Proofs.YteaiejippkikpaaDoorW.PrintWords Go.Proofs.YteaiejippkikpaaDoorW.PrintLast Go.Proofs.YteaiejippkikpaaDoorW.PrintMore

/-- A whole number of 64 bits. -/
def U (s : Int) : Prop := 0 ≤ s ∧ s < 2 ^ 64
/-- Is a number in a set? -/
def mem (s : Int) (i : Nat) : Bool := s.toNat.testBit i
theorem U.nat {s : Int} (h : U s) : ∃ n : Nat, s = n ∧ n < 2 ^ 64 := ⟨s.toNat, by have := h.1; omega, by have := h.1; have := h.2; omega⟩
theorem U.of {n : Nat} (h : n < 2 ^ 64) : U (n : Int) := ⟨by omega, by exact_mod_cast h⟩
theorem wraps_u64 (n : Int) (h₀ : 0 ≤ n) (h₁ : n < 2 ^ 64) : IntKind.u64.wrap n = n := by
  simp [IntKind.wrap, IntKind.bits, IntKind.signed]; omega
theorem or_nat (a b : Nat) (ha : a < 2 ^ 64) (hb : b < 2 ^ 64) : Go.bits .or .u64 (a : Int) (b : Int) = ((a ||| b : Nat) : Int) := (Go.bits_nat .u64 64 (by decide) wraps_u64 a b ha hb).2
theorem andNot_nat (a b : Nat) (ha : a < 2 ^ 64) (hb : b < 2 ^ 64) : ∃ n : Nat, Go.bits .andNot .u64 (a : Int) (b : Int) = (n : Int) ∧ n < 2 ^ 64 ∧ ∀ i, n.testBit i = (a.testBit i && !b.testBit i) := by
  refine ⟨(BitVec.ofNat 64 a &&& ~~~ BitVec.ofNat 64 b).toNat, ?_, BitVec.isLt _, fun i => ?_⟩
  · simp only [Go.bits, BitVec.ofInt_natCast]
    refine wraps_u64 _ (Int.natCast_nonneg _) ?_
    exact_mod_cast BitVec.isLt (BitVec.ofNat 64 a &&& ~~~ BitVec.ofNat 64 b)
  · rw [BitVec.testBit_toNat, BitVec.getLsbD_and, BitVec.getLsbD_not, BitVec.getLsbD_ofNat, BitVec.getLsbD_ofNat]
    by_cases h : i < 64
    · simp [h]
    · have := Nat.testBit_lt_two_pow (Nat.lt_of_lt_of_le ha (Nat.pow_le_pow_right (by decide) (show 64 ≤ i by omega)))
      simp [this]
theorem mem_nat (n i : Nat) : mem (n : Int) i = n.testBit i := by simp [mem]
theorem mem_zero (i : Nat) : mem 0 i = false := by simp [mem]
theorem U_zero : U 0 := ⟨by omega, by decide⟩
theorem U_or {a b : Int} (ha : U a) (hb : U b) : U (Go.bits .or .u64 a b) := by
  obtain ⟨a, rfl, ha'⟩ := ha.nat
  obtain ⟨b, rfl, hb'⟩ := hb.nat
  rw [or_nat a b ha' hb']
  exact U.of (Nat.or_lt_two_pow ha' hb')
theorem mem_or {a b : Int} (ha : U a) (hb : U b) (i : Nat) : mem (Go.bits .or .u64 a b) i = (mem a i || mem b i) := by
  obtain ⟨a, rfl, ha'⟩ := ha.nat
  obtain ⟨b, rfl, hb'⟩ := hb.nat
  rw [or_nat a b ha' hb', mem_nat, mem_nat, mem_nat, Nat.testBit_or]
theorem or_ge {a b : Int} (ha : U a) (hb : U b) : a ≤ Go.bits .or .u64 a b := by
  obtain ⟨a, rfl, ha'⟩ := ha.nat
  obtain ⟨b, rfl, hb'⟩ := hb.nat
  rw [or_nat a b ha' hb']
  exact_mod_cast Nat.left_le_or
theorem U_ext {a b : Int} (ha : U a) (hb : U b) (h : ∀ i, mem a i = mem b i) : a = b := by
  obtain ⟨a, rfl, ha'⟩ := ha.nat
  obtain ⟨b, rfl, hb'⟩ := hb.nat
  congr 1
  exact Nat.eq_of_testBit_eq fun i => by simpa [mem_nat] using h i
theorem andNot_zero {a b : Int} (ha : U a) (hb : U b) : Go.bits .andNot .u64 a b = 0 ↔ ∀ i, mem a i = true → mem b i = true := by
  obtain ⟨a, rfl, ha'⟩ := ha.nat
  obtain ⟨b, rfl, hb'⟩ := hb.nat
  obtain ⟨n, hn, _, ht⟩ := andNot_nat a b ha' hb'
  rw [hn]
  constructor
  · intro h i hi
    obtain rfl : n = 0 := by exact_mod_cast h
    have := ht i
    rw [mem_nat] at hi ⊢
    rw [hi] at this
    simpa using this
  · intro h
    have : n = 0 := Nat.eq_of_testBit_eq fun i => by
      rw [ht i, Nat.zero_testBit]
      have := h i
      rw [mem_nat, mem_nat] at this
      cases hx : a.testBit i
      · rfl
      · simp [this hx]
    rw [this]; rfl
theorem shl_one (i : Nat) (hi : i < 64) : shl .u64 1 (i : Int) = ((2 ^ i : Nat) : Int) := by
  unfold shl
  have : min ((i : Int)).toNat IntKind.u64.bits = i := by simp [IntKind.bits]; omega
  rw [this]
  have h2 : (2 : Nat) ^ i < 2 ^ 64 := Nat.pow_lt_pow_right (by decide) hi
  rw [Int.one_mul, wraps_u64]
  · simp
  · exact Int.pow_nonneg (by decide)
  · exact_mod_cast h2
theorem U_one (i : Nat) (hi : i < 64) : U (shl .u64 1 (i : Int)) := by
  rw [shl_one i hi]; exact U.of (Nat.pow_lt_pow_right (by decide) hi)
theorem mem_one (i : Nat) (hi : i < 64) (j : Nat) : mem (shl .u64 1 (i : Int)) j = decide (i = j) := by
  rw [shl_one i hi, mem_nat, Nat.testBit_two_pow]
end Go.Proofs.YteaiejippkikpaaDoor.B
/- Reading lists at a natural number; renamings, and to which nonterminals one comes by them. -/
set_option linter.unusedVariables false
set_option linter.unusedSimpArgs false
namespace Go.Proofs.YteaiejippkikpaaDoor.B
open Go.RowKit Go.Proofs.YteaiejippkikpaaDoorW.PrintWords Go.Proofs.YteaiejippkikpaaDoorW.PrintLast Go.Proofs.YteaiejippkikpaaDoorW.PrintMore

theorem rd_D (l : List Int) (i : Nat) : rd l (i : Int) = l.getD i 0 := by simp [rd]
theorem rdS_D (l : List ByteArray) (i : Nat) : rdOf ByteArray.empty l (i : Int) = l.getD i ByteArray.empty := by simp [rdOf]
theorem rdR_D (l : List S35) (i : Nat) : rd_T35 l (i : Int) = l.getD i z35 := by simp [rd_T35]
theorem getD_lt {α : Type} (l : List α) (i : Nat) (d : α) (h : i < l.length) : l.getD i d = l[i] := by simp [List.getD_eq_getElem?_getD, List.getElem?_eq_getElem h]
theorem getD_set {α : Type} (l : List α) (m i : Nat) (v d : α) : (l.set m v).getD i d = if m = i ∧ i < l.length then v else l.getD i d := by
  simp only [List.getD_eq_getElem?_getD, List.getElem?_set]
  by_cases h : m = i
  · subst h
    by_cases h2 : m < l.length
    · simp [h2]
    · simp [h2, List.getElem?_eq_none (show l.length ≤ m by omega)]
  · simp [h]
theorem sum_set : ∀ (l : List Int) (m : Nat) (v : Int), m < l.length → (l.set m v).sum = l.sum - l.getD m 0 + v
  | [], m, v, h => by simp at h
  | x :: l, 0, v, _ => by simp [List.sum_cons]; omega
  | x :: l, m + 1, v, h => by
    have := sum_set l m v (by simpa using h)
    simp only [List.set_cons_succ, List.sum_cons, List.getD_cons_succ]
    omega
theorem sum_le : ∀ (l l' : List Int), l.length = l'.length → (∀ i, i < l.length → l.getD i 0 ≤ l'.getD i 0) → l.sum ≤ l'.sum
  | [], [], _, _ => by simp
  | [], _ :: _, h, _ => by simp at h
  | _ :: _, [], h, _ => by simp at h
  | x :: l, y :: l', h, hi => by
    have h1 := sum_le l l' (by simpa using h) (fun i hl => by simpa using hi (i + 1) (by simpa using hl))
    have h0 := hi 0 (by simp)
    simp only [List.getD_cons_zero] at h0
    simp only [List.sum_cons]
    omega
theorem sum_bound : ∀ (l : List Int), (∀ i, i < l.length → l.getD i 0 < 2 ^ 64) → l.sum ≤ l.length * 2 ^ 64
  | [], _ => by simp
  | x :: l, hi => by
    have h1 := sum_bound l (fun i hl => by simpa using hi (i + 1) (by simpa using hl))
    have h0 := hi 0 (by simp)
    simp only [List.getD_cons_zero] at h0
    simp only [List.sum_cons, List.length_cons]
    push_cast
    omega
theorem w64 (i : Nat) (h : i < 9223372036854775807) : wrap64 ((i : Int) + 1) = ((i + 1 : Nat) : Int) := by unfold wrap64; omega

/-- The nonterminal that a rule renames. -/
def ren (x : S35) : Option Nat := match x.f1 with
  | [s] => if s < 0 then some (-1 - s).toNat else none
  | _ => none
theorem okR_sides {t n : Nat} {x : S35} (h : okR t n x = true) : x.f1.length ≤ 32 ∧ 0 ≤ x.f0 ∧ x.f0 < n ∧ ∀ s ∈ x.f1, s < t ∧ -(n : Int) ≤ s := by
  simp only [okR, Bool.and_eq_true, decide_eq_true_eq, Bool.not_eq_true', List.any_eq_false, outS, Bool.or_eq_true, not_or, Int.not_le, Int.not_lt] at h
  exact ⟨h.1.1.1, h.1.1.2, h.1.2, fun s hs => by simpa using h.2 s hs⟩
theorem ren_lt {t n : Nat} {x : S35} (h : okR t n x = true) {m : Nat} (hm : ren x = some m) : m < n := by
  have hs := (okR_sides h).2.2.2
  unfold ren at hm
  split at hm
  · rename_i s he
    split at hm
    · have := hs s (by rw [he]; simp)
      have := Option.some.inj hm
      omega
    · cases hm
  · cases hm
theorem ren_f {t n : Nat} {x : S35} (h : okR t n x = true) (hn : n ≤ 60) : gram_Renaming.f x.f0 x.f1 = some (match ren x with | some m => ((m : Int), true) | none => (0, false)) := by
  have hs := (okR_sides h).2.2.2
  unfold gram_Renaming.f ren
  generalize x.f1 = l at hs
  match l with
  | [] => simp
  | [s] =>
    have := hs s (by simp)
    have h0 : rd [s] 0 = s := by simp [rd]
    simp only [List.length_singleton, h0]
    by_cases c : s < 0
    · have h1 : wrap64 (-1 - s) = ((-1 - s).toNat : Int) := by unfold wrap64; omega
      rw [if_pos (by rfl), if_pos (by decide), if_neg (by omega), if_pos c, h1]
    · rw [if_pos (by rfl), if_pos (by decide), if_pos (by omega), if_neg c]
  | a :: b :: l => simp; omega
/-- A renaming of m by a. -/
def Edge (R : List S35) (a m : Nat) : Prop := ∃ x ∈ R, x.f0 = (a : Int) ∧ ren x = some m
/-- a comes to b. -/
inductive Reach (R : List S35) : Nat → Nat → Prop
  | refl (a : Nat) : Reach R a a
  | step {a m b : Nat} : Edge R a m → Reach R m b → Reach R a b
theorem Reach.snoc {R : List S35} {a m b : Nat} (h : Reach R a m) (e : Edge R m b) : Reach R a b := by
  induction h with
  | refl a => exact .step e (.refl _)
  | step e' _ ih => exact .step e' (ih e)
theorem Reach.trans {R : List S35} {a m b : Nat} (h : Reach R a m) (h' : Reach R m b) : Reach R a b := by
  induction h with
  | refl a => exact h'
  | step e _ ih => exact .step e (ih h')
theorem Edge.lt {R : List S35} {t n a m : Nat} (hR : ∀ x ∈ R, okR t n x = true) (e : Edge R a m) : a < n ∧ m < n := by
  obtain ⟨x, hx, ha, hm⟩ := e
  have := okR_sides (hR x hx)
  exact ⟨by omega, ren_lt (hR x hx) hm⟩
theorem Reach.lt {R : List S35} {t n a b : Nat} (hR : ∀ x ∈ R, okR t n x = true) (h : Reach R a b) (hb : b < n) : a < n := by
  cases h with
  | refl => exact hb
  | step e _ => exact (e.lt hR).1
end Go.Proofs.YteaiejippkikpaaDoor.B
/- Names: their places, and which lists of names are right. -/
set_option linter.unusedVariables false
set_option linter.unusedSimpArgs false
namespace Go.Proofs.YteaiejippkikpaaDoor.B
open Go.RowKit Go.Proofs.YteaiejippkikpaaDoorW.PrintWords Go.Proofs.YteaiejippkikpaaDoorW.PrintLast Go.Proofs.YteaiejippkikpaaDoorW.PrintMore

theorem toL_eq (a b : ByteArray) : a.toList = b.toList ↔ a = b := by
  constructor
  · intro h
    rw [ByteArray.toList_eq, ByteArray.toList_eq] at h
    have := Array.ext' h
    cases a; cases b; simp_all
  · rintro rfl; rfl

/-- The place of a name from a place on; -1: none. -/
def place (l : List ByteArray) (s : ByteArray) (i : Nat) : Int := if (l.drop i).findIdx (fun x => decide (s = x)) < (l.drop i).length then ((i + (l.drop i).findIdx (fun x => decide (s = x)) : Nat) : Int) else -1
theorem place_end (l : List ByteArray) (s : ByteArray) : place l s l.length = -1 := by simp [place]
theorem place_step (l : List ByteArray) (s : ByteArray) (i : Nat) (h : i < l.length) : place l s i = if s = l[i] then (i : Int) else place l s (i + 1) := by
  unfold place
  rw [List.drop_eq_getElem_cons h, List.findIdx_cons, List.length_cons]
  by_cases c : s = l[i]
  · rw [if_pos c, decide_eq_true c, cond_true, if_pos (by omega)]; rfl
  · rw [if_neg c, decide_eq_false c, cond_false]
    by_cases c2 : (l.drop (i + 1)).findIdx (fun x => decide (s = x)) < (l.drop (i + 1)).length
    · rw [if_pos (by omega), if_pos c2]; congr 1; omega
    · rw [if_neg (by omega), if_neg c2]
theorem place_nonneg (l : List ByteArray) (s : ByteArray) : 0 ≤ place l s 0 ↔ s ∈ l := by
  have : (l.findIdx (fun x => decide (s = x)) < l.length) ↔ s ∈ l := by
    rw [List.findIdx_lt_length]; simp
  unfold place
  rw [List.drop_zero, ← this]
  split <;> omega
theorem Index_l (l : List ByteArray) (s : ByteArray) (hm : l.length ≤ 9223372036854775807) : ∀ (d i k : Nat), l.length - i = d → i ≤ l.length → d < k → slices_Index_string_string.l0 k l s (l.length : Int) (i : Int) = some (place l s i) := by
  intro d
  induction d with
  | zero =>
    intro i k hi hle hk
    obtain ⟨k, rfl⟩ : ∃ j, k = j + 1 := ⟨k - 1, by omega⟩
    have : i = l.length := by omega
    subst this
    rw [slices_Index_string_string.l0, if_neg (by omega), place_end]
  | succ d ih =>
    intro i k hi hle hk
    obtain ⟨k, rfl⟩ : ∃ j, k = j + 1 := ⟨k - 1, by omega⟩
    have hlt : i < l.length := by omega
    rw [slices_Index_string_string.l0, if_pos (by omega), if_pos (by omega), if_pos (by omega), rdS_D, getD_lt _ _ _ hlt, place_step l s i hlt]
    by_cases c : s = l[i]
    · rw [if_pos ((toL_eq _ _).2 c), if_pos c]
    · rw [if_neg (fun h => c ((toL_eq _ _).1 h)), if_neg c, w64 i (by omega), ih (i + 1) k (by omega) (by omega) (by omega)]
theorem Index_f (l : List ByteArray) (s : ByteArray) (k : Nat) (hm : l.length ≤ 9223372036854775807) (hk : l.length < k) : slices_Index_string_string.f k l s = some (place l s 0) := by
  unfold slices_Index_string_string.f
  have := Index_l l s hm l.length 0 k (by omega) (by omega) hk
  simpa using this
theorem Find_f (l : List ByteArray) (s : ByteArray) (k : Nat) (hm : l.length ≤ 9223372036854775807) (hk : l.length < k) : gram_find.f k l s = some (mx (place l s 0) 0, decide (0 ≤ place l s 0)) := by
  unfold gram_find.f
  rw [Index_f l s k hm hk, Option.bind_some]

/-- Is a name of a list wrong? -/
def faultAt (l : List ByteArray) (i : Nat) : Bool := decide ((l.getD i ByteArray.empty).size = 0) || decide (32 < (l.getD i ByteArray.empty).size) || (l.take i).any (fun x => decide (l.getD i ByteArray.empty = x))
/-- Are all names right? -/
def namesOK (l : List ByteArray) : Bool := (List.range l.length).all fun i => !faultAt l i
def namesFrom (l : List ByteArray) (i : Nat) : Bool := (List.range' i (l.length - i)).all fun i => !faultAt l i
theorem namesFrom_zero (l : List ByteArray) : namesFrom l 0 = namesOK l := by simp [namesFrom, namesOK, List.range_eq_range']
theorem namesFrom_step (l : List ByteArray) (i : Nat) (h : i < l.length) : namesFrom l i = (!faultAt l i && namesFrom l (i + 1)) := by
  unfold namesFrom
  rw [show l.length - i = (l.length - (i + 1)) + 1 from by omega, List.range'_succ, List.all_cons]
theorem namesFrom_end (l : List ByteArray) : namesFrom l l.length = true := by simp [namesFrom]

theorem NameFault_f (l : List ByteArray) (i k : Nat) (h : i < l.length) (hm : l.length ≤ 9223372036854775807) (hk : l.length < k) : gram_nameFault.f k l (i : Int) = some (faultAt l i) := by
  unfold gram_nameFault.f faultAt slices_Contains_string_string.f
  rw [if_pos (by omega), if_pos (by omega), rdS_D, Int.toNat_natCast]
  generalize l.getD i ByteArray.empty = s
  by_cases c1 : s.size = 0
  · rw [if_pos (by omega)]; simp [c1]
  · rw [if_neg (by omega)]
    by_cases c2 : 32 < s.size
    · rw [if_pos (by omega)]; simp [c2]
    · rw [if_neg (by omega), if_pos (by omega), Index_f _ s k (by rw [List.length_take]; omega) (by rw [List.length_take]; omega), Option.bind_some, Option.bind_some]
      cases c3 : (l.take i).any (fun x => decide (s = x)) with
      | true =>
        have : s ∈ l.take i := by
          obtain ⟨x, hx, he⟩ := List.any_eq_true.1 c3
          rw [of_decide_eq_true he]; exact hx
        rw [if_pos (decide_eq_true ((place_nonneg (l.take i) s).2 this)), Bool.or_true]
      | false =>
        have : ¬ s ∈ l.take i := fun hs => by
          have := List.any_eq_false.1 c3 s hs
          simp at this
        rw [if_neg (by rw [decide_eq_true_eq]; exact fun h => this ((place_nonneg (l.take i) s).1 h)), decide_eq_false c1, decide_eq_false c2]; rfl
theorem Names_l (l : List ByteArray) (hm : l.length ≤ 9223372036854775807) : ∀ (d i k : Nat), l.length - i = d → i ≤ l.length → d + l.length + 1 < k → gram_names.l0 k l (l.length : Int) (i : Int) = some (namesFrom l i) := by
  intro d
  induction d with
  | zero =>
    intro i k hi hle hk
    obtain ⟨k, rfl⟩ : ∃ j, k = j + 1 := ⟨k - 1, by omega⟩
    have : i = l.length := by omega
    subst this
    rw [gram_names.l0, if_neg (by omega), namesFrom_end]
  | succ d ih =>
    intro i k hi hle hk
    obtain ⟨k, rfl⟩ : ∃ j, k = j + 1 := ⟨k - 1, by omega⟩
    have hlt : i < l.length := by omega
    rw [gram_names.l0, if_pos (by omega), NameFault_f l i k hlt hm (by omega), Option.bind_some, namesFrom_step l i hlt]
    cases hf : faultAt l i with
    | true => rw [if_pos rfl]; rfl
    | false => rw [if_neg (by decide), w64 i (by omega), ih (i + 1) k (by omega) (by omega) (by omega)]; rfl
theorem Names_f (l : List ByteArray) (k : Nat) (hm : l.length ≤ 9223372036854775807) (hk : l.length + l.length + 1 < k) : gram_names.f k l = some (namesOK l) := by
  unfold gram_names.f
  have := Names_l l hm l.length 0 k (by omega) (by omega) hk
  rw [namesFrom_zero] at this
  simpa using this
end Go.Proofs.YteaiejippkikpaaDoor.B
namespace Go.Proofs.YteaiejippkikpaaDoor.B
open Go.RowKit Go.Proofs.YteaiejippkikpaaDoorW.PrintWords Go.Proofs.YteaiejippkikpaaDoorW.PrintLast Go.Proofs.YteaiejippkikpaaDoorW.PrintMore
attribute [local go_sem] max2_int min2_int max_two min_two max_three min_three max_four min_four   -- for this text's walks alone
set_option linter.unusedVariables false
set_option linter.unusedSimpArgs false

/-! ### dovetailref03_Check: function 64 -/
mutual
def dovetailref03_Check.j0 : Nat → Int → Int → Bool → List ByteArray → List ByteArray → Int → List (S35) → Option (Int × Int)
  | 0, _, _, _, _, _, _, _ => none
  | k + 1, x4, x5, x32, x147000, x147001, x147002, x147003 => if x32 = true then (some (3, (-1))) else ((dovetailref03_named.f k x147000).bind fun t147 => (if t147 = true then ((dovetailref03_named.f k x147001).bind fun t148 => (dovetailref03_Check.j1 k x4 x5 (!t148) x147000 x147001 x147002 x147003)) else (dovetailref03_Check.j1 k x4 x5 true x147000 x147001 x147002 x147003)))
def dovetailref03_Check.j1 : Nat → Int → Int → Bool → List ByteArray → List ByteArray → Int → List (S35) → Option (Int × Int)
  | 0, _, _, _, _, _, _, _ => none
  | k + 1, x4, x5, x42, x147000, x147001, x147002, x147003 => if x42 = true then (some (10, (-1))) else (if x5 = 0 then (dovetailref03_Check.j2 k x4 x5 true x147000 x147001 x147002 x147003) else (if x147002 < 0 then (dovetailref03_Check.j2 k x4 x5 true x147000 x147001 x147002 x147003) else (dovetailref03_Check.j2 k x4 x5 (decide (x147002 ≥ x5)) x147000 x147001 x147002 x147003)))
def dovetailref03_Check.j2 : Nat → Int → Int → Bool → List ByteArray → List ByteArray → Int → List (S35) → Option (Int × Int)
  | 0, _, _, _, _, _, _, _ => none
  | k + 1, x4, x5, x55, x147000, x147001, x147002, x147003 => if x55 = true then (some (1, (-1))) else (dovetailref03_Check.l0 k x4 x5 0 x147000 x147001 x147002 x147003)
def dovetailref03_Check.l0 : Nat → Int → Int → Int → List ByteArray → List ByteArray → Int → List (S35) → Option (Int × Int)
  | 0, _, _, _, _, _, _, _ => none
  | k + 1, x4, x5, x6, x147000, x147001, x147002, x147003 => if x6 < (x147003.length : Int) then (if 0 ≤ x6 then (if (((rd_T35 x147003 x6).f1).length : Int) > 32 then (some (3, x6)) else (if ((rd_T35 x147003 x6).f0) < 0 then (dovetailref03_Check.j4 k x4 x5 x6 true x147000 x147001 x147002 x147003 ((rd_T35 x147003 x6).f0) ((rd_T35 x147003 x6).f1)) else (dovetailref03_Check.j4 k x4 x5 x6 (decide (((rd_T35 x147003 x6).f0) ≥ x5)) x147000 x147001 x147002 x147003 ((rd_T35 x147003 x6).f0) ((rd_T35 x147003 x6).f1)))) else (none)) else (some (0, (-1)))
def dovetailref03_Check.j4 : Nat → Int → Int → Int → Bool → List ByteArray → List ByteArray → Int → List (S35) → Int → List Int → Option (Int × Int)
  | 0, _, _, _, _, _, _, _, _, _, _ => none
  | k + 1, x4, x5, x6, x81, x147000, x147001, x147002, x147003, x151000, x151001 => if x81 = true then (some (1, x6)) else (dovetailref03_Check.l1 k x4 x5 x6 0 x147000 x147001 x147002 x147003 x151000 x151001)
def dovetailref03_Check.l1 : Nat → Int → Int → Int → Int → List ByteArray → List ByteArray → Int → List (S35) → Int → List Int → Option (Int × Int)
  | 0, _, _, _, _, _, _, _, _, _, _ => none
  | k + 1, x4, x5, x6, x8, x147000, x147001, x147002, x147003, x151000, x151001 => if x8 < (x151001.length : Int) then (if 0 ≤ x8 then (if (rd x151001 x8) ≥ x4 then (some (1, x6)) else (if (rd x151001 x8) < (wrap64 (-x5)) then (some (1, x6)) else (dovetailref03_Check.l1 k x4 x5 x6 (wrap64 (x8 + 1)) x147000 x147001 x147002 x147003 x151000 x151001))) else (none)) else (dovetailref03_Check.l0 k x4 x5 (wrap64 (x6 + 1)) x147000 x147001 x147002 x147003)
end
def dovetailref03_Check.f (k : Nat) (l0_0 : List ByteArray) (l0_1 : List ByteArray) (a0_2 : Int) (l0_3 : List (S35)) : Option (Int × Int) := if (l0_0.length : Int) > 60 then (dovetailref03_Check.j0 k (l0_0.length : Int) (l0_1.length : Int) true l0_0 l0_1 a0_2 l0_3) else (if (l0_1.length : Int) > 60 then (dovetailref03_Check.j0 k (l0_0.length : Int) (l0_1.length : Int) true l0_0 l0_1 a0_2 l0_3) else (if (wrap64 ((l0_0.length : Int) + (l0_1.length : Int))) > 60 then (dovetailref03_Check.j0 k (l0_0.length : Int) (l0_1.length : Int) true l0_0 l0_1 a0_2 l0_3) else (dovetailref03_Check.j0 k (l0_0.length : Int) (l0_1.length : Int) (decide ((l0_3.length : Int) > 120)) l0_0 l0_1 a0_2 l0_3)))
theorem dovetailref03_Check.mono_l : ∀ k, (∀ y0 y1 y2 y3 y4 y5 y6, LeO (dovetailref03_Check.j0 k y0 y1 y2 y3 y4 y5 y6) (dovetailref03_Check.j0 (k + 1) y0 y1 y2 y3 y4 y5 y6)) ∧ (∀ y0 y1 y2 y3 y4 y5 y6, LeO (dovetailref03_Check.j1 k y0 y1 y2 y3 y4 y5 y6) (dovetailref03_Check.j1 (k + 1) y0 y1 y2 y3 y4 y5 y6)) ∧ (∀ y0 y1 y2 y3 y4 y5 y6, LeO (dovetailref03_Check.j2 k y0 y1 y2 y3 y4 y5 y6) (dovetailref03_Check.j2 (k + 1) y0 y1 y2 y3 y4 y5 y6)) ∧ (∀ y0 y1 y2 y3 y4 y5 y6, LeO (dovetailref03_Check.l0 k y0 y1 y2 y3 y4 y5 y6) (dovetailref03_Check.l0 (k + 1) y0 y1 y2 y3 y4 y5 y6)) ∧ (∀ y0 y1 y2 y3 y4 y5 y6 y7 y8 y9, LeO (dovetailref03_Check.j4 k y0 y1 y2 y3 y4 y5 y6 y7 y8 y9) (dovetailref03_Check.j4 (k + 1) y0 y1 y2 y3 y4 y5 y6 y7 y8 y9)) ∧ (∀ y0 y1 y2 y3 y4 y5 y6 y7 y8 y9, LeO (dovetailref03_Check.l1 k y0 y1 y2 y3 y4 y5 y6 y7 y8 y9) (dovetailref03_Check.l1 (k + 1) y0 y1 y2 y3 y4 y5 y6 y7 y8 y9))
  | 0 => ⟨fun _ _ _ _ _ _ _ r h => by simp [dovetailref03_Check.j0] at h, fun _ _ _ _ _ _ _ r h => by simp [dovetailref03_Check.j1] at h, fun _ _ _ _ _ _ _ r h => by simp [dovetailref03_Check.j2] at h, fun _ _ _ _ _ _ _ r h => by simp [dovetailref03_Check.l0] at h, fun _ _ _ _ _ _ _ _ _ _ r h => by simp [dovetailref03_Check.j4] at h, fun _ _ _ _ _ _ _ _ _ _ r h => by simp [dovetailref03_Check.l1] at h⟩
  | k + 1 => by
    obtain ⟨ih0, ih1, ih2, ih3, ih4, ih5⟩ := dovetailref03_Check.mono_l k
    refine ⟨?_, ?_, ?_, ?_, ?_, ?_⟩
    · intro y0 y1 y2 y3 y4 y5 y6
      unfold dovetailref03_Check.j0
      repeat' first
      | (with_reducible exact ih0 _ _ _ _ _ _ _)
      | (with_reducible exact ih1 _ _ _ _ _ _ _)
      | (with_reducible exact ih2 _ _ _ _ _ _ _)
      | (with_reducible exact ih3 _ _ _ _ _ _ _)
      | (with_reducible exact ih4 _ _ _ _ _ _ _ _ _ _)
      | (with_reducible exact ih5 _ _ _ _ _ _ _ _ _ _)
      | (with_reducible exact dovetailref03_named.mono _ _)
      | (with_reducible exact LeO.refl _)
      | (with_reducible exact LeO.none _)
      | (with_reducible refine LeO.ite ?_ ?_)
      | (with_reducible refine LeO.bind ?_ (fun _ => ?_))
      | exact ih0 _ _ _ _ _ _ _
      | exact ih1 _ _ _ _ _ _ _
      | exact ih2 _ _ _ _ _ _ _
      | exact ih3 _ _ _ _ _ _ _
      | exact ih4 _ _ _ _ _ _ _ _ _ _
      | exact ih5 _ _ _ _ _ _ _ _ _ _
      | exact dovetailref03_named.mono _ _
      | exact LeO.none _
      | refine LeO.ite ?_ ?_
      | refine LeO.bind ?_ (fun _ => ?_)
    · intro y0 y1 y2 y3 y4 y5 y6
      unfold dovetailref03_Check.j1
      repeat' first
      | (with_reducible exact ih0 _ _ _ _ _ _ _)
      | (with_reducible exact ih1 _ _ _ _ _ _ _)
      | (with_reducible exact ih2 _ _ _ _ _ _ _)
      | (with_reducible exact ih3 _ _ _ _ _ _ _)
      | (with_reducible exact ih4 _ _ _ _ _ _ _ _ _ _)
      | (with_reducible exact ih5 _ _ _ _ _ _ _ _ _ _)
      | (with_reducible exact dovetailref03_named.mono _ _)
      | (with_reducible exact LeO.refl _)
      | (with_reducible exact LeO.none _)
      | (with_reducible refine LeO.ite ?_ ?_)
      | (with_reducible refine LeO.bind ?_ (fun _ => ?_))
      | exact ih0 _ _ _ _ _ _ _
      | exact ih1 _ _ _ _ _ _ _
      | exact ih2 _ _ _ _ _ _ _
      | exact ih3 _ _ _ _ _ _ _
      | exact ih4 _ _ _ _ _ _ _ _ _ _
      | exact ih5 _ _ _ _ _ _ _ _ _ _
      | exact dovetailref03_named.mono _ _
      | exact LeO.none _
      | refine LeO.ite ?_ ?_
      | refine LeO.bind ?_ (fun _ => ?_)
    · intro y0 y1 y2 y3 y4 y5 y6
      unfold dovetailref03_Check.j2
      repeat' first
      | (with_reducible exact ih0 _ _ _ _ _ _ _)
      | (with_reducible exact ih1 _ _ _ _ _ _ _)
      | (with_reducible exact ih2 _ _ _ _ _ _ _)
      | (with_reducible exact ih3 _ _ _ _ _ _ _)
      | (with_reducible exact ih4 _ _ _ _ _ _ _ _ _ _)
      | (with_reducible exact ih5 _ _ _ _ _ _ _ _ _ _)
      | (with_reducible exact dovetailref03_named.mono _ _)
      | (with_reducible exact LeO.refl _)
      | (with_reducible exact LeO.none _)
      | (with_reducible refine LeO.ite ?_ ?_)
      | (with_reducible refine LeO.bind ?_ (fun _ => ?_))
      | exact ih0 _ _ _ _ _ _ _
      | exact ih1 _ _ _ _ _ _ _
      | exact ih2 _ _ _ _ _ _ _
      | exact ih3 _ _ _ _ _ _ _
      | exact ih4 _ _ _ _ _ _ _ _ _ _
      | exact ih5 _ _ _ _ _ _ _ _ _ _
      | exact dovetailref03_named.mono _ _
      | exact LeO.none _
      | refine LeO.ite ?_ ?_
      | refine LeO.bind ?_ (fun _ => ?_)
    · intro y0 y1 y2 y3 y4 y5 y6
      unfold dovetailref03_Check.l0
      repeat' first
      | (with_reducible exact ih0 _ _ _ _ _ _ _)
      | (with_reducible exact ih1 _ _ _ _ _ _ _)
      | (with_reducible exact ih2 _ _ _ _ _ _ _)
      | (with_reducible exact ih3 _ _ _ _ _ _ _)
      | (with_reducible exact ih4 _ _ _ _ _ _ _ _ _ _)
      | (with_reducible exact ih5 _ _ _ _ _ _ _ _ _ _)
      | (with_reducible exact dovetailref03_named.mono _ _)
      | (with_reducible exact LeO.refl _)
      | (with_reducible exact LeO.none _)
      | (with_reducible refine LeO.ite ?_ ?_)
      | (with_reducible refine LeO.bind ?_ (fun _ => ?_))
      | exact ih0 _ _ _ _ _ _ _
      | exact ih1 _ _ _ _ _ _ _
      | exact ih2 _ _ _ _ _ _ _
      | exact ih3 _ _ _ _ _ _ _
      | exact ih4 _ _ _ _ _ _ _ _ _ _
      | exact ih5 _ _ _ _ _ _ _ _ _ _
      | exact dovetailref03_named.mono _ _
      | exact LeO.none _
      | refine LeO.ite ?_ ?_
      | refine LeO.bind ?_ (fun _ => ?_)
    · intro y0 y1 y2 y3 y4 y5 y6 y7 y8 y9
      unfold dovetailref03_Check.j4
      repeat' first
      | (with_reducible exact ih0 _ _ _ _ _ _ _)
      | (with_reducible exact ih1 _ _ _ _ _ _ _)
      | (with_reducible exact ih2 _ _ _ _ _ _ _)
      | (with_reducible exact ih3 _ _ _ _ _ _ _)
      | (with_reducible exact ih4 _ _ _ _ _ _ _ _ _ _)
      | (with_reducible exact ih5 _ _ _ _ _ _ _ _ _ _)
      | (with_reducible exact dovetailref03_named.mono _ _)
      | (with_reducible exact LeO.refl _)
      | (with_reducible exact LeO.none _)
      | (with_reducible refine LeO.ite ?_ ?_)
      | (with_reducible refine LeO.bind ?_ (fun _ => ?_))
      | exact ih0 _ _ _ _ _ _ _
      | exact ih1 _ _ _ _ _ _ _
      | exact ih2 _ _ _ _ _ _ _
      | exact ih3 _ _ _ _ _ _ _
      | exact ih4 _ _ _ _ _ _ _ _ _ _
      | exact ih5 _ _ _ _ _ _ _ _ _ _
      | exact dovetailref03_named.mono _ _
      | exact LeO.none _
      | refine LeO.ite ?_ ?_
      | refine LeO.bind ?_ (fun _ => ?_)
    · intro y0 y1 y2 y3 y4 y5 y6 y7 y8 y9
      unfold dovetailref03_Check.l1
      repeat' first
      | (with_reducible exact ih0 _ _ _ _ _ _ _)
      | (with_reducible exact ih1 _ _ _ _ _ _ _)
      | (with_reducible exact ih2 _ _ _ _ _ _ _)
      | (with_reducible exact ih3 _ _ _ _ _ _ _)
      | (with_reducible exact ih4 _ _ _ _ _ _ _ _ _ _)
      | (with_reducible exact ih5 _ _ _ _ _ _ _ _ _ _)
      | (with_reducible exact dovetailref03_named.mono _ _)
      | (with_reducible exact LeO.refl _)
      | (with_reducible exact LeO.none _)
      | (with_reducible refine LeO.ite ?_ ?_)
      | (with_reducible refine LeO.bind ?_ (fun _ => ?_))
      | exact ih0 _ _ _ _ _ _ _
      | exact ih1 _ _ _ _ _ _ _
      | exact ih2 _ _ _ _ _ _ _
      | exact ih3 _ _ _ _ _ _ _
      | exact ih4 _ _ _ _ _ _ _ _ _ _
      | exact ih5 _ _ _ _ _ _ _ _ _ _
      | exact dovetailref03_named.mono _ _
      | exact LeO.none _
      | refine LeO.ite ?_ ?_
      | refine LeO.bind ?_ (fun _ => ?_)
theorem dovetailref03_Check.mono : ∀ a0 a1 a2 a3 k, LeO (dovetailref03_Check.f k a0 a1 a2 a3) (dovetailref03_Check.f (k + 1) a0 a1 a2 a3) := by
  intro a0 a1 a2 a3 k
  obtain ⟨ih0, ih1, ih2, ih3, ih4, ih5⟩ := dovetailref03_Check.mono_l k
  unfold dovetailref03_Check.f
  repeat' first
      | (with_reducible exact ih0 _ _ _ _ _ _ _)
      | (with_reducible exact ih1 _ _ _ _ _ _ _)
      | (with_reducible exact ih2 _ _ _ _ _ _ _)
      | (with_reducible exact ih3 _ _ _ _ _ _ _)
      | (with_reducible exact ih4 _ _ _ _ _ _ _ _ _ _)
      | (with_reducible exact ih5 _ _ _ _ _ _ _ _ _ _)
      | (with_reducible exact dovetailref03_named.mono _ _)
      | (with_reducible exact LeO.refl _)
      | (with_reducible exact LeO.none _)
      | (with_reducible refine LeO.ite ?_ ?_)
      | (with_reducible refine LeO.bind ?_ (fun _ => ?_))
      | exact ih0 _ _ _ _ _ _ _
      | exact ih1 _ _ _ _ _ _ _
      | exact ih2 _ _ _ _ _ _ _
      | exact ih3 _ _ _ _ _ _ _
      | exact ih4 _ _ _ _ _ _ _ _ _ _
      | exact ih5 _ _ _ _ _ _ _ _ _ _
      | exact dovetailref03_named.mono _ _
      | exact LeO.none _
      | refine LeO.ite ?_ ?_
      | refine LeO.bind ?_ (fun _ => ?_)
set_option maxHeartbeats 8000000 in
set_option maxRecDepth 100000 in
theorem dovetailref03_Check.calls (k : Nat) (A0_0 : Option Addr) (c0_0 : Nat) (l0_0 : List ByteArray) (A0_1 : Option Addr) (c0_1 : Nat) (l0_1 : List ByteArray) (a0_2 : Int) (A0_3 : Option Addr) (c0_3 : Nat) (l0_3 : List (S35)) (r1 : Int) (r2 : Int) (w : World) (hr0_0 : Kd.C Kd.string w A0_0 l0_0.length l0_0) (hc0_0 : l0_0.length ≤ c0_0) (hr0_1 : Kd.C Kd.string w A0_1 l0_1.length l0_1) (hc0_1 : l0_1.length ≤ c0_1) (hr0_3 : Kd.C k35 w A0_3 l0_3.length l0_3) (hc0_3 : l0_3.length ≤ c0_3) (h : dovetailref03_Check.f k l0_0 l0_1 a0_2 l0_3 = some (r1, r2)) :
    Calls Tryd.prog 64 #[.agg #[.slice A0_0 l0_0.length c0_0, .slice A0_1 l0_1.length c0_1, .int .i64 a0_2, .slice A0_3 l0_3.length c0_3]] w fun e w' => e = .returned (.tuple #[.int .i64 r1, .int .i64 r2]) ∧ Below w.heap.size w w' := by
  have hu25 := Tryd.underlying25
  have hu35 := Tryd.underlying35
  have HR0_0 := Aside0.mk hr0_0
  have HC0_0 := Aside0.mk hc0_0
  clear hr0_0 hc0_0
  have HR0_1 := Aside0.mk hr0_1
  have HC0_1 := Aside0.mk hc0_1
  clear hr0_1 hc0_1
  have HR0_3 := Aside0.mk hr0_3
  have HC0_3 := Aside0.mk hc0_3
  clear hr0_3 hc0_3
  have HB := Aside0.mk (Below.refl w.heap.size w)
  have H : (if (l0_0.length : Int) > 60 then (dovetailref03_Check.j0 k (l0_0.length : Int) (l0_1.length : Int) true l0_0 l0_1 a0_2 l0_3) else (if (l0_1.length : Int) > 60 then (dovetailref03_Check.j0 k (l0_0.length : Int) (l0_1.length : Int) true l0_0 l0_1 a0_2 l0_3) else (if (wrap64 ((l0_0.length : Int) + (l0_1.length : Int))) > 60 then (dovetailref03_Check.j0 k (l0_0.length : Int) (l0_1.length : Int) true l0_0 l0_1 a0_2 l0_3) else (dovetailref03_Check.j0 k (l0_0.length : Int) (l0_1.length : Int) (decide ((l0_3.length : Int) > 120)) l0_0 l0_1 a0_2 l0_3)))) = some (r1, r2) := h
  clear h
  have HC2 := Aside0.mk H
  clear H
  go_enter Tryd.func64, Tryd.ntmps64
  go_upto_region 3 with (first | ((with_reducible refine gate_dst (N := 1) rfl ?_); (try (refine gate_guard (by rfl) ?_; dsimp only)); refine box_event ?hg (N := 1) ?hd (cs := #[.slice A0_0 l0_0.length c0_0, .slice A0_1 l0_1.length c0_1, .int .i64 a0_2, .slice A0_3 l0_3.length c0_3]) (t := 25) ?hr ?_; (case hd => rfl); (case hg => rfl); (case hr => first | (go_simp; done) | (go_simp; rfl)); intro gb146 hg w3 hbox hb; have n0_ := Aside0.mk (below_step (by repeat (first | (with_reducible first | exact HB.out | apply below_alloc | apply pw_below_drewN | apply below_drew1) | exact HB.out)) hb); have n1_ := Aside0.mk (hbox); have n2_ := Aside0.mk ((by rw [hg]; exact (below_size (by repeat (first | (with_reducible first | exact HB.out | apply below_alloc | apply pw_below_drewN | apply below_drew1) | exact HB.out))) : w.heap.size ≤ gb146)); have n3_ := Aside0.mk ((by rw [hg]; exact (below_size (by repeat (first | (with_reducible first | exact HB.out | apply below_alloc | apply pw_below_drewN | apply below_drew1) | exact HB.out))) : w.heap.size ≤ gb146)); clear HB; have HB := n0_; have BK146 := n1_; have GW146 := n2_; have GE146 := n3_; clear n0_ n1_ n2_ n3_; clear hb hbox hg; have hcz4_0 : w3.cell? ⟨gb146, 0, none⟩ = some (.slice A0_0 l0_0.length c0_0) := (blk_cell BK146.out 0).trans rfl; have hcz4_1 : w3.cell? ⟨gb146, 1, none⟩ = some (.slice A0_1 l0_1.length c0_1) := (blk_cell BK146.out 1).trans rfl; have hcz4_2 : w3.cell? ⟨gb146, 2, none⟩ = some (.int .i64 a0_2) := (blk_cell BK146.out 2).trans rfl; have hcz4_3 : w3.cell? ⟨gb146, 3, none⟩ = some (.slice A0_3 l0_3.length c0_3) := (blk_cell BK146.out 3).trans rfl; have hfz4_0 := blk_frozen BK146.out 0; have hfz4_1 := blk_frozen BK146.out 1; have hfz4_2 := blk_frozen BK146.out 2; have hfz4_3 := blk_frozen BK146.out 3))
  (try simp only [Act.put, List.setIfInBounds_toArray, List.set_cons_zero, List.set_cons_succ])
  go_cut [32] (fun v32 wc => ∃ (kq : Nat) (x32_1 : Bool), v32 = .bool x32_1 ∧ Aside0 (dovetailref03_Check.j0 kq (l0_0.length : Int) (l0_1.length : Int) x32_1 l0_0 l0_1 a0_2 l0_3 = some (r1, r2)) ∧ Aside0 (kq ≤ k) ∧ Aside0 (wc.heap[gb146]? = some (.cells #[(.slice A0_0 l0_0.length c0_0), (.slice A0_1 l0_1.length c0_1), .int .i64 a0_2, (.slice A0_3 l0_3.length c0_3)] 25 (0, 0))) ∧ Aside0 (Below w.heap.size w wc))
  case first =>
    have H := HC2.out
    clear HC2
    by_cases c5 : (l0_0.length : Int) > 60
    · rw [if_pos c5] at H
      have c5b0 : decide (60 < (l0_0.length : Int)) = true := decide_eq_true c5
      have c5b1 : decide (60 < l0_0.length) = true := decide_eq_true (by omega)
      clear c5
      (first | rw [c5b0] | (simp only [i64_w, i32_w]; rw [c5b0]) | skip)
      have H' := Aside0.mk H
      clear H
      go_wp2
      go_meet
      case rel => exact ⟨_, (true), (by first | rfl | (simp; done) | (simp [*]; done)), H', ⟨by first | omega | exact Nat.le_refl _⟩, ⟨by (with_reducible repeat (first | refine blk_drewN ?_ _ | refine blk_drew ?_ | refine blk_alloc ?_ _)); exact BK146.out⟩, ⟨by repeat (first | (with_reducible first | exact HB.out | apply below_alloc | apply pw_below_drewN | apply below_drew1 | refine below_set ?_ GE146.out) | exact HB.out)⟩⟩
    · rw [if_neg c5] at H
      have c5b0 : decide (60 < (l0_0.length : Int)) = false := decide_eq_false c5
      have c5b1 : decide (60 < l0_0.length) = false := decide_eq_false (by omega)
      clear c5
      (first | rw [c5b0] | (simp only [i64_w, i32_w]; rw [c5b0]) | skip)
      by_cases c6 : (l0_1.length : Int) > 60
      · rw [if_pos c6] at H
        have c6b0 : decide (60 < (l0_1.length : Int)) = true := decide_eq_true c6
        have c6b1 : decide (60 < l0_1.length) = true := decide_eq_true (by omega)
        clear c6
        have H' := Aside0.mk H
        clear H
        go_wp2
        go_meet
        case rel => exact ⟨_, (true), (by first | rfl | (simp; done) | (simp [*]; done)), H', ⟨by first | omega | exact Nat.le_refl _⟩, ⟨by (with_reducible repeat (first | refine blk_drewN ?_ _ | refine blk_drew ?_ | refine blk_alloc ?_ _)); exact BK146.out⟩, ⟨by repeat (first | (with_reducible first | exact HB.out | apply below_alloc | apply pw_below_drewN | apply below_drew1 | refine below_set ?_ GE146.out) | exact HB.out)⟩⟩
      · rw [if_neg c6] at H
        have c6b0 : decide (60 < (l0_1.length : Int)) = false := decide_eq_false c6
        have c6b1 : decide (60 < l0_1.length) = false := decide_eq_false (by omega)
        clear c6
        by_cases c7 : (wrap64 ((l0_0.length : Int) + (l0_1.length : Int))) > 60
        · rw [if_pos c7] at H
          have c7b0 : decide (60 < (wrap64 ((l0_0.length : Int) + (l0_1.length : Int)))) = true := decide_eq_true c7
          clear c7
          have H' := Aside0.mk H
          clear H
          go_wp2
          go_meet
          case rel => exact ⟨_, (true), (by first | rfl | (simp; done) | (simp [*]; done)), H', ⟨by first | omega | exact Nat.le_refl _⟩, ⟨by (with_reducible repeat (first | refine blk_drewN ?_ _ | refine blk_drew ?_ | refine blk_alloc ?_ _)); exact BK146.out⟩, ⟨by repeat (first | (with_reducible first | exact HB.out | apply below_alloc | apply pw_below_drewN | apply below_drew1 | refine below_set ?_ GE146.out) | exact HB.out)⟩⟩
        · rw [if_neg c7] at H
          have c7b0 : decide (60 < (wrap64 ((l0_0.length : Int) + (l0_1.length : Int)))) = false := decide_eq_false c7
          clear c7
          have H' := Aside0.mk H
          clear H
          have hcz8_0 : w3.cell? ⟨gb146, 0, none⟩ = some (.slice A0_0 l0_0.length c0_0) := (blk_cell BK146.out 0).trans rfl
          have hcz8_1 : w3.cell? ⟨gb146, 1, none⟩ = some (.slice A0_1 l0_1.length c0_1) := (blk_cell BK146.out 1).trans rfl
          have hcz8_2 : w3.cell? ⟨gb146, 2, none⟩ = some (.int .i64 a0_2) := (blk_cell BK146.out 2).trans rfl
          have hcz8_3 : w3.cell? ⟨gb146, 3, none⟩ = some (.slice A0_3 l0_3.length c0_3) := (blk_cell BK146.out 3).trans rfl
          have hfz8_0 := blk_frozen BK146.out 0
          have hfz8_1 := blk_frozen BK146.out 1
          have hfz8_2 := blk_frozen BK146.out 2
          have hfz8_3 := blk_frozen BK146.out 3
          go_wp2
          go_meet
          case rel => exact ⟨_, (decide ((l0_3.length : Int) > 120)), (by first | rfl | (simp; done) | (simp [*]; done)), H', ⟨by first | omega | exact Nat.le_refl _⟩, ⟨by (with_reducible repeat (first | refine blk_drewN ?_ _ | refine blk_drew ?_ | refine blk_alloc ?_ _)); exact BK146.out⟩, ⟨by repeat (first | (with_reducible first | exact HB.out | apply below_alloc | apply pw_below_drewN | apply below_drew1 | refine below_set ?_ GE146.out) | exact HB.out)⟩⟩
  case rest =>
    clear HC2
    try clear p2
    try clear c5
    try clear c5b0
    try clear c5b1
    try clear c6
    try clear c6b0
    try clear c6b1
    try clear p6
    try clear c7
    try clear c7b0
    try clear hcz4_0
    try clear hcz4_1
    try clear hcz4_2
    try clear hcz4_3
    try clear hcz8_0
    try clear hcz8_1
    try clear hcz8_2
    try clear hcz8_3
    try clear hfz4_0
    try clear hfz4_1
    try clear hfz4_2
    try clear hfz4_3
    try clear hfz8_0
    try clear hfz8_1
    try clear hfz8_2
    try clear hfz8_3
    obtain ⟨kq, x32_1, rfl, HA, HJ1, BK146, HB⟩ := hcut
    cases kq with
    | zero => exact absurd HA.out (by simp [dovetailref03_Check.j0])
    | succ kj1 =>
      have H := HA.out
      clear HA
      simp only [dovetailref03_Check.j0] at H
      by_cases c9 : x32_1 = true
      · subst c9
        have H1 : (some (3, (-1))) = some (r1, r2) := by rw [if_pos rfl] at H; exact H
        clear H
        have H := H1
        clear H1
        simp only [Option.some.injEq, Prod.mk.injEq] at H
        obtain ⟨rfl, rfl⟩ := H
        go_wp2
        go_ret2
        exact ⟨by first | rfl | (simp [errW_none, errW_some] <;> rfl) | (simp [*, errW_none, errW_some] <;> rfl), by repeat (first | (with_reducible first | exact HB.out | apply below_alloc | apply pw_below_drewN | apply below_drew1 | refine below_set ?_ GE146.out) | exact HB.out)⟩
      · replace c9 := Bool.eq_false_iff.mpr c9
        subst c9
        have H1 : ((dovetailref03_named.f kj1 l0_0).bind fun t147 => (if t147 = true then ((dovetailref03_named.f kj1 l0_1).bind fun t148 => (dovetailref03_Check.j1 kj1 (l0_0.length : Int) (l0_1.length : Int) (!t148) l0_0 l0_1 a0_2 l0_3)) else (dovetailref03_Check.j1 kj1 (l0_0.length : Int) (l0_1.length : Int) true l0_0 l0_1 a0_2 l0_3))) = some (r1, r2) := by rw [if_neg (show ¬ (false = true) by decide)] at H; exact H
        clear H
        have H := H1
        clear H1
        have HC10 := Aside0.mk H
        clear H
        go_upto_region 5 with (fail)
        go_cut [42] (fun v42 wc => ∃ (kq : Nat) (x42_9 : Bool), v42 = .bool x42_9 ∧ Aside0 (dovetailref03_Check.j1 kq (l0_0.length : Int) (l0_1.length : Int) x42_9 l0_0 l0_1 a0_2 l0_3 = some (r1, r2)) ∧ Aside0 (kq ≤ kj1) ∧ Aside0 (wc.heap[gb146]? = some (.cells #[(.slice A0_0 l0_0.length c0_0), (.slice A0_1 l0_1.length c0_1), .int .i64 a0_2, (.slice A0_3 l0_3.length c0_3)] 25 (0, 0))) ∧ Aside0 (Below w.heap.size w wc))
        case first =>
          have H := HC10.out
          clear HC10
          replace H := Option.bind_eq_some_iff.mp H
          obtain ⟨t147, A110, H⟩ := H
          replace H : (if t147 = true then ((dovetailref03_named.f kj1 l0_1).bind fun t148 => (dovetailref03_Check.j1 kj1 (l0_0.length : Int) (l0_1.length : Int) (!t148) l0_0 l0_1 a0_2 l0_3)) else (dovetailref03_Check.j1 kj1 (l0_0.length : Int) (l0_1.length : Int) true l0_0 l0_1 a0_2 l0_3)) = some (r1, r2) := H
          have A11 := Aside0.mk A110
          clear A110
          by_cases c12 : t147 = true
          · subst c12
            have H1 : ((dovetailref03_named.f kj1 l0_1).bind fun t148 => (dovetailref03_Check.j1 kj1 (l0_0.length : Int) (l0_1.length : Int) (!t148) l0_0 l0_1 a0_2 l0_3)) = some (r1, r2) := by rw [if_pos rfl] at H; exact H
            clear H
            have H := H1
            clear H1
            replace H := Option.bind_eq_some_iff.mp H
            obtain ⟨t148, A130, H⟩ := H
            replace H : (dovetailref03_Check.j1 kj1 (l0_0.length : Int) (l0_1.length : Int) (!t148) l0_0 l0_1 a0_2 l0_3) = some (r1, r2) := H
            have A13 := Aside0.mk A130
            clear A130
            have H' := Aside0.mk H
            clear H
            have hcz14_0 : wc.cell? ⟨gb146, 0, none⟩ = some (.slice A0_0 l0_0.length c0_0) := (blk_cell BK146.out 0).trans rfl
            have hcz14_1 : wc.cell? ⟨gb146, 1, none⟩ = some (.slice A0_1 l0_1.length c0_1) := (blk_cell BK146.out 1).trans rfl
            have hcz14_2 : wc.cell? ⟨gb146, 2, none⟩ = some (.int .i64 a0_2) := (blk_cell BK146.out 2).trans rfl
            have hcz14_3 : wc.cell? ⟨gb146, 3, none⟩ = some (.slice A0_3 l0_3.length c0_3) := (blk_cell BK146.out 3).trans rfl
            have hfz14_0 := blk_frozen BK146.out 0
            have hfz14_1 := blk_frozen BK146.out 1
            have hfz14_2 := blk_frozen BK146.out 2
            have hfz14_3 := blk_frozen BK146.out 3
            go_wp2_with (first | ((with_reducible refine gate_callee (f := 94) rfl ?_); refine goesL_ (some 35) rfl rfl Tryd.func94 (by kernel_rfl) rfl #[.slice A0_0 l0_0.length c0_0] rfl (by (try simp only [List.map_toArray, List.map_cons, List.map_nil]); first | done | rfl | (simp only [List.length_drop, List.length_take]; rfl)) ?_; (with_reducible refine (dovetailref03_named.calls kj1 _ _ l0_0 true _ ?side1 ?side2 A11.out).mono ?_); (case side1 => repeat (first | exact (Kd.C_below HR0_0.out HB.out) | (with_reducible refine Kd.C_alloc ?_ _) | (with_reducible refine Kd.C_drewN ?_ _) | (with_reducible refine Kd.C_drew ?_))); (case side2 => exact HC0_0.out); rintro e w' ⟨rfl, ⟨nd, rfl⟩⟩; refine ⟨_, rfl, ?_⟩) | (go_at_call 94; (with_reducible refine (dovetailref03_named.calls kj1 _ _ l0_1 t148 _ ?side1 ?side2 A13.out).mono ?_); (case side1 => repeat (first | exact (Kd.C_below HR0_1.out (by repeat (first | (with_reducible first | exact HB.out | apply below_alloc | apply pw_below_drewN | apply below_drew1 | refine below_set ?_ GE146.out) | exact HB.out))) | (with_reducible refine Kd.C_alloc ?_ _) | (with_reducible refine Kd.C_drewN ?_ _) | (with_reducible refine Kd.C_drew ?_))); (case side2 => exact HC0_1.out); rintro e w' ⟨rfl, ⟨nd, rfl⟩⟩))
            go_meet
            case rel => exact ⟨_, (!t148), (by first | rfl | (simp; done) | (simp [*]; done)), H', ⟨by have := HJ1.out; first | omega | exact Nat.le_refl _⟩, ⟨by (with_reducible repeat (first | refine blk_drewN ?_ _ | refine blk_drew ?_ | refine blk_alloc ?_ _)); exact BK146.out⟩, ⟨by repeat (first | (with_reducible first | exact HB.out | apply below_alloc | apply pw_below_drewN | apply below_drew1 | refine below_set ?_ GE146.out) | exact HB.out)⟩⟩
          · replace c12 := Bool.eq_false_iff.mpr c12
            subst c12
            have H1 : (dovetailref03_Check.j1 kj1 (l0_0.length : Int) (l0_1.length : Int) true l0_0 l0_1 a0_2 l0_3) = some (r1, r2) := by rw [if_neg (show ¬ (false = true) by decide)] at H; exact H
            clear H
            have H := H1
            clear H1
            have H' := Aside0.mk H
            clear H
            have hcz15_0 : wc.cell? ⟨gb146, 0, none⟩ = some (.slice A0_0 l0_0.length c0_0) := (blk_cell BK146.out 0).trans rfl
            have hcz15_1 : wc.cell? ⟨gb146, 1, none⟩ = some (.slice A0_1 l0_1.length c0_1) := (blk_cell BK146.out 1).trans rfl
            have hcz15_2 : wc.cell? ⟨gb146, 2, none⟩ = some (.int .i64 a0_2) := (blk_cell BK146.out 2).trans rfl
            have hcz15_3 : wc.cell? ⟨gb146, 3, none⟩ = some (.slice A0_3 l0_3.length c0_3) := (blk_cell BK146.out 3).trans rfl
            have hfz15_0 := blk_frozen BK146.out 0
            have hfz15_1 := blk_frozen BK146.out 1
            have hfz15_2 := blk_frozen BK146.out 2
            have hfz15_3 := blk_frozen BK146.out 3
            go_wp2_with (first | ((with_reducible refine gate_callee (f := 94) rfl ?_); refine goesL_ (some 35) rfl rfl Tryd.func94 (by kernel_rfl) rfl #[.slice A0_0 l0_0.length c0_0] rfl (by (try simp only [List.map_toArray, List.map_cons, List.map_nil]); first | done | rfl | (simp only [List.length_drop, List.length_take]; rfl)) ?_; (with_reducible refine (dovetailref03_named.calls kj1 _ _ l0_0 false _ ?side1 ?side2 A11.out).mono ?_); (case side1 => repeat (first | exact (Kd.C_below HR0_0.out HB.out) | (with_reducible refine Kd.C_alloc ?_ _) | (with_reducible refine Kd.C_drewN ?_ _) | (with_reducible refine Kd.C_drew ?_))); (case side2 => exact HC0_0.out); rintro e w' ⟨rfl, ⟨nd, rfl⟩⟩; refine ⟨_, rfl, ?_⟩))
            go_meet
            case rel => exact ⟨_, (true), (by first | rfl | (simp; done) | (simp [*]; done)), H', ⟨by have := HJ1.out; first | omega | exact Nat.le_refl _⟩, ⟨by (with_reducible repeat (first | refine blk_drewN ?_ _ | refine blk_drew ?_ | refine blk_alloc ?_ _)); exact BK146.out⟩, ⟨by repeat (first | (with_reducible first | exact HB.out | apply below_alloc | apply pw_below_drewN | apply below_drew1 | refine below_set ?_ GE146.out) | exact HB.out)⟩⟩
        case rest =>
          clear HC10
          try clear c1
          try clear p2
          try clear c5
          try clear c5b0
          try clear c5b1
          try clear c6
          try clear c6b0
          try clear c6b1
          try clear p6
          try clear c7
          try clear c7b0
          try clear c9
          try clear c12
          try clear hcz14_0
          try clear hcz14_1
          try clear hcz14_2
          try clear hcz14_3
          try clear hcz15_0
          try clear hcz15_1
          try clear hcz15_2
          try clear hcz15_3
          try clear hcz4_0
          try clear hcz4_1
          try clear hcz4_2
          try clear hcz4_3
          try clear hcz8_0
          try clear hcz8_1
          try clear hcz8_2
          try clear hcz8_3
          try clear hfz14_0
          try clear hfz14_1
          try clear hfz14_2
          try clear hfz14_3
          try clear hfz15_0
          try clear hfz15_1
          try clear hfz15_2
          try clear hfz15_3
          try clear hfz4_0
          try clear hfz4_1
          try clear hfz4_2
          try clear hfz4_3
          try clear hfz8_0
          try clear hfz8_1
          try clear hfz8_2
          try clear hfz8_3
          try clear p2
          try clear p6
          obtain ⟨kq, x42_9, rfl, HA, HJ9, BK146, HB⟩ := hcut
          cases kq with
          | zero => exact absurd HA.out (by simp [dovetailref03_Check.j1])
          | succ kj9 =>
            have H := HA.out
            clear HA
            simp only [dovetailref03_Check.j1] at H
            by_cases c16 : x42_9 = true
            · subst c16
              have H1 : (some (10, (-1))) = some (r1, r2) := by rw [if_pos rfl] at H; exact H
              clear H
              have H := H1
              clear H1
              simp only [Option.some.injEq, Prod.mk.injEq] at H
              obtain ⟨rfl, rfl⟩ := H
              go_wp2
              go_ret2
              exact ⟨by first | rfl | (simp [errW_none, errW_some] <;> rfl) | (simp [*, errW_none, errW_some] <;> rfl), by repeat (first | (with_reducible first | exact HB.out | apply below_alloc | apply pw_below_drewN | apply below_drew1 | refine below_set ?_ GE146.out) | exact HB.out)⟩
            · replace c16 := Bool.eq_false_iff.mpr c16
              subst c16
              have H1 : (if (l0_1.length : Int) = 0 then (dovetailref03_Check.j2 kj9 (l0_0.length : Int) (l0_1.length : Int) true l0_0 l0_1 a0_2 l0_3) else (if a0_2 < 0 then (dovetailref03_Check.j2 kj9 (l0_0.length : Int) (l0_1.length : Int) true l0_0 l0_1 a0_2 l0_3) else (dovetailref03_Check.j2 kj9 (l0_0.length : Int) (l0_1.length : Int) (decide (a0_2 ≥ (l0_1.length : Int))) l0_0 l0_1 a0_2 l0_3))) = some (r1, r2) := by rw [if_neg (show ¬ (false = true) by decide)] at H; exact H
              clear H
              have H := H1
              clear H1
              have HC17 := Aside0.mk H
              clear H
              go_upto_region 7 with (fail)
              go_cut [55] (fun v55 wc => ∃ (kq : Nat) (x55_16 : Bool), v55 = .bool x55_16 ∧ Aside0 (dovetailref03_Check.j2 kq (l0_0.length : Int) (l0_1.length : Int) x55_16 l0_0 l0_1 a0_2 l0_3 = some (r1, r2)) ∧ Aside0 (kq ≤ kj9) ∧ Aside0 (wc.heap[gb146]? = some (.cells #[(.slice A0_0 l0_0.length c0_0), (.slice A0_1 l0_1.length c0_1), .int .i64 a0_2, (.slice A0_3 l0_3.length c0_3)] 25 (0, 0))) ∧ Aside0 (Below w.heap.size w wc))
              case first =>
                have H := HC17.out
                clear HC17
                by_cases c18 : (l0_1.length : Int) = 0
                · rw [if_pos c18] at H
                  have c18b0 : ((l0_1.length : Int) == 0) = true := beq_iff_eq.mpr c18
                  have c18b1 : ((l0_1.length : Int) != 0) = false := bne_eq_false_iff_eq.mpr c18
                  clear c18
                  (first | rw [c18b0] | (simp only [i64_w, i32_w]; rw [c18b0]) | skip)
                  have H' := Aside0.mk H
                  clear H
                  go_wp2
                  go_meet
                  case rel => exact ⟨_, (true), (by first | rfl | (simp; done) | (simp [*]; done)), H', ⟨by have := HJ1.out; have := HJ9.out; first | omega | exact Nat.le_refl _⟩, ⟨by (with_reducible repeat (first | refine blk_drewN ?_ _ | refine blk_drew ?_ | refine blk_alloc ?_ _)); exact BK146.out⟩, ⟨by repeat (first | (with_reducible first | exact HB.out | apply below_alloc | apply pw_below_drewN | apply below_drew1 | refine below_set ?_ GE146.out) | exact HB.out)⟩⟩
                · rw [if_neg c18] at H
                  have c18b0 : ((l0_1.length : Int) == 0) = false := beq_eq_false_iff_ne.mpr c18
                  have c18b1 : ((l0_1.length : Int) != 0) = true := bne_iff_ne.mpr c18
                  have c18b2 : ¬ (l0_1 = []) := fun h_ => c18 (by rw [h_]; rfl)
                  (first | rw [c18b0] | (simp only [i64_w, i32_w]; rw [c18b0]) | skip)
                  by_cases c19 : a0_2 < 0
                  · rw [if_pos c19] at H
                    have c19b0 : decide (a0_2 < 0) = true := decide_eq_true c19
                    clear c19
                    have H' := Aside0.mk H
                    clear H
                    have hcz20_0 : wc.cell? ⟨gb146, 0, none⟩ = some (.slice A0_0 l0_0.length c0_0) := (blk_cell BK146.out 0).trans rfl
                    have hcz20_1 : wc.cell? ⟨gb146, 1, none⟩ = some (.slice A0_1 l0_1.length c0_1) := (blk_cell BK146.out 1).trans rfl
                    have hcz20_2 : wc.cell? ⟨gb146, 2, none⟩ = some (.int .i64 a0_2) := (blk_cell BK146.out 2).trans rfl
                    have hcz20_3 : wc.cell? ⟨gb146, 3, none⟩ = some (.slice A0_3 l0_3.length c0_3) := (blk_cell BK146.out 3).trans rfl
                    have hfz20_0 := blk_frozen BK146.out 0
                    have hfz20_1 := blk_frozen BK146.out 1
                    have hfz20_2 := blk_frozen BK146.out 2
                    have hfz20_3 := blk_frozen BK146.out 3
                    go_wp2
                    go_meet
                    case rel => exact ⟨_, (true), (by first | rfl | (simp; done) | (simp [*]; done)), H', ⟨by have := HJ1.out; have := HJ9.out; first | omega | exact Nat.le_refl _⟩, ⟨by (with_reducible repeat (first | refine blk_drewN ?_ _ | refine blk_drew ?_ | refine blk_alloc ?_ _)); exact BK146.out⟩, ⟨by repeat (first | (with_reducible first | exact HB.out | apply below_alloc | apply pw_below_drewN | apply below_drew1 | refine below_set ?_ GE146.out) | exact HB.out)⟩⟩
                  · rw [if_neg c19] at H
                    have c19b0 : decide (a0_2 < 0) = false := decide_eq_false c19
                    clear c19
                    have H' := Aside0.mk H
                    clear H
                    have hcz21_0 : wc.cell? ⟨gb146, 0, none⟩ = some (.slice A0_0 l0_0.length c0_0) := (blk_cell BK146.out 0).trans rfl
                    have hcz21_1 : wc.cell? ⟨gb146, 1, none⟩ = some (.slice A0_1 l0_1.length c0_1) := (blk_cell BK146.out 1).trans rfl
                    have hcz21_2 : wc.cell? ⟨gb146, 2, none⟩ = some (.int .i64 a0_2) := (blk_cell BK146.out 2).trans rfl
                    have hcz21_3 : wc.cell? ⟨gb146, 3, none⟩ = some (.slice A0_3 l0_3.length c0_3) := (blk_cell BK146.out 3).trans rfl
                    have hfz21_0 := blk_frozen BK146.out 0
                    have hfz21_1 := blk_frozen BK146.out 1
                    have hfz21_2 := blk_frozen BK146.out 2
                    have hfz21_3 := blk_frozen BK146.out 3
                    go_wp2
                    go_meet
                    case rel => exact ⟨_, (decide (a0_2 ≥ (l0_1.length : Int))), (by first | rfl | (simp; done) | (simp [*]; done)), H', ⟨by have := HJ1.out; have := HJ9.out; first | omega | exact Nat.le_refl _⟩, ⟨by (with_reducible repeat (first | refine blk_drewN ?_ _ | refine blk_drew ?_ | refine blk_alloc ?_ _)); exact BK146.out⟩, ⟨by repeat (first | (with_reducible first | exact HB.out | apply below_alloc | apply pw_below_drewN | apply below_drew1 | refine below_set ?_ GE146.out) | exact HB.out)⟩⟩
              case rest =>
                clear HC17
                try clear c1
                try clear p2
                try clear c5
                try clear c5b0
                try clear c5b1
                try clear c6
                try clear c6b0
                try clear c6b1
                try clear p6
                try clear c7
                try clear c7b0
                try clear c9
                try clear c12
                try clear c16
                try clear c18
                try clear c18b0
                try clear c18b1
                try clear c18b2
                try clear c19
                try clear c19b0
                try clear hcz14_0
                try clear hcz14_1
                try clear hcz14_2
                try clear hcz14_3
                try clear hcz15_0
                try clear hcz15_1
                try clear hcz15_2
                try clear hcz15_3
                try clear hcz20_0
                try clear hcz20_1
                try clear hcz20_2
                try clear hcz20_3
                try clear hcz21_0
                try clear hcz21_1
                try clear hcz21_2
                try clear hcz21_3
                try clear hcz4_0
                try clear hcz4_1
                try clear hcz4_2
                try clear hcz4_3
                try clear hcz8_0
                try clear hcz8_1
                try clear hcz8_2
                try clear hcz8_3
                try clear hfz14_0
                try clear hfz14_1
                try clear hfz14_2
                try clear hfz14_3
                try clear hfz15_0
                try clear hfz15_1
                try clear hfz15_2
                try clear hfz15_3
                try clear hfz20_0
                try clear hfz20_1
                try clear hfz20_2
                try clear hfz20_3
                try clear hfz21_0
                try clear hfz21_1
                try clear hfz21_2
                try clear hfz21_3
                try clear hfz4_0
                try clear hfz4_1
                try clear hfz4_2
                try clear hfz4_3
                try clear hfz8_0
                try clear hfz8_1
                try clear hfz8_2
                try clear hfz8_3
                try clear p2
                try clear p6
                obtain ⟨kq, x55_16, rfl, HA, HJ16, BK146, HB⟩ := hcut
                cases kq with
                | zero => exact absurd HA.out (by simp [dovetailref03_Check.j2])
                | succ kj16 =>
                  have H := HA.out
                  clear HA
                  simp only [dovetailref03_Check.j2] at H
                  by_cases c22 : x55_16 = true
                  · subst c22
                    have H1 : (some (1, (-1))) = some (r1, r2) := by rw [if_pos rfl] at H; exact H
                    clear H
                    have H := H1
                    clear H1
                    simp only [Option.some.injEq, Prod.mk.injEq] at H
                    obtain ⟨rfl, rfl⟩ := H
                    go_wp2
                    go_ret2
                    exact ⟨by first | rfl | (simp [errW_none, errW_some] <;> rfl) | (simp [*, errW_none, errW_some] <;> rfl), by repeat (first | (with_reducible first | exact HB.out | apply below_alloc | apply pw_below_drewN | apply below_drew1 | refine below_set ?_ GE146.out) | exact HB.out)⟩
                  · replace c22 := Bool.eq_false_iff.mpr c22
                    subst c22
                    have H1 : (dovetailref03_Check.l0 kj16 (l0_0.length : Int) (l0_1.length : Int) 0 l0_0 l0_1 a0_2 l0_3) = some (r1, r2) := by rw [if_neg (show ¬ (false = true) by decide)] at H; exact H
                    clear H
                    have H := H1
                    clear H1
                    have H' := Aside0.mk H
                    clear H
                    go_wp2
                    go_loopg [6] kj16 (fun kq v6 w' => ∃ (x6_4 : Int), v6 = .int .i64 x6_4 ∧ Aside0 (dovetailref03_Check.l0 kq (l0_0.length : Int) (l0_1.length : Int) x6_4 l0_0 l0_1 a0_2 l0_3 = some (r1, r2)) ∧ Aside0 (kq ≤ kj16) ∧ Aside0 (w'.heap[gb146]? = some (.cells #[(.slice A0_0 l0_0.length c0_0), (.slice A0_1 l0_1.length c0_1), .int .i64 a0_2, (.slice A0_3 l0_3.length c0_3)] 25 (0, 0))) ∧ Aside0 (Below w.heap.size w w'))
                    case atStart => exact ⟨(0), (by first | rfl | (simp; done) | (simp [*]; done)), H', ⟨Nat.le_refl _⟩, ⟨by (with_reducible repeat (first | refine blk_drewN ?_ _ | refine blk_drew ?_ | refine blk_alloc ?_ _)); exact BK146.out⟩, ⟨by repeat (first | (with_reducible first | exact HB.out | apply below_alloc | apply pw_below_drewN | apply below_drew1 | refine below_set ?_ GE146.out) | exact HB.out)⟩⟩
                    case round =>
                      clear H'
                      try clear c1
                      try clear c2
                      try clear p2
                      try clear c5
                      try clear c5b0
                      try clear c5b1
                      try clear c6
                      try clear c6b0
                      try clear c6b1
                      try clear p6
                      try clear c7
                      try clear c7b0
                      try clear c9
                      try clear c12
                      try clear c16
                      try clear c18
                      try clear c18b0
                      try clear c18b1
                      try clear c18b2
                      try clear c19
                      try clear c19b0
                      try clear c22
                      try clear hcz14_0
                      try clear hcz14_1
                      try clear hcz14_2
                      try clear hcz14_3
                      try clear hcz15_0
                      try clear hcz15_1
                      try clear hcz15_2
                      try clear hcz15_3
                      try clear hcz20_0
                      try clear hcz20_1
                      try clear hcz20_2
                      try clear hcz20_3
                      try clear hcz21_0
                      try clear hcz21_1
                      try clear hcz21_2
                      try clear hcz21_3
                      try clear hcz4_0
                      try clear hcz4_1
                      try clear hcz4_2
                      try clear hcz4_3
                      try clear hcz8_0
                      try clear hcz8_1
                      try clear hcz8_2
                      try clear hcz8_3
                      try clear hfz14_0
                      try clear hfz14_1
                      try clear hfz14_2
                      try clear hfz14_3
                      try clear hfz15_0
                      try clear hfz15_1
                      try clear hfz15_2
                      try clear hfz15_3
                      try clear hfz20_0
                      try clear hfz20_1
                      try clear hfz20_2
                      try clear hfz20_3
                      try clear hfz21_0
                      try clear hfz21_1
                      try clear hfz21_2
                      try clear hfz21_3
                      try clear hfz4_0
                      try clear hfz4_1
                      try clear hfz4_2
                      try clear hfz4_3
                      try clear hfz8_0
                      try clear hfz8_1
                      try clear hfz8_2
                      try clear hfz8_3
                      try clear p2
                      try clear p6
                      obtain ⟨x6_4, rfl, HA, HK4, BK146, HB⟩ := hrel
                      cases gk with
                      | zero => exact absurd HA.out (by simp [dovetailref03_Check.l0])
                      | succ k4 =>
                        have H := HA.out
                        clear HA
                        simp only [dovetailref03_Check.l0] at H
                        by_cases c23 : x6_4 < (l0_3.length : Int)
                        · rw [if_pos c23] at H
                          have c23b0 : decide (x6_4 < (l0_3.length : Int)) = true := decide_eq_true c23
                          clear c23
                          by_cases c24 : 0 ≤ x6_4
                          · rw [if_pos c24] at H
                            have c24b0 : decide (0 ≤ x6_4) = true := decide_eq_true c24
                            clear c24
                            by_cases c25 : (((rd_T35 l0_3 x6_4).f1).length : Int) > 32
                            · rw [if_pos c25] at H
                              have c25b0 : decide (32 < (((rd_T35 l0_3 x6_4).f1).length : Int)) = true := decide_eq_true c25
                              have c25b1 : decide (32 < ((rd_T35 l0_3 x6_4).f1).length) = true := decide_eq_true (by omega)
                              clear c25
                              simp only [Option.some.injEq, Prod.mk.injEq] at H
                              obtain ⟨rfl, rfl⟩ := H
                              have hcz26_0 : wr.cell? ⟨gb146, 0, none⟩ = some (.slice A0_0 l0_0.length c0_0) := (blk_cell BK146.out 0).trans rfl
                              have hcz26_1 : wr.cell? ⟨gb146, 1, none⟩ = some (.slice A0_1 l0_1.length c0_1) := (blk_cell BK146.out 1).trans rfl
                              have hcz26_2 : wr.cell? ⟨gb146, 2, none⟩ = some (.int .i64 a0_2) := (blk_cell BK146.out 2).trans rfl
                              have hcz26_3 : wr.cell? ⟨gb146, 3, none⟩ = some (.slice A0_3 l0_3.length c0_3) := (blk_cell BK146.out 3).trans rfl
                              have hfz26_0 := blk_frozen BK146.out 0
                              have hfz26_1 := blk_frozen BK146.out 1
                              have hfz26_2 := blk_frozen BK146.out 2
                              have hfz26_3 := blk_frozen BK146.out 3
                              have p149 : 0 ≤ (x6_4 : Int) := of_decide_eq_true (by first | (with_reducible assumption) | assumption)
                              have q149 : x6_4 < (l0_3.length : Int) := of_decide_eq_true (by first | (with_reducible assumption) | assumption)
                              obtain ⟨ad149, A149_1, c149_1, e149, hx149_0, hx149_1, hl149_1, hi149_1⟩ := at_T35 HR0_3.out x6_4 p149 q149
                              cases e149
                              replace hx149_0 := (HB.out.cell (World.block_lt_of_cell? w _ hx149_0)).trans hx149_0
                              replace hx149_1 := (HB.out.cell (World.block_lt_of_cell? w _ hx149_1)).trans hx149_1
                              have HR149_1 := Aside0.mk hi149_1
                              have HC149_1 := Aside0.mk hl149_1
                              clear hi149_1 hl149_1
                              replace p149 := eq_true p149
                              replace q149 := eq_true q149
                              go_wp2_with (first | ((with_reducible refine gate_dst (N := 7) rfl ?_); (try (refine gate_guard (by rfl) ?_; dsimp only)); refine box_event ?hg (N := 7) ?hd (cs := #[.int .i64 0, .slice none 0 0]) (t := 35) ?hr ?_; (case hd => rfl); (case hg => rfl); (case hr => first | (go_simp; done) | (go_simp; rfl)); intro gb150 hg w27 hbox hb; have n0_ := Aside0.mk (blk_below (g := gb146) (o := .cells #[.slice A0_0 l0_0.length c0_0, .slice A0_1 l0_1.length c0_1, .int .i64 a0_2, .slice (some ad149) l0_3.length c0_3] 25 (0, 0)) (by (with_reducible repeat (first | refine blk_drewN ?_ _ | refine blk_drew ?_ | refine blk_alloc ?_ _)); exact BK146.out) hb); have n1_ := Aside0.mk (below_step (by repeat (first | (with_reducible first | exact HB.out | apply below_alloc | apply pw_below_drewN | apply below_drew1 | refine below_set ?_ GE146.out) | exact HB.out)) hb); have n2_ := Aside0.mk (hbox); have n3_ := Aside0.mk ((by rw [hg]; exact (below_size (by repeat (first | (with_reducible first | exact HB.out | apply below_alloc | apply pw_below_drewN | apply below_drew1 | refine below_set ?_ GE146.out) | exact HB.out))) : w.heap.size ≤ gb150)); have n4_ := Aside0.mk ((by rw [hg]; exact (below_size (by repeat (first | (with_reducible first | exact HB.out | apply below_alloc | apply pw_below_drewN | apply below_drew1 | refine below_set ?_ GE146.out) | exact HB.out))) : w.heap.size ≤ gb150)); have n5_ := Aside0.mk ((by rw [hg]; exact Nat.ne_of_lt (blk_lt (g := gb146) (o := .cells #[.slice A0_0 l0_0.length c0_0, .slice A0_1 l0_1.length c0_1, .int .i64 a0_2, .slice (some ad149) l0_3.length c0_3] 25 (0, 0)) (by (with_reducible repeat (first | refine blk_drewN ?_ _ | refine blk_drew ?_ | refine blk_alloc ?_ _)); exact BK146.out)) : gb146 ≠ gb150)); have n6_ := Aside0.mk ((by rw [hg]; exact Nat.ne_of_gt (blk_lt (g := gb146) (o := .cells #[.slice A0_0 l0_0.length c0_0, .slice A0_1 l0_1.length c0_1, .int .i64 a0_2, .slice (some ad149) l0_3.length c0_3] 25 (0, 0)) (by (with_reducible repeat (first | refine blk_drewN ?_ _ | refine blk_drew ?_ | refine blk_alloc ?_ _)); exact BK146.out)) : gb150 ≠ gb146)); clear BK146; clear HB; have BK146 := n0_; have HB := n1_; have BK150 := n2_; have GW150 := n3_; have GE150 := n4_; have NB146_150 := n5_; have NB150_146 := n6_; clear n0_ n1_ n2_ n3_ n4_ n5_ n6_; clear hb hbox hg; have hnb28 := NB150_146.out; have hnc28 := NB146_150.out; have hcz29_0 : w27.cell? ⟨gb150, 0, none⟩ = some (.int .i64 0) := (blk_cell BK150.out 0).trans rfl; have hcz29_1 : w27.cell? ⟨gb150, 1, none⟩ = some (.slice none 0 0) := (blk_cell BK150.out 1).trans rfl; have hfz29_0 := blk_frozen BK150.out 0; have hfz29_1 := blk_frozen BK150.out 1))
                              go_ret2
                              exact ⟨by first | rfl | (simp [errW_none, errW_some] <;> rfl) | (simp [*, errW_none, errW_some] <;> rfl), by repeat (first | (with_reducible first | exact HB.out | apply below_alloc | apply pw_below_drewN | apply below_drew1 | refine below_set ?_ GE146.out | refine below_set ?_ GE150.out) | exact HB.out)⟩
                            · rw [if_neg c25] at H
                              have c25b0 : decide (32 < (((rd_T35 l0_3 x6_4).f1).length : Int)) = false := decide_eq_false c25
                              have c25b1 : decide (32 < ((rd_T35 l0_3 x6_4).f1).length) = false := decide_eq_false (by omega)
                              clear c25
                              have HC30 := Aside0.mk H
                              clear H
                              have hcz31_0 : wr.cell? ⟨gb146, 0, none⟩ = some (.slice A0_0 l0_0.length c0_0) := (blk_cell BK146.out 0).trans rfl
                              have hcz31_1 : wr.cell? ⟨gb146, 1, none⟩ = some (.slice A0_1 l0_1.length c0_1) := (blk_cell BK146.out 1).trans rfl
                              have hcz31_2 : wr.cell? ⟨gb146, 2, none⟩ = some (.int .i64 a0_2) := (blk_cell BK146.out 2).trans rfl
                              have hcz31_3 : wr.cell? ⟨gb146, 3, none⟩ = some (.slice A0_3 l0_3.length c0_3) := (blk_cell BK146.out 3).trans rfl
                              have hfz31_0 := blk_frozen BK146.out 0
                              have hfz31_1 := blk_frozen BK146.out 1
                              have hfz31_2 := blk_frozen BK146.out 2
                              have hfz31_3 := blk_frozen BK146.out 3
                              have p149 : 0 ≤ (x6_4 : Int) := of_decide_eq_true (by first | (with_reducible assumption) | assumption)
                              have q149 : x6_4 < (l0_3.length : Int) := of_decide_eq_true (by first | (with_reducible assumption) | assumption)
                              obtain ⟨ad149, A149_1, c149_1, e149, hx149_0, hx149_1, hl149_1, hi149_1⟩ := at_T35 HR0_3.out x6_4 p149 q149
                              cases e149
                              replace hx149_0 := (HB.out.cell (World.block_lt_of_cell? w _ hx149_0)).trans hx149_0
                              replace hx149_1 := (HB.out.cell (World.block_lt_of_cell? w _ hx149_1)).trans hx149_1
                              have HR149_1 := Aside0.mk hi149_1
                              have HC149_1 := Aside0.mk hl149_1
                              clear hi149_1 hl149_1
                              replace p149 := eq_true p149
                              replace q149 := eq_true q149
                              go_upto_region 15 with (first | ((with_reducible refine gate_dst (N := 7) rfl ?_); (try (refine gate_guard (by rfl) ?_; dsimp only)); refine box_event ?hg (N := 7) ?hd (cs := #[.int .i64 0, .slice none 0 0]) (t := 35) ?hr ?_; (case hd => rfl); (case hg => rfl); (case hr => first | (go_simp; done) | (go_simp; rfl)); intro gb150 hg w32 hbox hb; have n0_ := Aside0.mk (blk_below (g := gb146) (o := .cells #[.slice A0_0 l0_0.length c0_0, .slice A0_1 l0_1.length c0_1, .int .i64 a0_2, .slice (some ad149) l0_3.length c0_3] 25 (0, 0)) (by (with_reducible repeat (first | refine blk_drewN ?_ _ | refine blk_drew ?_ | refine blk_alloc ?_ _)); exact BK146.out) hb); have n1_ := Aside0.mk (below_step (by repeat (first | (with_reducible first | exact HB.out | apply below_alloc | apply pw_below_drewN | apply below_drew1 | refine below_set ?_ GE146.out) | exact HB.out)) hb); have n2_ := Aside0.mk (hbox); have n3_ := Aside0.mk ((by rw [hg]; exact (below_size (by repeat (first | (with_reducible first | exact HB.out | apply below_alloc | apply pw_below_drewN | apply below_drew1 | refine below_set ?_ GE146.out) | exact HB.out))) : w.heap.size ≤ gb150)); have n4_ := Aside0.mk ((by rw [hg]; exact (below_size (by repeat (first | (with_reducible first | exact HB.out | apply below_alloc | apply pw_below_drewN | apply below_drew1 | refine below_set ?_ GE146.out) | exact HB.out))) : w.heap.size ≤ gb150)); have n5_ := Aside0.mk ((by rw [hg]; exact Nat.ne_of_lt (blk_lt (g := gb146) (o := .cells #[.slice A0_0 l0_0.length c0_0, .slice A0_1 l0_1.length c0_1, .int .i64 a0_2, .slice (some ad149) l0_3.length c0_3] 25 (0, 0)) (by (with_reducible repeat (first | refine blk_drewN ?_ _ | refine blk_drew ?_ | refine blk_alloc ?_ _)); exact BK146.out)) : gb146 ≠ gb150)); have n6_ := Aside0.mk ((by rw [hg]; exact Nat.ne_of_gt (blk_lt (g := gb146) (o := .cells #[.slice A0_0 l0_0.length c0_0, .slice A0_1 l0_1.length c0_1, .int .i64 a0_2, .slice (some ad149) l0_3.length c0_3] 25 (0, 0)) (by (with_reducible repeat (first | refine blk_drewN ?_ _ | refine blk_drew ?_ | refine blk_alloc ?_ _)); exact BK146.out)) : gb150 ≠ gb146)); clear BK146; clear HB; have BK146 := n0_; have HB := n1_; have BK150 := n2_; have GW150 := n3_; have GE150 := n4_; have NB146_150 := n5_; have NB150_146 := n6_; clear n0_ n1_ n2_ n3_ n4_ n5_ n6_; clear hb hbox hg; have hnb33 := NB150_146.out; have hnc33 := NB146_150.out; have hcz34_0 : w32.cell? ⟨gb150, 0, none⟩ = some (.int .i64 0) := (blk_cell BK150.out 0).trans rfl; have hcz34_1 : w32.cell? ⟨gb150, 1, none⟩ = some (.slice none 0 0) := (blk_cell BK150.out 1).trans rfl; have hfz34_0 := blk_frozen BK150.out 0; have hfz34_1 := blk_frozen BK150.out 1))
                              (try simp only [Act.put, List.setIfInBounds_toArray, List.set_cons_zero, List.set_cons_succ])
                              go_cut [81] (fun v81 wc => ∃ (kq : Nat) (x81_29 : Bool), v81 = .bool x81_29 ∧ Aside0 (dovetailref03_Check.j4 kq (l0_0.length : Int) (l0_1.length : Int) x6_4 x81_29 l0_0 l0_1 a0_2 l0_3 ((rd_T35 l0_3 x6_4).f0) ((rd_T35 l0_3 x6_4).f1) = some (r1, r2)) ∧ Aside0 (kq ≤ k4) ∧ Aside0 (wc.heap[gb146]? = some (.cells #[(.slice A0_0 l0_0.length c0_0), (.slice A0_1 l0_1.length c0_1), .int .i64 a0_2, (.slice (some ad149) l0_3.length c0_3)] 25 (0, 0))) ∧ Aside0 (wc.heap[gb150]? = some (.cells #[.int .i64 ((rd_T35 l0_3 x6_4).f0), (.slice A149_1 ((rd_T35 l0_3 x6_4).f1).length c149_1)] 35 (0, 0))) ∧ Aside0 (Below w.heap.size w wc))
                              case first =>
                                have H := HC30.out
                                clear HC30
                                by_cases c35 : ((rd_T35 l0_3 x6_4).f0) < 0
                                · rw [if_pos c35] at H
                                  have c35b0 : decide (((rd_T35 l0_3 x6_4).f0) < 0) = true := decide_eq_true c35
                                  clear c35
                                  (first | rw [c35b0] | (simp only [i64_w, i32_w]; rw [c35b0]) | skip)
                                  have H' := Aside0.mk H
                                  clear H
                                  have hnb36 := NB150_146.out
                                  have hnc36 := NB146_150.out
                                  have hcz37_0 : w32.cell? ⟨gb150, 0, none⟩ = some (.int .i64 0) := (blk_cell BK150.out 0).trans rfl
                                  have hcz37_1 : w32.cell? ⟨gb150, 1, none⟩ = some (.slice none 0 0) := (blk_cell BK150.out 1).trans rfl
                                  have hfz37_0 := blk_frozen BK150.out 0
                                  have hfz37_1 := blk_frozen BK150.out 1
                                  go_wp2
                                  go_meet
                                  case rel => exact ⟨_, (true), (by first | rfl | (simp; done) | (simp [*]; done)), H', ⟨by have := HJ1.out; have := HJ9.out; have := HJ16.out; have := HK4.out; first | omega | exact Nat.le_refl _⟩, ⟨by (with_reducible repeat (first | refine blk_drewN ?_ _ | refine blk_drew ?_ | refine blk_alloc ?_ _)); refine blk_far ?_ NB146_150.out _; (with_reducible repeat (first | refine blk_drewN ?_ _ | refine blk_drew ?_ | refine blk_alloc ?_ _)); refine blk_far ?_ NB146_150.out _; (with_reducible repeat (first | refine blk_drewN ?_ _ | refine blk_drew ?_ | refine blk_alloc ?_ _)); exact BK146.out⟩, ⟨by (with_reducible repeat (first | refine blk_drewN ?_ _ | refine blk_drew ?_ | refine blk_alloc ?_ _)); refine blk_put (cs := #[.int .i64 ((rd_T35 l0_3 x6_4).f0), .slice none 0 0]) ?_ 1 _ rfl; (with_reducible repeat (first | refine blk_drewN ?_ _ | refine blk_drew ?_ | refine blk_alloc ?_ _)); refine blk_put (cs := #[.int .i64 0, .slice none 0 0]) ?_ 0 _ rfl; (with_reducible repeat (first | refine blk_drewN ?_ _ | refine blk_drew ?_ | refine blk_alloc ?_ _)); exact BK150.out⟩, ⟨by repeat (first | (with_reducible first | exact HB.out | apply below_alloc | apply pw_below_drewN | apply below_drew1 | refine below_set ?_ GE146.out | refine below_set ?_ GE150.out) | exact HB.out)⟩⟩
                                · rw [if_neg c35] at H
                                  have c35b0 : decide (((rd_T35 l0_3 x6_4).f0) < 0) = false := decide_eq_false c35
                                  clear c35
                                  (first | rw [c35b0] | (simp only [i64_w, i32_w]; rw [c35b0]) | skip)
                                  have H' := Aside0.mk H
                                  clear H
                                  have hnb38 := NB150_146.out
                                  have hnc38 := NB146_150.out
                                  have hcz39_0 : w32.cell? ⟨gb150, 0, none⟩ = some (.int .i64 0) := (blk_cell BK150.out 0).trans rfl
                                  have hcz39_1 : w32.cell? ⟨gb150, 1, none⟩ = some (.slice none 0 0) := (blk_cell BK150.out 1).trans rfl
                                  have hfz39_0 := blk_frozen BK150.out 0
                                  have hfz39_1 := blk_frozen BK150.out 1
                                  go_wp2
                                  go_meet
                                  case rel => exact ⟨_, (decide (((rd_T35 l0_3 x6_4).f0) ≥ (l0_1.length : Int))), (by first | rfl | (simp; done) | (simp [*]; done)), H', ⟨by have := HJ1.out; have := HJ9.out; have := HJ16.out; have := HK4.out; first | omega | exact Nat.le_refl _⟩, ⟨by (with_reducible repeat (first | refine blk_drewN ?_ _ | refine blk_drew ?_ | refine blk_alloc ?_ _)); refine blk_far ?_ NB146_150.out _; (with_reducible repeat (first | refine blk_drewN ?_ _ | refine blk_drew ?_ | refine blk_alloc ?_ _)); refine blk_far ?_ NB146_150.out _; (with_reducible repeat (first | refine blk_drewN ?_ _ | refine blk_drew ?_ | refine blk_alloc ?_ _)); exact BK146.out⟩, ⟨by (with_reducible repeat (first | refine blk_drewN ?_ _ | refine blk_drew ?_ | refine blk_alloc ?_ _)); refine blk_put (cs := #[.int .i64 ((rd_T35 l0_3 x6_4).f0), .slice none 0 0]) ?_ 1 _ rfl; (with_reducible repeat (first | refine blk_drewN ?_ _ | refine blk_drew ?_ | refine blk_alloc ?_ _)); refine blk_put (cs := #[.int .i64 0, .slice none 0 0]) ?_ 0 _ rfl; (with_reducible repeat (first | refine blk_drewN ?_ _ | refine blk_drew ?_ | refine blk_alloc ?_ _)); exact BK150.out⟩, ⟨by repeat (first | (with_reducible first | exact HB.out | apply below_alloc | apply pw_below_drewN | apply below_drew1 | refine below_set ?_ GE146.out | refine below_set ?_ GE150.out) | exact HB.out)⟩⟩
                              case rest =>
                                clear HC30
                                try clear c1
                                try clear p1
                                try clear q1
                                try clear hx1
                                try clear c2
                                try clear p2
                                try clear c3
                                try clear c5
                                try clear c5b0
                                try clear c5b1
                                try clear c6
                                try clear c6b0
                                try clear c6b1
                                try clear p6
                                try clear c7
                                try clear c7b0
                                try clear c9
                                try clear c12
                                try clear c14
                                try clear p14
                                try clear q14
                                try clear hx14
                                try clear c16
                                try clear c18
                                try clear c18b0
                                try clear c18b1
                                try clear c18b2
                                try clear c19
                                try clear c19b0
                                try clear c22
                                try clear c23
                                try clear c23b0
                                try clear c24
                                try clear c24b0
                                try clear c25
                                try clear c25b0
                                try clear c25b1
                                try clear c28
                                try clear c33
                                try clear c35
                                try clear c35b0
                                try clear c36
                                try clear c38
                                try clear hcz14_0
                                try clear hcz14_1
                                try clear hcz14_2
                                try clear hcz14_3
                                try clear hcz15_0
                                try clear hcz15_1
                                try clear hcz15_2
                                try clear hcz15_3
                                try clear hcz20_0
                                try clear hcz20_1
                                try clear hcz20_2
                                try clear hcz20_3
                                try clear hcz21_0
                                try clear hcz21_1
                                try clear hcz21_2
                                try clear hcz21_3
                                try clear hcz26_0
                                try clear hcz26_1
                                try clear hcz26_2
                                try clear hcz26_3
                                try clear hcz29_0
                                try clear hcz29_1
                                try clear hcz31_0
                                try clear hcz31_1
                                try clear hcz31_2
                                try clear hcz31_3
                                try clear hcz34_0
                                try clear hcz34_1
                                try clear hcz37_0
                                try clear hcz37_1
                                try clear hcz39_0
                                try clear hcz39_1
                                try clear hcz4_0
                                try clear hcz4_1
                                try clear hcz4_2
                                try clear hcz4_3
                                try clear hcz8_0
                                try clear hcz8_1
                                try clear hcz8_2
                                try clear hcz8_3
                                try clear hfz14_0
                                try clear hfz14_1
                                try clear hfz14_2
                                try clear hfz14_3
                                try clear hfz15_0
                                try clear hfz15_1
                                try clear hfz15_2
                                try clear hfz15_3
                                try clear hfz20_0
                                try clear hfz20_1
                                try clear hfz20_2
                                try clear hfz20_3
                                try clear hfz21_0
                                try clear hfz21_1
                                try clear hfz21_2
                                try clear hfz21_3
                                try clear hfz26_0
                                try clear hfz26_1
                                try clear hfz26_2
                                try clear hfz26_3
                                try clear hfz29_0
                                try clear hfz29_1
                                try clear hfz31_0
                                try clear hfz31_1
                                try clear hfz31_2
                                try clear hfz31_3
                                try clear hfz34_0
                                try clear hfz34_1
                                try clear hfz37_0
                                try clear hfz37_1
                                try clear hfz39_0
                                try clear hfz39_1
                                try clear hfz4_0
                                try clear hfz4_1
                                try clear hfz4_2
                                try clear hfz4_3
                                try clear hfz8_0
                                try clear hfz8_1
                                try clear hfz8_2
                                try clear hfz8_3
                                try clear hx149_0
                                try clear hx149_1
                                try clear p149
                                try clear p2
                                try clear p6
                                try clear q149
                                obtain ⟨kq, x81_29, rfl, HA, HJ29, BK146, BK150, HB⟩ := hcut
                                cases kq with
                                | zero => exact absurd HA.out (by simp [dovetailref03_Check.j4])
                                | succ kj29 =>
                                  have H := HA.out
                                  clear HA
                                  simp only [dovetailref03_Check.j4] at H
                                  by_cases c40 : x81_29 = true
                                  · subst c40
                                    have H1 : (some (1, x6_4)) = some (r1, r2) := by rw [if_pos rfl] at H; exact H
                                    clear H
                                    have H := H1
                                    clear H1
                                    simp only [Option.some.injEq, Prod.mk.injEq] at H
                                    obtain ⟨rfl, rfl⟩ := H
                                    go_wp2
                                    go_ret2
                                    exact ⟨by first | rfl | (simp [errW_none, errW_some] <;> rfl) | (simp [*, errW_none, errW_some] <;> rfl), by repeat (first | (with_reducible first | exact HB.out | apply below_alloc | apply pw_below_drewN | apply below_drew1 | refine below_set ?_ GE146.out | refine below_set ?_ GE150.out) | exact HB.out)⟩
                                  · replace c40 := Bool.eq_false_iff.mpr c40
                                    subst c40
                                    have H1 : (dovetailref03_Check.l1 kj29 (l0_0.length : Int) (l0_1.length : Int) x6_4 0 l0_0 l0_1 a0_2 l0_3 ((rd_T35 l0_3 x6_4).f0) ((rd_T35 l0_3 x6_4).f1)) = some (r1, r2) := by rw [if_neg (show ¬ (false = true) by decide)] at H; exact H
                                    clear H
                                    have H := H1
                                    clear H1
                                    have H' := Aside0.mk H
                                    clear H
                                    go_wp2
                                    go_loopg [8] kj29 (fun kq v8 w' => ∃ (x8_6 : Int), v8 = .int .i64 x8_6 ∧ Aside0 (dovetailref03_Check.l1 kq (l0_0.length : Int) (l0_1.length : Int) x6_4 x8_6 l0_0 l0_1 a0_2 l0_3 ((rd_T35 l0_3 x6_4).f0) ((rd_T35 l0_3 x6_4).f1) = some (r1, r2)) ∧ Aside0 (kq ≤ kj29) ∧ Aside0 (w'.heap[gb146]? = some (.cells #[(.slice A0_0 l0_0.length c0_0), (.slice A0_1 l0_1.length c0_1), .int .i64 a0_2, (.slice (some ad149) l0_3.length c0_3)] 25 (0, 0))) ∧ Aside0 (w'.heap[gb150]? = some (.cells #[.int .i64 ((rd_T35 l0_3 x6_4).f0), (.slice A149_1 ((rd_T35 l0_3 x6_4).f1).length c149_1)] 35 (0, 0))) ∧ Aside0 (Below w.heap.size w w'))
                                    case atStart => exact ⟨(0), (by first | rfl | (simp; done) | (simp [*]; done)), H', ⟨Nat.le_refl _⟩, ⟨by (with_reducible repeat (first | refine blk_drewN ?_ _ | refine blk_drew ?_ | refine blk_alloc ?_ _)); exact BK146.out⟩, ⟨by (with_reducible repeat (first | refine blk_drewN ?_ _ | refine blk_drew ?_ | refine blk_alloc ?_ _)); exact BK150.out⟩, ⟨by repeat (first | (with_reducible first | exact HB.out | apply below_alloc | apply pw_below_drewN | apply below_drew1 | refine below_set ?_ GE146.out | refine below_set ?_ GE150.out) | exact HB.out)⟩⟩
                                    case round =>
                                      clear H'
                                      try clear c1
                                      try clear p1
                                      try clear q1
                                      try clear hx1
                                      try clear c2
                                      try clear p2
                                      try clear c3
                                      try clear c4
                                      try clear c5
                                      try clear c5b0
                                      try clear c5b1
                                      try clear c6
                                      try clear c6b0
                                      try clear c6b1
                                      try clear p6
                                      try clear c7
                                      try clear c7b0
                                      try clear c9
                                      try clear c12
                                      try clear c14
                                      try clear p14
                                      try clear q14
                                      try clear hx14
                                      try clear c16
                                      try clear c18
                                      try clear c18b0
                                      try clear c18b1
                                      try clear c18b2
                                      try clear c19
                                      try clear c19b0
                                      try clear c22
                                      try clear c23
                                      try clear c23b0
                                      try clear c24
                                      try clear c24b0
                                      try clear c25
                                      try clear c25b0
                                      try clear c25b1
                                      try clear c28
                                      try clear c33
                                      try clear c35
                                      try clear c35b0
                                      try clear c36
                                      try clear c38
                                      try clear c40
                                      try clear hcz14_0
                                      try clear hcz14_1
                                      try clear hcz14_2
                                      try clear hcz14_3
                                      try clear hcz15_0
                                      try clear hcz15_1
                                      try clear hcz15_2
                                      try clear hcz15_3
                                      try clear hcz20_0
                                      try clear hcz20_1
                                      try clear hcz20_2
                                      try clear hcz20_3
                                      try clear hcz21_0
                                      try clear hcz21_1
                                      try clear hcz21_2
                                      try clear hcz21_3
                                      try clear hcz26_0
                                      try clear hcz26_1
                                      try clear hcz26_2
                                      try clear hcz26_3
                                      try clear hcz29_0
                                      try clear hcz29_1
                                      try clear hcz31_0
                                      try clear hcz31_1
                                      try clear hcz31_2
                                      try clear hcz31_3
                                      try clear hcz34_0
                                      try clear hcz34_1
                                      try clear hcz37_0
                                      try clear hcz37_1
                                      try clear hcz39_0
                                      try clear hcz39_1
                                      try clear hcz4_0
                                      try clear hcz4_1
                                      try clear hcz4_2
                                      try clear hcz4_3
                                      try clear hcz8_0
                                      try clear hcz8_1
                                      try clear hcz8_2
                                      try clear hcz8_3
                                      try clear hfz14_0
                                      try clear hfz14_1
                                      try clear hfz14_2
                                      try clear hfz14_3
                                      try clear hfz15_0
                                      try clear hfz15_1
                                      try clear hfz15_2
                                      try clear hfz15_3
                                      try clear hfz20_0
                                      try clear hfz20_1
                                      try clear hfz20_2
                                      try clear hfz20_3
                                      try clear hfz21_0
                                      try clear hfz21_1
                                      try clear hfz21_2
                                      try clear hfz21_3
                                      try clear hfz26_0
                                      try clear hfz26_1
                                      try clear hfz26_2
                                      try clear hfz26_3
                                      try clear hfz29_0
                                      try clear hfz29_1
                                      try clear hfz31_0
                                      try clear hfz31_1
                                      try clear hfz31_2
                                      try clear hfz31_3
                                      try clear hfz34_0
                                      try clear hfz34_1
                                      try clear hfz37_0
                                      try clear hfz37_1
                                      try clear hfz39_0
                                      try clear hfz39_1
                                      try clear hfz4_0
                                      try clear hfz4_1
                                      try clear hfz4_2
                                      try clear hfz4_3
                                      try clear hfz8_0
                                      try clear hfz8_1
                                      try clear hfz8_2
                                      try clear hfz8_3
                                      try clear hx149_0
                                      try clear hx149_1
                                      try clear p1
                                      try clear p14
                                      try clear p149
                                      try clear p2
                                      try clear p6
                                      try clear q1
                                      try clear q14
                                      try clear q149
                                      obtain ⟨x8_6, rfl, HA, HK6, BK146, BK150, HB⟩ := hrel
                                      cases gk with
                                      | zero => exact absurd HA.out (by simp [dovetailref03_Check.l1])
                                      | succ k6 =>
                                        have H := HA.out
                                        clear HA
                                        simp only [dovetailref03_Check.l1] at H
                                        by_cases c41 : x8_6 < (((rd_T35 l0_3 x6_4).f1).length : Int)
                                        · rw [if_pos c41] at H
                                          have c41b0 : decide (x8_6 < (((rd_T35 l0_3 x6_4).f1).length : Int)) = true := decide_eq_true c41
                                          clear c41
                                          by_cases c42 : 0 ≤ x8_6
                                          · rw [if_pos c42] at H
                                            have c42b0 : decide (0 ≤ x8_6) = true := decide_eq_true c42
                                            clear c42
                                            by_cases c43 : (rd ((rd_T35 l0_3 x6_4).f1) x8_6) ≥ (l0_0.length : Int)
                                            · rw [if_pos c43] at H
                                              have c43b0 : decide ((l0_0.length : Int) ≤ (rd ((rd_T35 l0_3 x6_4).f1) x8_6)) = true := decide_eq_true c43
                                              clear c43
                                              simp only [Option.some.injEq, Prod.mk.injEq] at H
                                              obtain ⟨rfl, rfl⟩ := H
                                              have hnb44 := NB150_146.out
                                              have hnc44 := NB146_150.out
                                              have hcz45_0 : wr.cell? ⟨gb150, 0, none⟩ = some (.int .i64 ((rd_T35 l0_3 x6_4).f0)) := (blk_cell BK150.out 0).trans rfl
                                              have hcz45_1 : wr.cell? ⟨gb150, 1, none⟩ = some (.slice A149_1 ((rd_T35 l0_3 x6_4).f1).length c149_1) := (blk_cell BK150.out 1).trans rfl
                                              have hfz45_0 := blk_frozen BK150.out 0
                                              have hfz45_1 := blk_frozen BK150.out 1
                                              have p151 : 0 ≤ (x8_6 : Int) := of_decide_eq_true (by first | (with_reducible assumption) | assumption)
                                              have q151 : x8_6 < (((rd_T35 l0_3 x6_4).f1).length : Int) := of_decide_eq_true (by first | (with_reducible assumption) | assumption)
                                              obtain ⟨ad151, e151, hx151_0⟩ := Kd.at_int HR149_1.out x8_6 p151 q151
                                              cases e151
                                              replace hx151_0 := (HB.out.cell (World.block_lt_of_cell? w _ hx151_0)).trans hx151_0
                                              replace p151 := eq_true p151
                                              replace q151 := eq_true q151
                                              go_wp2
                                              go_ret2
                                              exact ⟨by first | rfl | (simp [errW_none, errW_some] <;> rfl) | (simp [*, errW_none, errW_some] <;> rfl), by repeat (first | (with_reducible first | exact HB.out | apply below_alloc | apply pw_below_drewN | apply below_drew1 | refine below_set ?_ GE146.out | refine below_set ?_ GE150.out) | exact HB.out)⟩
                                            · rw [if_neg c43] at H
                                              have c43b0 : decide ((l0_0.length : Int) ≤ (rd ((rd_T35 l0_3 x6_4).f1) x8_6)) = false := decide_eq_false c43
                                              clear c43
                                              by_cases c46 : (rd ((rd_T35 l0_3 x6_4).f1) x8_6) < (wrap64 (-(l0_1.length : Int)))
                                              · rw [if_pos c46] at H
                                                have c46b0 : decide ((rd ((rd_T35 l0_3 x6_4).f1) x8_6) < (wrap64 (-(l0_1.length : Int)))) = true := decide_eq_true c46
                                                clear c46
                                                simp only [Option.some.injEq, Prod.mk.injEq] at H
                                                obtain ⟨rfl, rfl⟩ := H
                                                have hnb47 := NB150_146.out
                                                have hnc47 := NB146_150.out
                                                have hcz48_0 : wr.cell? ⟨gb150, 0, none⟩ = some (.int .i64 ((rd_T35 l0_3 x6_4).f0)) := (blk_cell BK150.out 0).trans rfl
                                                have hcz48_1 : wr.cell? ⟨gb150, 1, none⟩ = some (.slice A149_1 ((rd_T35 l0_3 x6_4).f1).length c149_1) := (blk_cell BK150.out 1).trans rfl
                                                have hfz48_0 := blk_frozen BK150.out 0
                                                have hfz48_1 := blk_frozen BK150.out 1
                                                have p151 : 0 ≤ (x8_6 : Int) := of_decide_eq_true (by first | (with_reducible assumption) | assumption)
                                                have q151 : x8_6 < (((rd_T35 l0_3 x6_4).f1).length : Int) := of_decide_eq_true (by first | (with_reducible assumption) | assumption)
                                                obtain ⟨ad151, e151, hx151_0⟩ := Kd.at_int HR149_1.out x8_6 p151 q151
                                                cases e151
                                                replace hx151_0 := (HB.out.cell (World.block_lt_of_cell? w _ hx151_0)).trans hx151_0
                                                replace p151 := eq_true p151
                                                replace q151 := eq_true q151
                                                have p152 : 0 ≤ (x8_6 : Int) := of_decide_eq_true (by first | (with_reducible assumption) | assumption)
                                                have q152 : x8_6 < (((rd_T35 l0_3 x6_4).f1).length : Int) := of_decide_eq_true (by first | (with_reducible assumption) | assumption)
                                                obtain ⟨ad152, e152, hx152_0⟩ := Kd.at_int HR149_1.out x8_6 p152 q152
                                                obtain rfl : ad151 = ad152 := (by injection e152)
                                                replace hx152_0 := (HB.out.cell (World.block_lt_of_cell? w _ hx152_0)).trans hx152_0
                                                replace p152 := eq_true p152
                                                replace q152 := eq_true q152
                                                go_wp2
                                                go_ret2
                                                exact ⟨by first | rfl | (simp [errW_none, errW_some] <;> rfl) | (simp [*, errW_none, errW_some] <;> rfl), by repeat (first | (with_reducible first | exact HB.out | apply below_alloc | apply pw_below_drewN | apply below_drew1 | refine below_set ?_ GE146.out | refine below_set ?_ GE150.out) | exact HB.out)⟩
                                              · rw [if_neg c46] at H
                                                have c46b0 : decide ((rd ((rd_T35 l0_3 x6_4).f1) x8_6) < (wrap64 (-(l0_1.length : Int)))) = false := decide_eq_false c46
                                                clear c46
                                                have H' := Aside0.mk H
                                                clear H
                                                have hnb49 := NB150_146.out
                                                have hnc49 := NB146_150.out
                                                have hcz50_0 : wr.cell? ⟨gb150, 0, none⟩ = some (.int .i64 ((rd_T35 l0_3 x6_4).f0)) := (blk_cell BK150.out 0).trans rfl
                                                have hcz50_1 : wr.cell? ⟨gb150, 1, none⟩ = some (.slice A149_1 ((rd_T35 l0_3 x6_4).f1).length c149_1) := (blk_cell BK150.out 1).trans rfl
                                                have hfz50_0 := blk_frozen BK150.out 0
                                                have hfz50_1 := blk_frozen BK150.out 1
                                                have p151 : 0 ≤ (x8_6 : Int) := of_decide_eq_true (by first | (with_reducible assumption) | assumption)
                                                have q151 : x8_6 < (((rd_T35 l0_3 x6_4).f1).length : Int) := of_decide_eq_true (by first | (with_reducible assumption) | assumption)
                                                obtain ⟨ad151, e151, hx151_0⟩ := Kd.at_int HR149_1.out x8_6 p151 q151
                                                cases e151
                                                replace hx151_0 := (HB.out.cell (World.block_lt_of_cell? w _ hx151_0)).trans hx151_0
                                                replace p151 := eq_true p151
                                                replace q151 := eq_true q151
                                                have p152 : 0 ≤ (x8_6 : Int) := of_decide_eq_true (by first | (with_reducible assumption) | assumption)
                                                have q152 : x8_6 < (((rd_T35 l0_3 x6_4).f1).length : Int) := of_decide_eq_true (by first | (with_reducible assumption) | assumption)
                                                obtain ⟨ad152, e152, hx152_0⟩ := Kd.at_int HR149_1.out x8_6 p152 q152
                                                obtain rfl : ad151 = ad152 := (by injection e152)
                                                replace hx152_0 := (HB.out.cell (World.block_lt_of_cell? w _ hx152_0)).trans hx152_0
                                                replace p152 := eq_true p152
                                                replace q152 := eq_true q152
                                                go_wp2
                                                go_roundg k6
                                                case measure => have := HJ1.out; have := HJ9.out; have := HJ16.out; have := HK4.out; have := HJ29.out; have := HK6.out; omega
                                                case rel => exact ⟨(wrap64 (x8_6 + 1)), (by first | rfl | (simp; done) | (simp [*]; done)), H', ⟨by have := HJ1.out; have := HJ9.out; have := HJ16.out; have := HK4.out; have := HJ29.out; have := HK6.out; omega⟩, ⟨by (with_reducible repeat (first | refine blk_drewN ?_ _ | refine blk_drew ?_ | refine blk_alloc ?_ _)); exact BK146.out⟩, ⟨by (with_reducible repeat (first | refine blk_drewN ?_ _ | refine blk_drew ?_ | refine blk_alloc ?_ _)); exact BK150.out⟩, ⟨by repeat (first | (with_reducible first | exact HB.out | apply below_alloc | apply pw_below_drewN | apply below_drew1 | refine below_set ?_ GE146.out | refine below_set ?_ GE150.out) | exact HB.out)⟩⟩
                                          · rw [if_neg c42] at H
                                            exact absurd H (by simp)
                                        · rw [if_neg c41] at H
                                          have c41b0 : decide (x8_6 < (((rd_T35 l0_3 x6_4).f1).length : Int)) = false := decide_eq_false c41
                                          clear c41
                                          have H' := Aside0.mk H
                                          clear H
                                          have hnb51 := NB150_146.out
                                          have hnc51 := NB146_150.out
                                          have hcz52_0 : wr.cell? ⟨gb150, 0, none⟩ = some (.int .i64 ((rd_T35 l0_3 x6_4).f0)) := (blk_cell BK150.out 0).trans rfl
                                          have hcz52_1 : wr.cell? ⟨gb150, 1, none⟩ = some (.slice A149_1 ((rd_T35 l0_3 x6_4).f1).length c149_1) := (blk_cell BK150.out 1).trans rfl
                                          have hfz52_0 := blk_frozen BK150.out 0
                                          have hfz52_1 := blk_frozen BK150.out 1
                                          go_wp2
                                          go_roundg k6
                                          case measure => have := HJ1.out; have := HJ9.out; have := HJ16.out; have := HK4.out; have := HJ29.out; have := HK6.out; omega
                                          case rel => exact ⟨(wrap64 (x6_4 + 1)), (by first | rfl | (simp; done) | (simp [*]; done)), H', ⟨by have := HJ1.out; have := HJ9.out; have := HJ16.out; have := HK4.out; have := HJ29.out; have := HK6.out; omega⟩, ⟨by (with_reducible repeat (first | refine blk_drewN ?_ _ | refine blk_drew ?_ | refine blk_alloc ?_ _)); exact BK146.out⟩, ⟨by repeat (first | (with_reducible first | exact HB.out | apply below_alloc | apply pw_below_drewN | apply below_drew1 | refine below_set ?_ GE146.out | refine below_set ?_ GE150.out) | exact HB.out)⟩⟩
                          · rw [if_neg c24] at H
                            exact absurd H (by simp)
                        · rw [if_neg c23] at H
                          have c23b0 : decide (x6_4 < (l0_3.length : Int)) = false := decide_eq_false c23
                          clear c23
                          simp only [Option.some.injEq, Prod.mk.injEq] at H
                          obtain ⟨rfl, rfl⟩ := H
                          have hcz53_0 : wr.cell? ⟨gb146, 0, none⟩ = some (.slice A0_0 l0_0.length c0_0) := (blk_cell BK146.out 0).trans rfl
                          have hcz53_1 : wr.cell? ⟨gb146, 1, none⟩ = some (.slice A0_1 l0_1.length c0_1) := (blk_cell BK146.out 1).trans rfl
                          have hcz53_2 : wr.cell? ⟨gb146, 2, none⟩ = some (.int .i64 a0_2) := (blk_cell BK146.out 2).trans rfl
                          have hcz53_3 : wr.cell? ⟨gb146, 3, none⟩ = some (.slice A0_3 l0_3.length c0_3) := (blk_cell BK146.out 3).trans rfl
                          have hfz53_0 := blk_frozen BK146.out 0
                          have hfz53_1 := blk_frozen BK146.out 1
                          have hfz53_2 := blk_frozen BK146.out 2
                          have hfz53_3 := blk_frozen BK146.out 3
                          go_wp2
                          go_ret2
                          exact ⟨by first | rfl | (simp [errW_none, errW_some] <;> rfl) | (simp [*, errW_none, errW_some] <;> rfl), by repeat (first | (with_reducible first | exact HB.out | apply below_alloc | apply pw_below_drewN | apply below_drew1 | refine below_set ?_ GE146.out) | exact HB.out)⟩

end Go.Proofs.YteaiejippkikpaaDoor.B
/- The document's Check, in plain Lean: what gram.Check tells. -/
set_option linter.unusedVariables false
set_option linter.unusedSimpArgs false
namespace Go.Proofs.YteaiejippkikpaaDoor.B
open Go.RowKit Go.Proofs.YteaiejippkikpaaDoorW.PrintWords Go.Proofs.YteaiejippkikpaaDoorW.PrintLast Go.Proofs.YteaiejippkikpaaDoorW.PrintMore

theorem refNamed_in (l : List ByteArray) (hm : l.length ≤ 9223372036854775807) (i : Nat) (hi : i < l.length) (r : Bool) (B : Nat) (hB : ∀ k, B ≤ k → dovetailref03_named.l0 k l ((i + 1 : Nat) : Int) = some r) :
    ∀ (d j k : Nat), i - j = d → j ≤ i → d + B + 1 ≤ k → dovetailref03_named.l1 k l (i : Int) (j : Int) = some (!((l.take i).drop j).any (fun x => decide (l.getD i ByteArray.empty = x)) && r) := by
  intro d
  induction d with
  | zero =>
    intro j k hd hj hk
    obtain ⟨k, rfl⟩ : ∃ m, k = m + 1 := ⟨k - 1, by omega⟩
    have : j = i := by omega
    subst this
    rw [dovetailref03_named.l1, if_neg (by omega), w64 j (by omega), hB k (by omega), List.drop_of_length_le (by rw [List.length_take]; omega)]
    simp
  | succ d ih =>
    intro j k hd hj hk
    obtain ⟨k, rfl⟩ : ∃ m, k = m + 1 := ⟨k - 1, by omega⟩
    have hlt : j < i := by omega
    have hdr : (l.take i).drop j = l[j] :: (l.take i).drop (j + 1) := by
      rw [List.drop_eq_getElem_cons (by rw [List.length_take]; omega), List.getElem_take]
    rw [dovetailref03_named.l1, if_pos (by omega), if_pos (by omega), if_pos (by omega), if_pos (by omega), if_pos (by omega), rdS_D, rdS_D, getD_lt l j _ (by omega), hdr, List.any_cons]
    by_cases c : l[j] = l.getD i ByteArray.empty
    · rw [if_pos ((toL_eq _ _).2 c), decide_eq_true c.symm]; rfl
    · rw [if_neg (fun h => c ((toL_eq _ _).1 h)), w64 j (by omega), ih (j + 1) k (by omega) (by omega) (by omega), decide_eq_false (fun h => c h.symm)]; rfl
theorem refNamed_l (l : List ByteArray) (hm : l.length ≤ 9223372036854775807) : ∀ (d i k : Nat), l.length - i = d → i ≤ l.length → d * (l.length + 3) + 1 ≤ k → dovetailref03_named.l0 k l (i : Int) = some (namesFrom l i) := by
  intro d
  induction d with
  | zero =>
    intro i k hi hle hk
    obtain ⟨k, rfl⟩ : ∃ j, k = j + 1 := ⟨k - 1, by omega⟩
    have : i = l.length := by omega
    subst this
    rw [dovetailref03_named.l0, if_neg (by omega), namesFrom_end]
  | succ d ih =>
    intro i k hi hle hk
    rw [Nat.add_mul, Nat.one_mul] at hk
    obtain ⟨k, rfl⟩ : ∃ j, k = j + 2 := ⟨k - 2, by omega⟩
    have hlt : i < l.length := by omega
    have hin := refNamed_in l hm i hlt _ _ (fun k hk => ih (i + 1) k (by omega) (by omega) hk) i 0 k (by omega) (by omega) (by omega)
    rw [dovetailref03_named.l0, if_pos (by omega), if_pos (by omega), rdS_D, namesFrom_step l i hlt]
    rw [List.drop_zero] at hin
    unfold faultAt
    generalize hs : l.getD i ByteArray.empty = s at hin
    by_cases c1 : s.size = 0
    · rw [if_pos (by omega), dovetailref03_named.j1, if_pos rfl]; simp [c1]
    · rw [if_neg (by omega), dovetailref03_named.j1]
      by_cases c2 : 32 < s.size
      · rw [if_pos (decide_eq_true (by omega))]; simp [c2]
      · have hin' : dovetailref03_named.l1 k l (i : Int) 0 = _ := hin
        rw [if_neg (by simp; omega), hin', decide_eq_false c1, decide_eq_false c2]
        simp
theorem refNamed_f (l : List ByteArray) (k : Nat) (hm : l.length ≤ 9223372036854775807) (hk : l.length * (l.length + 3) + 1 ≤ k) : dovetailref03_named.f k l = some (namesOK l) := by
  unfold dovetailref03_named.f
  have := refNamed_l l hm l.length 0 k (by omega) (by omega) hk
  rw [namesFrom_zero] at this
  exact this
theorem refCheck_in (t n : Nat) (hn : n ≤ 60) (l0 l1 : List ByteArray) (a2 : Int) (R : List S35) (i : Nat) (hi : i < 200) (x0 : Int) (xs : List Int) (hx : xs.length ≤ 32) (r : Int × Int) (B : Nat) (hB : ∀ k, B ≤ k → dovetailref03_Check.l0 k (t : Int) (n : Int) ((i + 1 : Nat) : Int) l0 l1 a2 R = some r) :
    ∀ (d j k : Nat), xs.length - j = d → j ≤ xs.length → d + B + 1 ≤ k → dovetailref03_Check.l1 k (t : Int) (n : Int) (i : Int) (j : Int) l0 l1 a2 R x0 xs = some (if (xs.drop j).any (outS t n) = true then (1, (i : Int)) else r) := by
  intro d
  induction d with
  | zero =>
    intro j k hd hj hk
    obtain ⟨k, rfl⟩ : ∃ m, k = m + 1 := ⟨k - 1, by omega⟩
    have : j = xs.length := by omega
    subst this
    rw [dovetailref03_Check.l1, if_neg (by omega), w64 i (by omega), hB k (by omega), List.drop_length]
    rfl
  | succ d ih =>
    intro j k hd hj hk
    obtain ⟨k, rfl⟩ : ∃ m, k = m + 1 := ⟨k - 1, by omega⟩
    have hlt : j < xs.length := by omega
    have hwn : wrap64 (-(n : Int)) = -(n : Int) := by unfold wrap64; omega
    rw [dovetailref03_Check.l1, if_pos (by omega), if_pos (by omega), rd_D, getD_lt xs j _ hlt, hwn, List.drop_eq_getElem_cons hlt, List.any_cons]
    generalize xs[j] = s
    have ho : outS t n s = (decide ((t : Int) ≤ s) || decide (s < -(n : Int))) := rfl
    rw [ho]
    by_cases c1 : (t : Int) ≤ s
    · rw [if_pos (by omega), decide_eq_true c1]; rfl
    · by_cases c2 : s < -(n : Int)
      · rw [if_neg (by omega), if_pos c2, decide_eq_true c2, Bool.or_true]; rfl
      · rw [if_neg (by omega), if_neg c2, w64 j (by omega), ih (j + 1) k (by omega) (by omega) (by omega), decide_eq_false c1, decide_eq_false c2]; rfl
theorem refCheck_l (t n : Nat) (hn : n ≤ 60) (l0 l1 : List ByteArray) (a2 : Int) (R : List S35) (hR : R.length ≤ 120) : ∀ (d i k : Nat), R.length - i = d → i ≤ R.length → d * 40 + 1 ≤ k → dovetailref03_Check.l0 k (t : Int) (n : Int) (i : Int) l0 l1 a2 R = some (chkRs t n (R.drop i) i) := by
  intro d
  induction d with
  | zero =>
    intro i k hi hle hk
    obtain ⟨k, rfl⟩ : ∃ j, k = j + 1 := ⟨k - 1, by omega⟩
    have : i = R.length := by omega
    subst this
    rw [dovetailref03_Check.l0, if_neg (by omega), List.drop_length]
    rfl
  | succ d ih =>
    intro i k hi hle hk
    obtain ⟨k, rfl⟩ : ∃ j, k = j + 2 := ⟨k - 2, by omega⟩
    have hlt : i < R.length := by omega
    rw [dovetailref03_Check.l0, if_pos (by omega), if_pos (by omega), rdR_D, getD_lt R i _ hlt, chkRs_drop t n R i hlt]
    generalize R[i] = x
    obtain ⟨x0, xs⟩ := x
    dsimp only
    by_cases c0 : 32 < xs.length
    · have e : checkR t n ⟨x0, xs⟩ = 3 := by simp [checkR, c0]
      rw [if_pos (by omega), e, if_neg (by decide)]
    rw [if_neg (by omega)]
    by_cases c1 : x0 < 0
    · have e : checkR t n ⟨x0, xs⟩ = 1 := by simp [checkR, c0, c1]
      rw [if_pos c1, dovetailref03_Check.j4, if_pos rfl, e, if_neg (by decide)]
    rw [if_neg c1, dovetailref03_Check.j4]
    by_cases c2 : (n : Int) ≤ x0
    · have e : checkR t n ⟨x0, xs⟩ = 1 := by simp [checkR, c0, c2]
      rw [if_pos (decide_eq_true (by omega)), e, if_neg (by decide)]
    have hin : dovetailref03_Check.l1 k (t : Int) (n : Int) (i : Int) 0 l0 l1 a2 R x0 xs = _ := refCheck_in t n hn l0 l1 a2 R i (by omega) x0 xs (by omega) _ _ (fun k hk => ih (i + 1) k (by omega) (by omega) hk) xs.length 0 k (by omega) (by omega) (by omega)
    rw [if_neg (by simp; omega), hin, List.drop_zero]
    cases c3 : xs.any (outS t n) with
    | true =>
      have e : checkR t n ⟨x0, xs⟩ = 1 := by simp [checkR, c0, c3]
      rw [if_pos rfl, e, if_neg (by decide)]
    | false =>
      have e : checkR t n ⟨x0, xs⟩ = 0 := by simp [checkR, c0, c1, c2, c3]
      rw [if_neg (by decide), e, if_pos rfl]
/-- The document's Check. -/
theorem refCheck_f (l0 l1 : List ByteArray) (a2 : Int) (R : List S35) (m0 : l0.length ≤ 9223372036854775807) (m1 : l1.length ≤ 9223372036854775807) (k : Nat) (hk : 20000 ≤ k) :
    dovetailref03_Check.f k l0 l1 a2 R = some (chk (namesOK l0) (namesOK l1) l0.length l1.length a2 R) := by
  obtain ⟨k, rfl⟩ : ∃ j, k = j + 4 := ⟨k - 4, by omega⟩
  have hno : ∀ x, dovetailref03_Check.j0 (k + 4) (l0.length : Int) (l1.length : Int) true x l1 a2 R = some (3, -1) := fun x => by rw [dovetailref03_Check.j0, if_pos rfl]
  unfold dovetailref03_Check.f chk
  by_cases c0 : 60 < l0.length
  · rw [if_pos (by omega), hno, if_pos (by omega)]
  rw [if_neg (by omega)]
  by_cases c1 : 60 < l1.length
  · rw [if_pos (by omega), hno, if_pos (by omega)]
  rw [if_neg (by omega)]
  have hw : wrap64 ((l0.length : Int) + (l1.length : Int)) = (l0.length : Int) + (l1.length : Int) := by unfold wrap64; omega
  rw [hw]
  by_cases c2 : 60 < l0.length + l1.length
  · rw [if_pos (by omega), hno, if_pos (by omega)]
  rw [if_neg (by omega), dovetailref03_Check.j0]
  by_cases c3 : 120 < R.length
  · rw [if_pos (decide_eq_true (by omega)), if_pos (by omega)]
  rw [if_neg (by simp; omega), if_neg (by omega)]
  have hb : ∀ n : Nat, n ≤ 60 → n * (n + 3) + 1 ≤ 4000 := fun n hn => by
    have := Nat.mul_le_mul hn (show n + 3 ≤ 63 by omega)
    omega
  have hb0 := hb l0.length (by omega)
  have hb1 := hb l1.length (by omega)
  rw [refNamed_f l0 (k + 3) m0 (by omega), Option.bind_some]
  cases h0 : namesOK l0 with
  | false => rw [if_neg (by decide), dovetailref03_Check.j1, if_pos rfl]; rfl
  | true =>
    rw [if_pos rfl, refNamed_f l1 (k + 3) m1 (by omega), Option.bind_some, dovetailref03_Check.j1]
    cases h1 : namesOK l1 with
    | false => rw [if_pos (by rfl)]; rfl
    | true =>
      rw [if_neg (show ¬ (!true) = true by decide), if_neg (show ¬ (true && true) = false by decide)]
      have hl : dovetailref03_Check.l0 (k + 1) (l0.length : Int) (l1.length : Int) 0 l0 l1 a2 R = _ := refCheck_l l0.length l1.length (by omega) l0 l1 a2 R (by omega) R.length 0 (k + 1) (by omega) (by omega) (by omega)
      rw [List.drop_zero] at hl
      by_cases c4 : l1.length = 0
      · rw [if_pos (by omega), dovetailref03_Check.j2, if_pos rfl, if_pos (by omega)]
      rw [if_neg (by omega)]
      by_cases c5 : a2 < 0
      · rw [if_pos c5, dovetailref03_Check.j2, if_pos rfl, if_pos (.inl c5)]
      rw [if_neg c5, dovetailref03_Check.j2]
      by_cases c6 : (l1.length : Int) ≤ a2
      · rw [if_pos (decide_eq_true (by omega)), if_pos (.inr c6)]
      rw [if_neg (by simp; omega), if_neg (by omega)]
      exact hl
end Go.Proofs.YteaiejippkikpaaDoor.B
/- gram.Check in the print's form, at grammars that may be. -/
set_option linter.unusedVariables false
namespace Go.Proofs.YteaiejippkikpaaDoor.B
open Go.RowKit Go.Proofs.YteaiejippkikpaaDoorW.PrintWords Go.Proofs.YteaiejippkikpaaDoorW.PrintLast Go.Proofs.YteaiejippkikpaaDoorW.PrintMore

def gram_Check.f (k : Nat) (l0_0 : List ByteArray) (l0_1 : List ByteArray) (a0_2 : Int) (l0_3 : List S35) : Option (Option Int) :=
  if l0_0.length + l0_1.length ≤ 60 ∧ l0_3.length ≤ 120 ∧ 0 ≤ a0_2 ∧ a0_2 < (l0_1.length : Int) ∧ l0_3.all (okR l0_0.length l0_1.length) = true then
    (gram_names.f k l0_0).bind fun b0 => (gram_names.f k l0_1).bind fun b1 => if (b0 && b1) = true then some none else none
  else none
theorem gram_Check.mono : ∀ a0 a1 a2 a3 k, LeO (gram_Check.f k a0 a1 a2 a3) (gram_Check.f (k + 1) a0 a1 a2 a3) := by
  intro a0 a1 a2 a3 k
  unfold gram_Check.f
  refine LeO.ite ?_ (LeO.refl _)
  refine LeO.bind (gram_names.mono _ _) (fun _ => ?_)
  refine LeO.bind (gram_names.mono _ _) (fun _ => ?_)
  exact LeO.refl _
theorem gram_Check.ok {k : Nat} {l0_0 : List ByteArray} {l0_1 : List ByteArray} {a0_2 : Int} {l0_3 : List S35} {r : Option Int} (h : gram_Check.f k l0_0 l0_1 a0_2 l0_3 = some r) : r = none ∧ okG k l0_0 l0_1 a0_2 l0_3 := by
  unfold gram_Check.f at h
  split at h
  · rename_i hc
    obtain ⟨b0, h0, h2⟩ := Option.bind_eq_some_iff.1 h
    obtain ⟨b1, h1, h3⟩ := Option.bind_eq_some_iff.1 h2
    cases b0 <;> cases b1 <;> simp at h3
    exact ⟨h3.symm, hc.1, hc.2.1, h0, h1, hc.2.2.1, hc.2.2.2.1, List.all_eq_true.1 hc.2.2.2.2⟩
  · cases h
theorem gram_Check.calls (k : Nat) (A0_0 : Option Addr) (c0_0 : Nat) (l0_0 : List ByteArray) (A0_1 : Option Addr) (c0_1 : Nat) (l0_1 : List ByteArray) (a0_2 : Int) (A0_3 : Option Addr) (c0_3 : Nat) (l0_3 : List S35) (r : Option Int) (w : World) (hr0_0 : Kd.C Kd.string w A0_0 l0_0.length l0_0) (hc0_0 : l0_0.length ≤ c0_0) (hr0_1 : Kd.C Kd.string w A0_1 l0_1.length l0_1) (hc0_1 : l0_1.length ≤ c0_1) (hr0_3 : Kd.C k35 w A0_3 l0_3.length l0_3) (hc0_3 : l0_3.length ≤ c0_3) (h : gram_Check.f k l0_0 l0_1 a0_2 l0_3 = some r) :
    Calls Tryd.prog 28 #[.agg #[.slice A0_0 l0_0.length c0_0, .slice A0_1 l0_1.length c0_1, .int .i64 a0_2, .slice A0_3 l0_3.length c0_3]] w fun e w' => e = .returned (errW r) ∧ Below w.heap.size w w' := by
  obtain ⟨rfl, ho⟩ := gram_Check.ok h
  exact Check_ok k A0_0 c0_0 l0_0 A0_1 c0_1 l0_1 a0_2 A0_3 c0_3 l0_3 w hr0_0 hc0_0 hr0_1 hc0_1 hr0_3 hc0_3 ho
end Go.Proofs.YteaiejippkikpaaDoor.B
namespace Go.Proofs.YteaiejippkikpaaDoor.B
open Go.RowKit Go.Proofs.YteaiejippkikpaaDoorW.PrintWords Go.Proofs.YteaiejippkikpaaDoorW.PrintLast Go.Proofs.YteaiejippkikpaaDoorW.PrintMore
attribute [local go_sem] max2_int min2_int max_two min_two max_three min_three max_four min_four   -- for this text's walks alone
set_option linter.unusedVariables false
set_option linter.unusedSimpArgs false

/-! ### gram_Above: function 23 -/
mutual
def gram_Above.l0 : Nat → List Int → Int → Int → List ByteArray → List ByteArray → Int → List (S35) → Option (List Int)
  | 0, _, _, _, _, _, _, _ => none
  | k + 1, x3, x18, x19, x104000, x104001, x104002, x104003 => if x19 < x18 then (if 0 ≤ x19 then (if x19 < (x3.length : Int) then (gram_Above.l0 k (x3.set (x19 : Int).toNat (shl .u64 1 x19)) x18 (wrap64 (x19 + 1)) x104000 x104001 x104002 x104003) else (none)) else (none)) else (gram_Above.l1 k x3 true x104000 x104001 x104002 x104003)
def gram_Above.l1 : Nat → List Int → Bool → List ByteArray → List ByteArray → Int → List (S35) → Option (List Int)
  | 0, _, _, _, _, _, _ => none
  | k + 1, x3, x5, x104000, x104001, x104002, x104003 => if x5 = true then (gram_Above.l2 k x3 false x104003 (x104003.length : Int) 0 x104000 x104001 x104002 x104003) else (some x3)
def gram_Above.l2 : Nat → List Int → Bool → List (S35) → Int → Int → List ByteArray → List ByteArray → Int → List (S35) → Option (List Int)
  | 0, _, _, _, _, _, _, _, _, _ => none
  | k + 1, x3, x5, x30, x31, x32, x104000, x104001, x104002, x104003 => if x32 < x31 then (if 0 ≤ x32 then (if x32 < (x30.length : Int) then ((gram_Renaming.f ((rd_T35 x30 x32).f0) ((rd_T35 x30 x32).f1)).bind fun bt112 => (if bt112.2 = true then (if 0 ≤ ((rd_T35 x30 x32).f0) then (if ((rd_T35 x30 x32).f0) < (x3.length : Int) then (if 0 ≤ bt112.1 then (if bt112.1 < (x3.length : Int) then (if (Go.bits .andNot .u64 (rd x3 ((rd_T35 x30 x32).f0)) (rd x3 bt112.1)) = 0 then (gram_Above.l2 k x3 x5 x30 x31 (wrap64 (x32 + 1)) x104000 x104001 x104002 x104003) else (gram_Above.l2 k (x3.set (bt112.1 : Int).toNat (Go.bits .or .u64 (rd x3 bt112.1) (rd x3 ((rd_T35 x30 x32).f0)))) true x30 x31 (wrap64 (x32 + 1)) x104000 x104001 x104002 x104003)) else (none)) else (none)) else (none)) else (none)) else (gram_Above.l2 k x3 x5 x30 x31 (wrap64 (x32 + 1)) x104000 x104001 x104002 x104003))) else (none)) else (none)) else (gram_Above.l1 k x3 x5 x104000 x104001 x104002 x104003)
end
def gram_Above.f (k : Nat) (l0_0 : List ByteArray) (l0_1 : List ByteArray) (a0_2 : Int) (l0_3 : List (S35)) : Option (List Int) := (gram_Check.f k l0_0 l0_1 a0_2 l0_3).bind fun t104 => (if t104.isNone = true then (if 0 ≤ (l0_1.length : Int) then (if ((l0_1.length : Int) : Int).toNat ≤ 35184372088832 then ((some (List.replicate ((l0_1.length : Int) : Int).toNat 0 : List Int)).bind fun y106 => (gram_Above.l0 k y106 (y106.length : Int) 0 l0_0 l0_1 a0_2 l0_3)) else (none)) else (none)) else (some ([] : List Int)))
theorem gram_Above.mono_l : ∀ k, (∀ y0 y1 y2 y3 y4 y5 y6, LeO (gram_Above.l0 k y0 y1 y2 y3 y4 y5 y6) (gram_Above.l0 (k + 1) y0 y1 y2 y3 y4 y5 y6)) ∧ (∀ y0 y1 y2 y3 y4 y5, LeO (gram_Above.l1 k y0 y1 y2 y3 y4 y5) (gram_Above.l1 (k + 1) y0 y1 y2 y3 y4 y5)) ∧ (∀ y0 y1 y2 y3 y4 y5 y6 y7 y8, LeO (gram_Above.l2 k y0 y1 y2 y3 y4 y5 y6 y7 y8) (gram_Above.l2 (k + 1) y0 y1 y2 y3 y4 y5 y6 y7 y8))
  | 0 => ⟨fun _ _ _ _ _ _ _ r h => by simp [gram_Above.l0] at h, fun _ _ _ _ _ _ r h => by simp [gram_Above.l1] at h, fun _ _ _ _ _ _ _ _ _ r h => by simp [gram_Above.l2] at h⟩
  | k + 1 => by
    obtain ⟨ih0, ih1, ih2⟩ := gram_Above.mono_l k
    refine ⟨?_, ?_, ?_⟩
    · intro y0 y1 y2 y3 y4 y5 y6
      unfold gram_Above.l0
      repeat' first
      | (with_reducible exact ih0 _ _ _ _ _ _ _)
      | (with_reducible exact ih1 _ _ _ _ _ _)
      | (with_reducible exact ih2 _ _ _ _ _ _ _ _ _)
      | (with_reducible exact gram_Check.mono _ _ _ _ _)
      | (with_reducible exact LeO.refl _)
      | (with_reducible exact LeO.none _)
      | (with_reducible refine LeO.ite ?_ ?_)
      | (with_reducible refine LeO.bind ?_ (fun _ => ?_))
      | exact ih0 _ _ _ _ _ _ _
      | exact ih1 _ _ _ _ _ _
      | exact ih2 _ _ _ _ _ _ _ _ _
      | exact gram_Check.mono _ _ _ _ _
      | exact LeO.none _
      | refine LeO.ite ?_ ?_
      | refine LeO.bind ?_ (fun _ => ?_)
    · intro y0 y1 y2 y3 y4 y5
      unfold gram_Above.l1
      repeat' first
      | (with_reducible exact ih0 _ _ _ _ _ _ _)
      | (with_reducible exact ih1 _ _ _ _ _ _)
      | (with_reducible exact ih2 _ _ _ _ _ _ _ _ _)
      | (with_reducible exact gram_Check.mono _ _ _ _ _)
      | (with_reducible exact LeO.refl _)
      | (with_reducible exact LeO.none _)
      | (with_reducible refine LeO.ite ?_ ?_)
      | (with_reducible refine LeO.bind ?_ (fun _ => ?_))
      | exact ih0 _ _ _ _ _ _ _
      | exact ih1 _ _ _ _ _ _
      | exact ih2 _ _ _ _ _ _ _ _ _
      | exact gram_Check.mono _ _ _ _ _
      | exact LeO.none _
      | refine LeO.ite ?_ ?_
      | refine LeO.bind ?_ (fun _ => ?_)
    · intro y0 y1 y2 y3 y4 y5 y6 y7 y8
      unfold gram_Above.l2
      repeat' first
      | (with_reducible exact ih0 _ _ _ _ _ _ _)
      | (with_reducible exact ih1 _ _ _ _ _ _)
      | (with_reducible exact ih2 _ _ _ _ _ _ _ _ _)
      | (with_reducible exact gram_Check.mono _ _ _ _ _)
      | (with_reducible exact LeO.refl _)
      | (with_reducible exact LeO.none _)
      | (with_reducible refine LeO.ite ?_ ?_)
      | (with_reducible refine LeO.bind ?_ (fun _ => ?_))
      | exact ih0 _ _ _ _ _ _ _
      | exact ih1 _ _ _ _ _ _
      | exact ih2 _ _ _ _ _ _ _ _ _
      | exact gram_Check.mono _ _ _ _ _
      | exact LeO.none _
      | refine LeO.ite ?_ ?_
      | refine LeO.bind ?_ (fun _ => ?_)
theorem gram_Above.mono : ∀ a0 a1 a2 a3 k, LeO (gram_Above.f k a0 a1 a2 a3) (gram_Above.f (k + 1) a0 a1 a2 a3) := by
  intro a0 a1 a2 a3 k
  obtain ⟨ih0, ih1, ih2⟩ := gram_Above.mono_l k
  unfold gram_Above.f
  repeat' first
      | (with_reducible exact ih0 _ _ _ _ _ _ _)
      | (with_reducible exact ih1 _ _ _ _ _ _)
      | (with_reducible exact ih2 _ _ _ _ _ _ _ _ _)
      | (with_reducible exact gram_Check.mono _ _ _ _ _)
      | (with_reducible exact LeO.refl _)
      | (with_reducible exact LeO.none _)
      | (with_reducible refine LeO.ite ?_ ?_)
      | (with_reducible refine LeO.bind ?_ (fun _ => ?_))
      | exact ih0 _ _ _ _ _ _ _
      | exact ih1 _ _ _ _ _ _
      | exact ih2 _ _ _ _ _ _ _ _ _
      | exact gram_Check.mono _ _ _ _ _
      | exact LeO.none _
      | refine LeO.ite ?_ ?_
      | refine LeO.bind ?_ (fun _ => ?_)
def gram_Above.T16 : Bool × List (List Nat × List Nat) := (true, [([], []), ([0], [0]), ([1], [1]), ([1], [1]), ([3, 1], [1, 3]), ([2, 4, 1], [1, 2, 4]), ([5, 1], [1, 5]), ([1], [1]), ([1], [1]), ([7, 8, 1], [1, 7, 8]), ([9, 1], [1, 9]), ([6, 10, 1], [1, 6, 10]), ([11, 1], [1, 11]), ([1, 12], [1, 12])])
def gram_Above.B16 : List Nat := [0, 1, 3, 3, 11, 31, 63, 3, 3, 387, 899, 2047, 4095, 8191]
theorem gram_Above.tab16 : rtab .any (opsOf Tryd.f23 16) = gram_Above.T16 := by kernel_rfl
theorem gram_Above.bits16 : waitsOk gram_Above.T16.2 gram_Above.B16 = true := by kernel_rfl
def gram_Above.T17 : Bool × List (List Nat × List Nat) := (true, [([], []), ([], []), ([0, 1], [0, 1]), ([2], [2]), ([], []), ([], []), ([5], [5]), ([4, 6], [4, 6]), ([7], [7]), ([3, 8], [3, 8]), ([0, 1, 0, 1, 2, 3, 4, 5, 6, 7, 8, 9], [0, 1]), ([10, 9, 0, 1, 2, 3, 4, 5, 6, 7, 8, 9], [9, 10])])
def gram_Above.B17 : List Nat := [0, 0, 3, 7, 0, 0, 32, 112, 240, 511, 1023, 2047]
theorem gram_Above.tab17 : rtab .any (opsOf Tryd.f23 17) = gram_Above.T17 := by kernel_rfl
theorem gram_Above.bits17 : waitsOk gram_Above.T17.2 gram_Above.B17 = true := by kernel_rfl
set_option maxHeartbeats 8000000 in
set_option maxRecDepth 100000 in
theorem gram_Above.calls (k : Nat) (A0_0 : Option Addr) (c0_0 : Nat) (l0_0 : List ByteArray) (A0_1 : Option Addr) (c0_1 : Nat) (l0_1 : List ByteArray) (a0_2 : Int) (A0_3 : Option Addr) (c0_3 : Nat) (l0_3 : List (S35)) (r : List Int) (w : World) (hr0_0 : Kd.C Kd.string w A0_0 l0_0.length l0_0) (hc0_0 : l0_0.length ≤ c0_0) (hr0_1 : Kd.C Kd.string w A0_1 l0_1.length l0_1) (hc0_1 : l0_1.length ≤ c0_1) (hr0_3 : Kd.C k35 w A0_3 l0_3.length l0_3) (hc0_3 : l0_3.length ≤ c0_3) (h : gram_Above.f k l0_0 l0_1 a0_2 l0_3 = some r) :
    Calls Tryd.prog 23 #[.agg #[.slice A0_0 l0_0.length c0_0, .slice A0_1 l0_1.length c0_1, .int .i64 a0_2, .slice A0_3 l0_3.length c0_3]] w fun e w' => ∃ v0_ : Value, e = .returned (v0_) ∧ Kd.R (Kd.int .u64) 47 w' w.heap.size (fun _ => True) v0_ r ∧ Below w.heap.size w w' := by
  have hu25 := Tryd.underlying25
  have hu35 := Tryd.underlying35
  have hu44 := Tryd.underlying44
  have HR0_0 := Aside0.mk hr0_0
  have HC0_0 := Aside0.mk hc0_0
  clear hr0_0 hc0_0
  have HR0_1 := Aside0.mk hr0_1
  have HC0_1 := Aside0.mk hc0_1
  clear hr0_1 hc0_1
  have HR0_3 := Aside0.mk hr0_3
  have HC0_3 := Aside0.mk hc0_3
  clear hr0_3 hc0_3
  have HB := Aside0.mk (Below.refl w.heap.size w)
  have H : ((gram_Check.f k l0_0 l0_1 a0_2 l0_3).bind fun t104 => (if t104.isNone = true then (if 0 ≤ (l0_1.length : Int) then (if ((l0_1.length : Int) : Int).toNat ≤ 35184372088832 then ((some (List.replicate ((l0_1.length : Int) : Int).toNat 0 : List Int)).bind fun y106 => (gram_Above.l0 k y106 (y106.length : Int) 0 l0_0 l0_1 a0_2 l0_3)) else (none)) else (none)) else (some ([] : List Int)))) = some r := h
  clear h
  replace H := Option.bind_eq_some_iff.mp H
  obtain ⟨t104, A20, H⟩ := H
  replace H : (if t104.isNone = true then (if 0 ≤ (l0_1.length : Int) then (if ((l0_1.length : Int) : Int).toNat ≤ 35184372088832 then ((some (List.replicate ((l0_1.length : Int) : Int).toNat 0 : List Int)).bind fun y106 => (gram_Above.l0 k y106 (y106.length : Int) 0 l0_0 l0_1 a0_2 l0_3)) else (none)) else (none)) else (some ([] : List Int))) = some r := H
  have A2 := Aside0.mk A20
  clear A20
  rcases t104 with _ | q105
  · have H1 : (if 0 ≤ (l0_1.length : Int) then (if ((l0_1.length : Int) : Int).toNat ≤ 35184372088832 then ((some (List.replicate ((l0_1.length : Int) : Int).toNat 0 : List Int)).bind fun y106 => (gram_Above.l0 k y106 (y106.length : Int) 0 l0_0 l0_1 a0_2 l0_3)) else (none)) else (none)) = some r := by rw [if_pos (show (none : Option Int).isNone = true by rfl)] at H; exact H
    clear H
    have H := H1
    clear H1
    try simp only [errW_none, errW_some]
    by_cases c3 : 0 ≤ (l0_1.length : Int)
    · rw [if_pos c3] at H
      have c3b0 := eq_true c3
      have c3b1 : decide (0 ≤ (l0_1.length : Int)) = true := decide_eq_true c3
      clear c3
      by_cases c4 : ((l0_1.length : Int) : Int).toNat ≤ 35184372088832
      · rw [if_pos c4] at H
        have c4b0 := eq_true c4
        have c4b1 : decide (((l0_1.length : Int) : Int).toNat ≤ 35184372088832) = true := decide_eq_true c4
        clear c4
        obtain ⟨y106, hy106⟩ : ∃ y_ : List Int, y_ = (List.replicate ((l0_1.length : Int) : Int).toNat 0) := ⟨_, rfl⟩
        replace H : (gram_Above.l0 k y106 (y106.length : Int) 0 l0_0 l0_1 a0_2 l0_3) = some r := by first | (rw [hy106]; with_reducible exact H) | (have H2_ := (Option.bind_some _ _).symm.trans H; rw [hy106]; with_reducible exact H2_) | (have H2_ := (Option.bind_some _ _).symm.trans H; with_reducible exact H2_) | with_reducible exact H | (rw [hy106]; exact H) | exact H
        have Ny106 := Aside0.mk hy106
        clear hy106
        have H' := Aside0.mk H
        clear H
        go_enter Tryd.func23, Tryd.ntmps23
        go_wp2_with (first | ((with_reducible refine gate_dst (N := 1) rfl ?_); refine box_event ?hg (N := 1) ?hd (cs := #[.slice A0_0 l0_0.length c0_0, .slice A0_1 l0_1.length c0_1, .int .i64 a0_2, .slice A0_3 l0_3.length c0_3]) (t := 25) ?hr ?_; (case hd => rfl); (case hg => rfl); (case hr => first | (go_simp; done) | (go_simp; rfl)); intro gb103 hg w5 hbox hb; have n0_ := Aside0.mk (below_step (by repeat (first | (with_reducible first | exact HB.out | apply below_alloc | apply pw_below_drewN | apply below_drew1) | exact HB.out)) hb); have n1_ := Aside0.mk (hbox); have n2_ := Aside0.mk ((by rw [hg]; exact (below_size (by repeat (first | (with_reducible first | exact HB.out | apply below_alloc | apply pw_below_drewN | apply below_drew1) | exact HB.out))) : w.heap.size ≤ gb103)); have n3_ := Aside0.mk ((by rw [hg]; exact (below_size (by repeat (first | (with_reducible first | exact HB.out | apply below_alloc | apply pw_below_drewN | apply below_drew1) | exact HB.out))) : w.heap.size ≤ gb103)); clear HB; have HB := n0_; have BK103 := n1_; have GW103 := n2_; have GE103 := n3_; clear n0_ n1_ n2_ n3_; clear hb hbox hg; have hcz6_0 : w5.cell? ⟨gb103, 0, none⟩ = some (.slice A0_0 l0_0.length c0_0) := (blk_cell BK103.out 0).trans rfl; have hcz6_1 : w5.cell? ⟨gb103, 1, none⟩ = some (.slice A0_1 l0_1.length c0_1) := (blk_cell BK103.out 1).trans rfl; have hcz6_2 : w5.cell? ⟨gb103, 2, none⟩ = some (.int .i64 a0_2) := (blk_cell BK103.out 2).trans rfl; have hcz6_3 : w5.cell? ⟨gb103, 3, none⟩ = some (.slice A0_3 l0_3.length c0_3) := (blk_cell BK103.out 3).trans rfl; have hfz6_0 := blk_frozen BK103.out 0; have hfz6_1 := blk_frozen BK103.out 1; have hfz6_2 := blk_frozen BK103.out 2; have hfz6_3 := blk_frozen BK103.out 3) | ((with_reducible refine gate_callee (f := 28) rfl ?_); refine goesL_ (some 11) rfl rfl Tryd.func28 (by kernel_rfl) rfl #[.agg #[.slice A0_0 l0_0.length c0_0, .slice A0_1 l0_1.length c0_1, .int .i64 a0_2, .slice A0_3 l0_3.length c0_3]] rfl (by (try simp only [List.map_toArray, List.map_cons, List.map_nil]); first | done | rfl | (simp only [List.length_drop, List.length_take]; rfl)) ?_; (with_reducible refine (gram_Check.calls k _ _ l0_0 _ _ l0_1 a0_2 _ _ l0_3 none _ ?side1 ?side2 ?side3 ?side4 ?side5 ?side6 A2.out).mono ?_); (case side1 => repeat (first | exact (Kd.C_below HR0_0.out HB.out) | (with_reducible refine Kd.C_alloc ?_ _) | (with_reducible refine Kd.C_drewN ?_ _) | (with_reducible refine Kd.C_drew ?_))); (case side2 => exact HC0_0.out); (case side3 => repeat (first | exact (Kd.C_below HR0_1.out HB.out) | (with_reducible refine Kd.C_alloc ?_ _) | (with_reducible refine Kd.C_drewN ?_ _) | (with_reducible refine Kd.C_drew ?_))); (case side4 => exact HC0_1.out); (case side5 => repeat (first | exact (Kd.C_below HR0_3.out HB.out) | (with_reducible refine Kd.C_alloc ?_ _) | (with_reducible refine Kd.C_drewN ?_ _) | (with_reducible refine Kd.C_drew ?_))); (case side6 => exact HC0_3.out); rintro e w7 ⟨rfl, hb⟩; refine ⟨_, rfl, ?_⟩; have n0_ := Aside0.mk (blk_below (g := gb103) (o := .cells #[.slice A0_0 l0_0.length c0_0, .slice A0_1 l0_1.length c0_1, .int .i64 a0_2, .slice A0_3 l0_3.length c0_3] 25 (0, 0)) (by (with_reducible repeat (first | refine blk_drewN ?_ _ | refine blk_drew ?_ | refine blk_alloc ?_ _)); exact BK103.out) hb); have n1_ := Aside0.mk (below_step (by repeat (first | (with_reducible first | exact HB.out | apply below_alloc | apply pw_below_drewN | apply below_drew1 | refine below_set ?_ GE103.out) | exact HB.out)) hb); clear BK103; clear HB; have BK103 := n0_; have HB := n1_; clear n0_ n1_; (try clear hb); (try clear hb2); (try clear hk); (try clear hi); (try simp only [errW_none, errW_some]); have hcz8_0 : w7.cell? ⟨gb103, 0, none⟩ = some (.slice A0_0 l0_0.length c0_0) := (blk_cell BK103.out 0).trans rfl; have hcz8_1 : w7.cell? ⟨gb103, 1, none⟩ = some (.slice A0_1 l0_1.length c0_1) := (blk_cell BK103.out 1).trans rfl; have hcz8_2 : w7.cell? ⟨gb103, 2, none⟩ = some (.int .i64 a0_2) := (blk_cell BK103.out 2).trans rfl; have hcz8_3 : w7.cell? ⟨gb103, 3, none⟩ = some (.slice A0_3 l0_3.length c0_3) := (blk_cell BK103.out 3).trans rfl; have hfz8_0 := blk_frozen BK103.out 0; have hfz8_1 := blk_frozen BK103.out 1; have hfz8_2 := blk_frozen BK103.out 2; have hfz8_3 := blk_frozen BK103.out 3) | ((with_reducible refine gate_dst (N := 16) rfl ?_); refine Kd.R_make (Kd.int .u64) _ 47 rfl (N := 16) rfl 36 _ _ rfl (l0_1.length : Int) rfl rfl Tryd.underlying36 (.int .u64 0) 8 info47 rfl (by decide) (by omega) 0 (ok := fun _ => True) (okp := fun _ => True) rfl (fun _ hk => hk) trivial (of_decide_eq_true (by first | (with_reducible assumption) | assumption)) (Nat.le_trans (Nat.mul_le_mul_right _ (of_decide_eq_true (by first | (with_reducible assumption) | assumption) : (l0_1.length : Int).toNat ≤ 35184372088832)) (by omega)) (Below.refl _ _) (Nat.le_refl _) ?_; intro v107 w9 ho10 hb hg_ hnew_; clear hg_ hnew_; (first | rw [← Ny106.out] at ho10 | (simp only [Int.reduceToNat] at ho10; rw [← Ny106.out] at ho10)); have n0_ := Aside0.mk (Kd.R_lower ho10 (below_size (by repeat (first | (with_reducible first | exact HB.out | apply below_alloc | apply pw_below_drewN | apply below_drew1 | refine below_set ?_ GE103.out) | exact HB.out)))); have n1_ := Aside0.mk (blk_below (g := gb103) (o := .cells #[.slice A0_0 l0_0.length c0_0, .slice A0_1 l0_1.length c0_1, .int .i64 a0_2, .slice A0_3 l0_3.length c0_3] 25 (0, 0)) (by (with_reducible repeat (first | refine blk_drewN ?_ _ | refine blk_drew ?_ | refine blk_alloc ?_ _)); exact BK103.out) hb); have n2_ := Aside0.mk (below_step (by repeat (first | (with_reducible first | exact HB.out | apply below_alloc | apply pw_below_drewN | apply below_drew1 | refine below_set ?_ GE103.out) | exact HB.out)) hb); clear BK103; clear HB; have HO108 := n0_; have BK103 := n1_; have HB := n2_; clear n0_ n1_ n2_; clear hb ho10; obtain ⟨Ao11, co11, eo11⟩ := Kd.R_slice HO108.out; subst eo11))
        go_loopg [19] k (fun kq v19 w' => ∃ (x3_1 : List Int) (x19_1 : Int), v19 = .int .i64 x19_1 ∧ Aside0 (gram_Above.l0 kq x3_1 (y106.length : Int) x19_1 l0_0 l0_1 a0_2 l0_3 = some r) ∧ Aside0 (kq ≤ k) ∧ Aside0 (Kd.R (Kd.int .u64) 47 w' w.heap.size (fun _ => True) (.slice Ao11 y106.length co11) x3_1) ∧ Aside0 (w'.heap[gb103]? = some (.cells #[(.slice A0_0 l0_0.length c0_0), (.slice A0_1 l0_1.length c0_1), .int .i64 a0_2, (.slice A0_3 l0_3.length c0_3)] 25 (0, 0))) ∧ Aside0 (Below w.heap.size w w'))
        case atStart => exact ⟨(y106), (0), (by first | rfl | (simp; done) | (simp [*]; done)), H', ⟨Nat.le_refl _⟩, ⟨by (with_reducible repeat (first | apply Kd.R_alloc | apply Kd.R_drewN | apply Kd.R_drew)); exact HO108.out⟩, ⟨by (with_reducible repeat (first | refine blk_drewN ?_ _ | refine blk_drew ?_ | refine blk_alloc ?_ _)); exact BK103.out⟩, ⟨by repeat (first | (with_reducible first | exact HB.out | apply below_alloc | apply pw_below_drewN | apply below_drew1 | refine below_set ?_ GE103.out) | exact HB.out)⟩⟩
        case round =>
          clear H'
          try clear q1
          try clear c2
          try clear p2
          try clear c3
          try clear c3b0
          try clear c3b1
          try clear c4
          try clear c4b0
          try clear c4b1
          try clear q10
          try clear hcz6_0
          try clear hcz6_1
          try clear hcz6_2
          try clear hcz6_3
          try clear hcz8_0
          try clear hcz8_1
          try clear hcz8_2
          try clear hcz8_3
          try clear hfz6_0
          try clear hfz6_1
          try clear hfz6_2
          try clear hfz6_3
          try clear hfz8_0
          try clear hfz8_1
          try clear hfz8_2
          try clear hfz8_3
          try clear q105
          obtain ⟨x3_1, x19_1, rfl, HA, HK1, HO_3, BK103, HB⟩ := hrel
          have hl3_1 := (Kd.R_reads' HO_3.out).1
          rw [hl3_1] at HO_3
          (try simp only [hl3_1])
          (try simp only [hl3_1] at BK103)
          cases gk with
          | zero => exact absurd HA.out (by simp [gram_Above.l0])
          | succ k1 =>
            have H := HA.out
            clear HA
            simp only [gram_Above.l0] at H
            by_cases c12 : x19_1 < (y106.length : Int)
            · rw [if_pos c12] at H
              have c12b0 : decide (x19_1 < (y106.length : Int)) = true := decide_eq_true c12
              clear c12
              by_cases c13 : 0 ≤ x19_1
              · rw [if_pos c13] at H
                have c13b0 := eq_true c13
                have c13b1 : decide (0 ≤ x19_1) = true := decide_eq_true c13
                clear c13
                obtain ⟨ji14, hji14⟩ : ∃ j_ : Int, (shl .u64 1 x19_1) = j_ := ⟨_, rfl⟩
                replace H : (if x19_1 < (x3_1.length : Int) then (gram_Above.l0 k1 (x3_1.set (x19_1 : Int).toNat (ji14)) (y106.length : Int) (wrap64 (x19_1 + 1)) l0_0 l0_1 a0_2 l0_3) else (none)) = some r := by first | (rw [hji14] at H; exact H) | (simp only [hji14] at H ⊢; exact H)
                have hji14_ : (IntKind.u64.wrap (1 * 2 ^ min x19_1.toNat 64)) = ji14 := hji14
                have hji14z : x19_1 ≤ 64 → (IntKind.u64.wrap (1 * 2 ^ x19_1.toNat)) = ji14 := shl_small hji14
                have hji14u : (IntKind.u64.wrap (2 ^ min x19_1.toNat 64)) = ji14 := by have h_ := hji14_; rw [Int.one_mul] at h_; exact h_
                have hji14v : x19_1 ≤ 64 → (IntKind.u64.wrap (2 ^ x19_1.toNat)) = ji14 := fun hle_ => by have h_ := hji14z hle_; rw [Int.one_mul] at h_; exact h_
                by_cases c15 : x19_1 < (x3_1.length : Int)
                · rw [if_pos c15] at H
                  have c15b0 : decide (x19_1 < (x3_1.length : Int)) = true := decide_eq_true c15
                  clear c15
                  obtain ⟨y109, hy109⟩ : ∃ y_ : List Int, y_ = (x3_1.set (x19_1 : Int).toNat (ji14)) := ⟨_, rfl⟩
                  replace H : (gram_Above.l0 k1 y109 (y106.length : Int) (wrap64 (x19_1 + 1)) l0_0 l0_1 a0_2 l0_3) = some r := by first | (rw [hy109]; with_reducible exact H) | (have H2_ := (Option.bind_some _ _).symm.trans H; rw [hy109]; with_reducible exact H2_) | (have H2_ := (Option.bind_some _ _).symm.trans H; with_reducible exact H2_) | with_reducible exact H | (rw [hy109]; exact H) | exact H
                  have Ny109 := Aside0.mk hy109
                  clear hy109
                  have H' := Aside0.mk H
                  clear H
                  have p16 : 0 ≤ (x19_1 : Int) := of_decide_eq_true (by first | (with_reducible assumption) | assumption)
                  have q16 : (x19_1 : Int) < ((x3_1.length : Int) : Int) := of_decide_eq_true (by first | (with_reducible assumption) | assumption)
                  obtain ⟨go16, co16, eo16, gb16, gl16, cl16, HG16⟩ := Kd.R_form HO_3.out (by omega)
                  (first | cases eo16 | (injection eo16 with ea_ en_ ec_; (first | subst ea_ | (injection ea_ with ea_; subst ea_)); subst ec_; clear en_))
                  have GB16 := Aside0.mk gb16
                  have GG16 := Aside0.mk HG16
                  clear gb16 gl16 HG16
                  obtain ⟨hx16_0, hf16_0⟩ := Kd.R_celln 0 HO_3.out (x19_1 : Int) p16 q16
                  replace p16 := eq_true p16
                  replace q16 := eq_true q16
                  have HP17 := Kd.R_putg HO_3.out (x19_1 : Int) ji14
                  go_wp2_with (first | ((with_reducible refine gate_store (t := 47) (p := 26) rfl ?_); refine store_event (t := 47) (p := 26) (v := ?vo_w18) (w1 := (wr.setCell ⟨go16, (x19_1 : Int).toNat, none⟩ (.int .u64 ji14))) ?hg ?ho ?hn ?hr ?_; (case ho => rfl); (case hg => rfl); (case hn => rfl); (case hr => first | (go_simp; done) | (go_simp; rfl)); intro w18 hw; have hg : wr.grownBy w18 (some go16) := (by rw [hw]; exact HP17.2); have hp_ : Kd.R (Kd.int .u64) 47 w18 w.heap.size (fun _ => True) (.slice (some ⟨go16, 0, none⟩) x3_1.length co11) y109 := (by rw [hw, Ny109.out]; exact HP17.1); clear HP17; have n0_ := Aside0.mk (hp_); have n1_ := Aside0.mk (blk_grown (g := gb103) (o := .cells #[.slice A0_0 l0_0.length c0_0, .slice A0_1 l0_1.length c0_1, .int .i64 a0_2, .slice A0_3 l0_3.length c0_3] 25 (0, 0)) (by (with_reducible repeat (first | refine blk_drewN ?_ _ | refine blk_drew ?_ | refine blk_alloc ?_ _)); exact BK103.out) hg (Kd.R_ne HO_3.out BK103.out (by decide))); have n2_ := Aside0.mk ((by rw [hw]; exact below_set (HB.out) GB16.out : Below w.heap.size w w18)); clear HO_3; clear BK103; clear HB; have HO_3 := n0_; have BK103 := n1_; have HB := n2_; clear n0_ n1_ n2_; clear hg hw hp_))
                  (try simp only [← hl3_1])
                  go_roundg k1
                  case measure => have := HK1.out; omega
                  case rel => exact ⟨(y109), (wrap64 (x19_1 + 1)), (by first | rfl | (simp; done) | (simp [*]; done)), H', ⟨by have := HK1.out; omega⟩, ⟨by (try simp only [hl3_1]); (with_reducible repeat (first | apply Kd.R_alloc | apply Kd.R_drewN | apply Kd.R_drew)); exact HO_3.out⟩, ⟨by (try simp only [hl3_1]); (with_reducible repeat (first | refine blk_drewN ?_ _ | refine blk_drew ?_ | refine blk_alloc ?_ _)); exact BK103.out⟩, ⟨by repeat (first | (with_reducible first | exact HB.out | apply below_alloc | apply pw_below_drewN | apply below_drew1 | refine below_set ?_ GE103.out) | exact HB.out)⟩⟩
                · rw [if_neg c15] at H
                  exact absurd H (by simp)
              · rw [if_neg c13] at H
                exact absurd H (by simp)
            · rw [if_neg c12] at H
              have c12b0 : decide (x19_1 < (y106.length : Int)) = false := decide_eq_false c12
              clear c12
              have H' := Aside0.mk H
              clear H
              (try simp only [hl3_1] at c12b0)
              go_wp2
              go_loopg [5] k1 (fun kq v5 w' => ∃ (x3_2 : List Int) (x5_2 : Bool), v5 = .bool x5_2 ∧ Aside0 (gram_Above.l1 kq x3_2 x5_2 l0_0 l0_1 a0_2 l0_3 = some r) ∧ Aside0 (kq ≤ k1) ∧ Aside0 (Kd.R (Kd.int .u64) 47 w' w.heap.size (fun _ => True) (.slice Ao11 x3_1.length co11) x3_2) ∧ Aside0 (w'.heap[gb103]? = some (.cells #[(.slice A0_0 l0_0.length c0_0), (.slice A0_1 l0_1.length c0_1), .int .i64 a0_2, (.slice A0_3 l0_3.length c0_3)] 25 (0, 0))) ∧ Aside0 (Below w.heap.size w w'))
              case atStart => exact ⟨(x3_1), (true), (by first | rfl | (simp; done) | (simp [*]; done)), H', ⟨Nat.le_refl _⟩, ⟨by (try simp only [hl3_1]); (with_reducible repeat (first | apply Kd.R_alloc | apply Kd.R_drewN | apply Kd.R_drew)); exact HO_3.out⟩, ⟨by (try simp only [hl3_1]); (with_reducible repeat (first | refine blk_drewN ?_ _ | refine blk_drew ?_ | refine blk_alloc ?_ _)); exact BK103.out⟩, ⟨by repeat (first | (with_reducible first | exact HB.out | apply below_alloc | apply pw_below_drewN | apply below_drew1 | refine below_set ?_ GE103.out) | exact HB.out)⟩⟩
              case round =>
                clear H'
                try clear c1
                try clear p1
                try clear q1
                try clear hx1
                try clear hf1
                try clear c2
                try clear p2
                try clear c3
                try clear c3b0
                try clear c3b1
                try clear c4
                try clear c4b0
                try clear c4b1
                try clear p6
                try clear q10
                try clear c12
                try clear c12b0
                try clear c13
                try clear c13b0
                try clear c13b1
                try clear c15
                try clear c15b0
                try clear p16
                try clear q16
                try clear hx16
                try clear hf16
                try clear hcz6_0
                try clear hcz6_1
                try clear hcz6_2
                try clear hcz6_3
                try clear hcz8_0
                try clear hcz8_1
                try clear hcz8_2
                try clear hcz8_3
                try clear hfz6_0
                try clear hfz6_1
                try clear hfz6_2
                try clear hfz6_3
                try clear hfz8_0
                try clear hfz8_1
                try clear hfz8_2
                try clear hfz8_3
                try clear hx16_0
                try clear p16
                try clear p2
                try clear q1
                try clear q10
                try clear q105
                try clear q16
                obtain ⟨x3_2, x5_2, rfl, HA, HK2, HO_3, BK103, HB⟩ := hrel
                have hl3_2 := (Kd.R_reads' HO_3.out).1
                rw [hl3_2] at HO_3
                (try simp only [hl3_2])
                (try simp only [hl3_2] at BK103)
                cases gk with
                | zero => exact absurd HA.out (by simp [gram_Above.l1])
                | succ k2 =>
                  have H := HA.out
                  clear HA
                  simp only [gram_Above.l1] at H
                  by_cases c19 : x5_2 = true
                  · subst c19
                    have H1 : (gram_Above.l2 k2 x3_2 false l0_3 (l0_3.length : Int) 0 l0_0 l0_1 a0_2 l0_3) = some r := by rw [if_pos rfl] at H; exact H
                    clear H
                    have H := H1
                    clear H1
                    have H' := Aside0.mk H
                    clear H
                    have hcz20_0 : wr.cell? ⟨gb103, 0, none⟩ = some (.slice A0_0 l0_0.length c0_0) := (blk_cell BK103.out 0).trans rfl
                    have hcz20_1 : wr.cell? ⟨gb103, 1, none⟩ = some (.slice A0_1 l0_1.length c0_1) := (blk_cell BK103.out 1).trans rfl
                    have hcz20_2 : wr.cell? ⟨gb103, 2, none⟩ = some (.int .i64 a0_2) := (blk_cell BK103.out 2).trans rfl
                    have hcz20_3 : wr.cell? ⟨gb103, 3, none⟩ = some (.slice A0_3 l0_3.length c0_3) := (blk_cell BK103.out 3).trans rfl
                    have hfz20_0 := blk_frozen BK103.out 0
                    have hfz20_1 := blk_frozen BK103.out 1
                    have hfz20_2 := blk_frozen BK103.out 2
                    have hfz20_3 := blk_frozen BK103.out 3
                    go_wp2
                    go_loopg [5, 32] k2 (fun kq v5 v32 w' => ∃ (x3_3 : List Int) (x5_3 : Bool) (x32_3 : Int), v5 = .bool x5_3 ∧ v32 = .int .i64 x32_3 ∧ Aside0 (gram_Above.l2 kq x3_3 x5_3 l0_3 (l0_3.length : Int) x32_3 l0_0 l0_1 a0_2 l0_3 = some r) ∧ Aside0 (kq ≤ k2) ∧ Aside0 (Kd.R (Kd.int .u64) 47 w' w.heap.size (fun _ => True) (.slice Ao11 x3_2.length co11) x3_3) ∧ Aside0 (w'.heap[gb103]? = some (.cells #[(.slice A0_0 l0_0.length c0_0), (.slice A0_1 l0_1.length c0_1), .int .i64 a0_2, (.slice A0_3 l0_3.length c0_3)] 25 (0, 0))) ∧ Aside0 (Below w.heap.size w w'))
                    case atStart => exact ⟨(x3_2), (false), (0), (by first | rfl | (simp; done) | (simp [*]; done)), (by first | rfl | (simp; done) | (simp [*]; done)), H', ⟨Nat.le_refl _⟩, ⟨by (try simp only [hl3_1]); (try simp only [hl3_2]); (with_reducible repeat (first | apply Kd.R_alloc | apply Kd.R_drewN | apply Kd.R_drew)); exact HO_3.out⟩, ⟨by (try simp only [hl3_1]); (try simp only [hl3_2]); (with_reducible repeat (first | refine blk_drewN ?_ _ | refine blk_drew ?_ | refine blk_alloc ?_ _)); exact BK103.out⟩, ⟨by repeat (first | (with_reducible first | exact HB.out | apply below_alloc | apply pw_below_drewN | apply below_drew1 | refine below_set ?_ GE103.out) | exact HB.out)⟩⟩
                    case round =>
                      clear H'
                      try clear c1
                      try clear p1
                      try clear q1
                      try clear hx1
                      try clear hf1
                      try clear c2
                      try clear p2
                      try clear c3
                      try clear c3b0
                      try clear c3b1
                      try clear c4
                      try clear c4b0
                      try clear c4b1
                      try clear p6
                      try clear q10
                      try clear c12
                      try clear c12b0
                      try clear c13
                      try clear c13b0
                      try clear c13b1
                      try clear c15
                      try clear c15b0
                      try clear p16
                      try clear q16
                      try clear hx16
                      try clear hf16
                      try clear c19
                      try clear hcz20_0
                      try clear hcz20_1
                      try clear hcz20_2
                      try clear hcz20_3
                      try clear hcz6_0
                      try clear hcz6_1
                      try clear hcz6_2
                      try clear hcz6_3
                      try clear hcz8_0
                      try clear hcz8_1
                      try clear hcz8_2
                      try clear hcz8_3
                      try clear hfz20_0
                      try clear hfz20_1
                      try clear hfz20_2
                      try clear hfz20_3
                      try clear hfz6_0
                      try clear hfz6_1
                      try clear hfz6_2
                      try clear hfz6_3
                      try clear hfz8_0
                      try clear hfz8_1
                      try clear hfz8_2
                      try clear hfz8_3
                      try clear hx16_0
                      try clear p1
                      try clear p16
                      try clear p2
                      try clear p6
                      try clear q1
                      try clear q10
                      try clear q105
                      try clear q16
                      obtain ⟨x3_3, x5_3, x32_3, rfl, rfl, HA, HK3, HO_3, BK103, HB⟩ := hrel
                      have hl3_3 := (Kd.R_reads' HO_3.out).1
                      rw [hl3_3] at HO_3
                      (try simp only [hl3_3])
                      (try simp only [hl3_3] at BK103)
                      cases gk with
                      | zero => exact absurd HA.out (by simp [gram_Above.l2])
                      | succ k3 =>
                        have H := HA.out
                        clear HA
                        simp only [gram_Above.l2] at H
                        by_cases c21 : x32_3 < (l0_3.length : Int)
                        · rw [if_pos c21] at H
                          have c21b0 : decide (x32_3 < (l0_3.length : Int)) = true := decide_eq_true c21
                          clear c21
                          by_cases c22 : 0 ≤ x32_3
                          · rw [if_pos c22] at H
                            have c22b0 : decide (0 ≤ x32_3) = true := decide_eq_true c22
                            clear c22
                            by_cases c23 : x32_3 < (l0_3.length : Int)
                            · rw [if_pos c23] at H
                              have c23b0 : decide (x32_3 < (l0_3.length : Int)) = true := decide_eq_true c23
                              clear c23
                              replace H := Option.bind_eq_some_iff.mp H
                              obtain ⟨⟨t112, t113⟩, A240, H⟩ := H
                              replace H : (if t113 = true then (if 0 ≤ ((rd_T35 l0_3 x32_3).f0) then (if ((rd_T35 l0_3 x32_3).f0) < (x3_3.length : Int) then (if 0 ≤ t112 then (if t112 < (x3_3.length : Int) then (if (Go.bits .andNot .u64 (rd x3_3 ((rd_T35 l0_3 x32_3).f0)) (rd x3_3 t112)) = 0 then (gram_Above.l2 k3 x3_3 x5_3 l0_3 (l0_3.length : Int) (wrap64 (x32_3 + 1)) l0_0 l0_1 a0_2 l0_3) else (gram_Above.l2 k3 (x3_3.set (t112 : Int).toNat (Go.bits .or .u64 (rd x3_3 t112) (rd x3_3 ((rd_T35 l0_3 x32_3).f0)))) true l0_3 (l0_3.length : Int) (wrap64 (x32_3 + 1)) l0_0 l0_1 a0_2 l0_3)) else (none)) else (none)) else (none)) else (none)) else (gram_Above.l2 k3 x3_3 x5_3 l0_3 (l0_3.length : Int) (wrap64 (x32_3 + 1)) l0_0 l0_1 a0_2 l0_3)) = some r := H
                              have A24 := Aside0.mk A240
                              clear A240
                              by_cases c25 : t113 = true
                              · subst c25
                                have H1 : (if 0 ≤ ((rd_T35 l0_3 x32_3).f0) then (if ((rd_T35 l0_3 x32_3).f0) < (x3_3.length : Int) then (if 0 ≤ t112 then (if t112 < (x3_3.length : Int) then (if (Go.bits .andNot .u64 (rd x3_3 ((rd_T35 l0_3 x32_3).f0)) (rd x3_3 t112)) = 0 then (gram_Above.l2 k3 x3_3 x5_3 l0_3 (l0_3.length : Int) (wrap64 (x32_3 + 1)) l0_0 l0_1 a0_2 l0_3) else (gram_Above.l2 k3 (x3_3.set (t112 : Int).toNat (Go.bits .or .u64 (rd x3_3 t112) (rd x3_3 ((rd_T35 l0_3 x32_3).f0)))) true l0_3 (l0_3.length : Int) (wrap64 (x32_3 + 1)) l0_0 l0_1 a0_2 l0_3)) else (none)) else (none)) else (none)) else (none)) = some r := by rw [if_pos rfl] at H; exact H
                                clear H
                                have H := H1
                                clear H1
                                by_cases c26 : 0 ≤ ((rd_T35 l0_3 x32_3).f0)
                                · rw [if_pos c26] at H
                                  have c26b0 : decide (0 ≤ ((rd_T35 l0_3 x32_3).f0)) = true := decide_eq_true c26
                                  clear c26
                                  by_cases c27 : ((rd_T35 l0_3 x32_3).f0) < (x3_3.length : Int)
                                  · rw [if_pos c27] at H
                                    have c27b0 : decide (((rd_T35 l0_3 x32_3).f0) < (x3_3.length : Int)) = true := decide_eq_true c27
                                    clear c27
                                    by_cases c28 : 0 ≤ t112
                                    · rw [if_pos c28] at H
                                      have c28b0 : decide (0 ≤ t112) = true := decide_eq_true c28
                                      clear c28
                                      by_cases c29 : t112 < (x3_3.length : Int)
                                      · rw [if_pos c29] at H
                                        have c29b0 : decide (t112 < (x3_3.length : Int)) = true := decide_eq_true c29
                                        clear c29
                                        by_cases c30 : (Go.bits .andNot .u64 (rd x3_3 ((rd_T35 l0_3 x32_3).f0)) (rd x3_3 t112)) = 0
                                        · rw [if_pos c30] at H
                                          have c30b0 : ((Go.bits .andNot .u64 (rd x3_3 ((rd_T35 l0_3 x32_3).f0)) (rd x3_3 t112)) == 0) = true := beq_iff_eq.mpr c30
                                          have c30b1 : ((Go.bits .andNot .u64 (rd x3_3 ((rd_T35 l0_3 x32_3).f0)) (rd x3_3 t112)) != 0) = false := bne_eq_false_iff_eq.mpr c30
                                          clear c30
                                          have H' := Aside0.mk H
                                          clear H
                                          have p110 : 0 ≤ (x32_3 : Int) := of_decide_eq_true (by first | (with_reducible assumption) | assumption)
                                          have q110 : x32_3 < (l0_3.length : Int) := of_decide_eq_true (by first | (with_reducible assumption) | assumption)
                                          obtain ⟨ad110, A110_1, c110_1, e110, hx110_0, hx110_1, hl110_1, hi110_1⟩ := at_T35 HR0_3.out x32_3 p110 q110
                                          cases e110
                                          replace hx110_0 := (HB.out.cell (World.block_lt_of_cell? w _ hx110_0)).trans hx110_0
                                          replace hx110_1 := (HB.out.cell (World.block_lt_of_cell? w _ hx110_1)).trans hx110_1
                                          have HR110_1 := Aside0.mk hi110_1
                                          have HC110_1 := Aside0.mk hl110_1
                                          clear hi110_1 hl110_1
                                          replace p110 := eq_true p110
                                          replace q110 := eq_true q110
                                          try go_wp2_with (first | ((with_reducible refine gate_dst (N := 7) rfl ?_); refine box_event ?hg (N := 7) ?hd (cs := #[.int .i64 0, .slice none 0 0]) (t := 35) ?hr ?_; (case hd => rfl); (case hg => rfl); (case hr => first | (go_simp; done) | (go_simp; rfl)); intro gb111 hg w31 hbox hb; have n0_ := Aside0.mk (Kd.R_below (by (with_reducible repeat (first | apply Kd.R_alloc | apply Kd.R_drewN | apply Kd.R_drew)); exact HO_3.out) hb); have n1_ := Aside0.mk (blk_below (g := gb103) (o := .cells #[.slice A0_0 l0_0.length c0_0, .slice A0_1 l0_1.length c0_1, .int .i64 a0_2, .slice (some ad110) l0_3.length c0_3] 25 (0, 0)) (by (with_reducible repeat (first | refine blk_drewN ?_ _ | refine blk_drew ?_ | refine blk_alloc ?_ _)); exact BK103.out) hb); have n2_ := Aside0.mk (below_step (by repeat (first | (with_reducible first | exact HB.out | apply below_alloc | apply pw_below_drewN | apply below_drew1 | refine below_set ?_ GE103.out) | exact HB.out)) hb); have n3_ := Aside0.mk (hbox); have n4_ := Aside0.mk ((by rw [hg]; exact (below_size (by repeat (first | (with_reducible first | exact HB.out | apply below_alloc | apply pw_below_drewN | apply below_drew1 | refine below_set ?_ GE103.out) | exact HB.out))) : w.heap.size ≤ gb111)); have n5_ := Aside0.mk ((by rw [hg]; exact (below_size (by repeat (first | (with_reducible first | exact HB.out | apply below_alloc | apply pw_below_drewN | apply below_drew1 | refine below_set ?_ GE103.out) | exact HB.out))) : w.heap.size ≤ gb111)); have n6_ := Aside0.mk ((by rw [hg]; exact Nat.ne_of_lt (blk_lt (g := gb103) (o := .cells #[.slice A0_0 l0_0.length c0_0, .slice A0_1 l0_1.length c0_1, .int .i64 a0_2, .slice (some ad110) l0_3.length c0_3] 25 (0, 0)) (by (with_reducible repeat (first | refine blk_drewN ?_ _ | refine blk_drew ?_ | refine blk_alloc ?_ _)); exact BK103.out)) : gb103 ≠ gb111)); have n7_ := Aside0.mk ((by rw [hg]; exact Nat.ne_of_gt (blk_lt (g := gb103) (o := .cells #[.slice A0_0 l0_0.length c0_0, .slice A0_1 l0_1.length c0_1, .int .i64 a0_2, .slice (some ad110) l0_3.length c0_3] 25 (0, 0)) (by (with_reducible repeat (first | refine blk_drewN ?_ _ | refine blk_drew ?_ | refine blk_alloc ?_ _)); exact BK103.out)) : gb111 ≠ gb103)); clear HO_3; clear BK103; clear HB; have HO_3 := n0_; have BK103 := n1_; have HB := n2_; have BK111 := n3_; have GW111 := n4_; have GE111 := n5_; have NB103_111 := n6_; have NB111_103 := n7_; clear n0_ n1_ n2_ n3_ n4_ n5_ n6_ n7_; clear hb hbox hg; have hnb32 := NB111_103.out; have hnc32 := NB103_111.out; have hcz33_0 : w31.cell? ⟨gb111, 0, none⟩ = some (.int .i64 0) := (blk_cell BK111.out 0).trans rfl; have hcz33_1 : w31.cell? ⟨gb111, 1, none⟩ = some (.slice none 0 0) := (blk_cell BK111.out 1).trans rfl; have hfz33_0 := blk_frozen BK111.out 0; have hfz33_1 := blk_frozen BK111.out 1) | ((with_reducible refine gate_callee (f := 21) rfl ?_); refine goesL_ (some 38) rfl rfl Tryd.func21 (by kernel_rfl) rfl #[.agg #[.int .i64 ((rd_T35 l0_3 x32_3).f0), .slice A110_1 ((rd_T35 l0_3 x32_3).f1).length c110_1]] rfl (by (try simp only [List.map_toArray, List.map_cons, List.map_nil]); first | done | rfl | (simp only [List.length_drop, List.length_take]; rfl)) ?_; (with_reducible refine (gram_Renaming.calls ((rd_T35 l0_3 x32_3).f0) _ _ ((rd_T35 l0_3 x32_3).f1) t112 true _ ?side1 ?side2 A24.out).mono ?_); (case side1 => exact Kd.C_below HR110_1.out (by repeat (first | (with_reducible first | exact HB.out | apply below_alloc | apply pw_below_drewN | apply below_drew1 | refine below_set ?_ GE103.out | refine below_set ?_ GE111.out) | exact HB.out))); (case side2 => exact HC110_1.out); rintro e w34 ⟨rfl, hb⟩; refine ⟨_, rfl, ?_⟩; have n0_ := Aside0.mk (Kd.R_below (by (with_reducible repeat (first | apply Kd.R_alloc | apply Kd.R_drewN | apply Kd.R_drew)); exact (Kd.R_mono (Kd.R_far (p := ⟨gb111, 1, none⟩) (Kd.R_far (p := ⟨gb111, 0, none⟩) (Kd.R_types HO_3.out BK111.out (by decide)) (fun _ hk => hk.2) (.int .i64 ((rd_T35 l0_3 x32_3).f0))) (fun _ hk => hk.2) (.slice A110_1 ((rd_T35 l0_3 x32_3).f1).length c110_1)) (fun _ h_ => h_.1))) hb); have n1_ := Aside0.mk (blk_below (g := gb103) (o := .cells #[.slice A0_0 l0_0.length c0_0, .slice A0_1 l0_1.length c0_1, .int .i64 a0_2, .slice (some ad110) l0_3.length c0_3] 25 (0, 0)) (by (with_reducible repeat (first | refine blk_drewN ?_ _ | refine blk_drew ?_ | refine blk_alloc ?_ _)); refine blk_far ?_ NB103_111.out _; (with_reducible repeat (first | refine blk_drewN ?_ _ | refine blk_drew ?_ | refine blk_alloc ?_ _)); refine blk_far ?_ NB103_111.out _; (with_reducible repeat (first | refine blk_drewN ?_ _ | refine blk_drew ?_ | refine blk_alloc ?_ _)); exact BK103.out) hb); have n2_ := Aside0.mk (blk_below (g := gb111) (o := .cells #[.int .i64 ((rd_T35 l0_3 x32_3).f0), .slice A110_1 ((rd_T35 l0_3 x32_3).f1).length c110_1] 35 (0, 0)) (by (with_reducible repeat (first | refine blk_drewN ?_ _ | refine blk_drew ?_ | refine blk_alloc ?_ _)); refine blk_put (cs := #[.int .i64 ((rd_T35 l0_3 x32_3).f0), .slice none 0 0]) ?_ 1 _ rfl; (with_reducible repeat (first | refine blk_drewN ?_ _ | refine blk_drew ?_ | refine blk_alloc ?_ _)); refine blk_put (cs := #[.int .i64 0, .slice none 0 0]) ?_ 0 _ rfl; (with_reducible repeat (first | refine blk_drewN ?_ _ | refine blk_drew ?_ | refine blk_alloc ?_ _)); exact BK111.out) hb); have n3_ := Aside0.mk (below_step (by repeat (first | (with_reducible first | exact HB.out | apply below_alloc | apply pw_below_drewN | apply below_drew1 | refine below_set ?_ GE103.out | refine below_set ?_ GE111.out) | exact HB.out)) hb); clear HO_3; clear BK103; clear BK111; clear HB; have HO_3 := n0_; have BK103 := n1_; have BK111 := n2_; have HB := n3_; clear n0_ n1_ n2_ n3_; (try clear hb); (try clear hb2); (try clear hk); (try clear hi)))
                                          have n0_ := Aside0.mk (Kd.R_drew HO_3.out)
                                          have n1_ := Aside0.mk (blk_drew BK103.out)
                                          have n2_ := Aside0.mk (blk_drew BK111.out)
                                          have n3_ := Aside0.mk (below_drew1 HB.out)
                                          clear HO_3
                                          clear BK103
                                          clear BK111
                                          clear HB
                                          have HO_3 := n0_
                                          have BK103 := n1_
                                          have BK111 := n2_
                                          have HB := n3_
                                          clear n0_ n1_ n2_ n3_
                                          have p114 : 0 ≤ (((rd_T35 l0_3 x32_3).f0) : Int) := of_decide_eq_true (by first | (with_reducible assumption) | assumption)
                                          have q114 : ((rd_T35 l0_3 x32_3).f0) < (x3_3.length : Int) := of_decide_eq_true (by first | (with_reducible assumption) | assumption)
                                          obtain ⟨ad114, e114, hx114_0⟩ := Kd.at_int (Kd.R_reads' HO_3.out).2.2 ((rd_T35 l0_3 x32_3).f0) p114 q114
                                          cases e114
                                          replace p114 := eq_true p114
                                          replace q114 := eq_true q114
                                          have p115 : 0 ≤ (t112 : Int) := of_decide_eq_true (by first | (with_reducible assumption) | assumption)
                                          have q115 : t112 < (x3_3.length : Int) := of_decide_eq_true (by first | (with_reducible assumption) | assumption)
                                          obtain ⟨ad115, e115, hx115_0⟩ := Kd.at_int (Kd.R_reads' HO_3.out).2.2 t112 p115 q115
                                          obtain rfl : ad114 = ad115 := (by injection e115)
                                          replace p115 := eq_true p115
                                          replace q115 := eq_true q115
                                          refine start_ (n := 14) (S := fun w' => w'.cell? ⟨gb111, 0, none⟩ = some (.int .i64 ((rd_T35 l0_3 x32_3).f0)) ∧ w'.cell? ⟨gb111, 1, none⟩ = some (.slice A110_1 ((rd_T35 l0_3 x32_3).f1).length c110_1) ∧ w'.cell? (ad114.add (((rd_T35 l0_3 x32_3).f0)).toNat) = some (.int .u64 (rd x3_3 ((rd_T35 l0_3 x32_3).f0))) ∧ w'.cell? (ad114.add (t112).toNat) = some (.int .u64 (rd x3_3 t112))) (ds := []) #[false, false, false, false, false, false, false, false, false, false, false, false, false, false] (by kernel_rfl) rfl rfl ⟨(blk_cell BK111.out 0).trans rfl, (blk_cell BK111.out 1).trans rfl, hx114_0, hx115_0⟩ (fun hHeld => ?_); refine with_tabW gram_Above.tab16 gram_Above.bits16 (fun HT_ HW_ => ?_)
                                          generalize w34.drew = w35 at HO_3 BK103 BK111 HB hx114_0 hx115_0 hHeld ⊢
                                          refine pure_ (i := 0) (N := some 41) (v := ?_) (a' := ?_) #[true, false, false, false, false, false, false, false, false, false, false, false, false, false] rfl rfl (any_of HT_.out (by kernel_rfl)) (fun _ _ _ h => h) (Or.inl ⟨by rfl, ?_⟩) ?_ ?_
                                          rotate_left
                                          · intro w'
                                            go_simp
                                            with_reducible rfl
                                          rotate_left
                                          · simp only [Act.put, List.setIfInBounds_toArray, List.set_cons_zero, List.set_cons_succ, i64_w, i32_w]
                                            rfl
                                          refine pure_ (i := 1) (N := some 42) (v := ?_) (a' := ?_) #[true, true, false, false, false, false, false, false, false, false, false, false, false, false] rfl rfl (any_of HT_.out (by kernel_rfl)) (fun _ _ _ h => h) (Or.inl ⟨by rfl, ?_⟩) ?_ ?_
                                          rotate_left
                                          · intro w'
                                            go_simp
                                            with_reducible rfl
                                          rotate_left
                                          · simp only [Act.put, List.setIfInBounds_toArray, List.set_cons_zero, List.set_cons_succ, i64_w, i32_w]
                                            rfl
                                          refine pure_ (i := 2) (N := some 43) (v := ?_) (a' := ?_) #[true, true, true, false, false, false, false, false, false, false, false, false, false, false] rfl rfl (any_of HT_.out (by kernel_rfl)) (fun _ _ _ h => h) (Or.inl ⟨by rfl, ?_⟩) ?_ ?_
                                          rotate_left
                                          · intro w'
                                            go_simp
                                            with_reducible rfl
                                          rotate_left
                                          · simp only [Act.put, List.setIfInBounds_toArray, List.set_cons_zero, List.set_cons_succ, i64_w, i32_w]
                                            rfl
                                          refine pure_ (i := 3) (N := some 44) (v := ?_) (a' := ?_) #[true, true, true, true, false, false, false, false, false, false, false, false, false, false] rfl rfl (any_of HT_.out (by kernel_rfl)) (fun _ _ _ h => h) (Or.inl ⟨by rfl, ?_⟩) ?_ ?_
                                          rotate_left
                                          · intro w'
                                            go_simp
                                            with_reducible rfl
                                          rotate_left
                                          · simp only [Act.put, List.setIfInBounds_toArray, List.set_cons_zero, List.set_cons_succ, i64_w, i32_w]
                                            rfl
                                          refine pure_ (i := 7) (N := some 48) (v := ?_) (a' := ?_) #[true, true, true, true, false, false, false, true, false, false, false, false, false, false] rfl rfl (any_of HT_.out (by kernel_rfl)) (fun _ _ _ h => h) (Or.inl ⟨by rfl, ?_⟩) ?_ ?_
                                          rotate_left
                                          · intro w'
                                            go_simp
                                            with_reducible rfl
                                          rotate_left
                                          · simp only [Act.put, List.setIfInBounds_toArray, List.set_cons_zero, List.set_cons_succ, i64_w, i32_w]
                                            rfl
                                          refine pure_ (i := 8) (N := some 49) (v := ?_) (a' := ?_) #[true, true, true, true, false, false, false, true, true, false, false, false, false, false] rfl rfl (any_of HT_.out (by kernel_rfl)) (fun _ _ _ h => h) (Or.inl ⟨by rfl, ?_⟩) ?_ ?_
                                          rotate_left
                                          · intro w'
                                            go_simp
                                            with_reducible rfl
                                          rotate_left
                                          · simp only [Act.put, List.setIfInBounds_toArray, List.set_cons_zero, List.set_cons_succ, i64_w, i32_w]
                                            rfl
                                          refine pure_ (i := 9) (N := some 50) (v := ?_) (a' := ?_) #[true, true, true, true, false, false, false, true, true, true, false, false, false, false] rfl rfl (any_of HT_.out (by kernel_rfl)) (fun _ _ _ h => h) (Or.inl ⟨by rfl, ?_⟩) ?_ ?_
                                          rotate_left
                                          · intro w'
                                            go_simp
                                            with_reducible rfl
                                          rotate_left
                                          · simp only [Act.put, List.setIfInBounds_toArray, List.set_cons_zero, List.set_cons_succ, i64_w, i32_w]
                                            rfl
                                          refine take_ (i := 4) (N := some 45) (v := ?_) (a' := ?_) #[true, true, true, true, true, false, false, true, true, true, false, false, false, false] rfl rfl (take_ofW HT_.out HW_.out (by kernel_rfl)) (fun _ _ _ h => h) (Or.inl ⟨by rfl, ?_⟩) hHeld ?_ ?_
                                          rotate_left
                                          · rintro w' ⟨s0, s1, s2, s3⟩
                                            go_simp
                                            with_reducible rfl
                                          rotate_left
                                          · simp only [Act.put, List.setIfInBounds_toArray, List.set_cons_zero, List.set_cons_succ, i64_w, i32_w]
                                            rfl
                                          refine pure_ (i := 5) (N := some 46) (v := ?_) (a' := ?_) #[true, true, true, true, true, true, false, true, true, true, false, false, false, false] rfl rfl (any_of HT_.out (by kernel_rfl)) (fun _ _ _ h => h) (Or.inl ⟨by rfl, ?_⟩) ?_ ?_
                                          rotate_left
                                          · intro w'
                                            go_simp
                                            with_reducible rfl
                                          rotate_left
                                          · simp only [Act.put, List.setIfInBounds_toArray, List.set_cons_zero, List.set_cons_succ, i64_w, i32_w]
                                            rfl
                                          refine take_ (i := 6) (N := some 47) (v := ?_) (a' := ?_) #[true, true, true, true, true, true, true, true, true, true, false, false, false, false] rfl rfl (take_ofW HT_.out HW_.out (by kernel_rfl)) (fun _ _ _ h => h) (Or.inl ⟨by rfl, ?_⟩) hHeld ?_ ?_
                                          rotate_left
                                          · rintro w' ⟨s0, s1, s2, s3⟩
                                            go_simp
                                            with_reducible rfl
                                          rotate_left
                                          · simp only [Act.put, List.setIfInBounds_toArray, List.set_cons_zero, List.set_cons_succ, i64_w, i32_w]
                                            rfl
                                          refine take_ (i := 10) (N := some 51) (v := ?_) (a' := ?_) #[true, true, true, true, true, true, true, true, true, true, true, false, false, false] rfl rfl (take_ofW HT_.out HW_.out (by kernel_rfl)) (fun _ _ _ h => h) (Or.inl ⟨by rfl, ?_⟩) hHeld ?_ ?_
                                          rotate_left
                                          · rintro w' ⟨s0, s1, s2, s3⟩
                                            go_simp
                                            with_reducible rfl
                                          rotate_left
                                          · simp only [Act.put, List.setIfInBounds_toArray, List.set_cons_zero, List.set_cons_succ, i64_w, i32_w]
                                            rfl
                                          refine pure_ (i := 11) (N := some 52) (v := ?_) (a' := ?_) #[true, true, true, true, true, true, true, true, true, true, true, true, false, false] rfl rfl (any_of HT_.out (by kernel_rfl)) (fun _ _ _ h => h) (Or.inl ⟨by rfl, ?_⟩) ?_ ?_
                                          rotate_left
                                          · intro w'
                                            go_simp
                                            with_reducible rfl
                                          rotate_left
                                          · simp only [Act.put, List.setIfInBounds_toArray, List.set_cons_zero, List.set_cons_succ, i64_w, i32_w]
                                            rfl
                                          refine pure_ (i := 12) (N := some 53) (v := ?_) (a' := ?_) #[true, true, true, true, true, true, true, true, true, true, true, true, true, false] rfl rfl (any_of HT_.out (by kernel_rfl)) (fun _ _ _ h => h) (Or.inl ⟨by rfl, ?_⟩) ?_ ?_
                                          rotate_left
                                          · intro w'
                                            go_simp
                                            with_reducible rfl
                                          rotate_left
                                          · simp only [Act.put, List.setIfInBounds_toArray, List.set_cons_zero, List.set_cons_succ, i64_w, i32_w]
                                            rfl
                                          refine pure_ (i := 13) (N := some 54) (v := ?_) (a' := ?_) #[true, true, true, true, true, true, true, true, true, true, true, true, true, true] rfl rfl (any_of HT_.out (by kernel_rfl)) (fun _ _ _ h => h) (Or.inl ⟨by rfl, ?_⟩) ?_ ?_
                                          rotate_left
                                          · intro w'
                                            go_simp
                                            with_reducible rfl
                                          rotate_left
                                          · simp only [Act.put, List.setIfInBounds_toArray, List.set_cons_zero, List.set_cons_succ, i64_w, i32_w]
                                            rfl
                                          refine done_ (done_of HT_.out (by kernel_rfl)) ?_
                                          try go_wp2
                                          (try simp only [← hl3_3])
                                          go_roundg k3
                                          case measure => have := HK1.out; have := HK2.out; have := HK3.out; omega
                                          case rel => exact ⟨(x3_3), (x5_3), (wrap64 (x32_3 + 1)), (by first | rfl | (simp; done) | (simp [*]; done)), (by first | rfl | (simp; done) | (simp [*]; done)), H', ⟨by have := HK1.out; have := HK2.out; have := HK3.out; omega⟩, ⟨by (try simp only [hl3_1]); (try simp only [hl3_2]); (try simp only [hl3_3]); (with_reducible repeat (first | apply Kd.R_alloc | apply Kd.R_drewN | apply Kd.R_drew)); exact HO_3.out⟩, ⟨by (try simp only [hl3_1]); (try simp only [hl3_2]); (try simp only [hl3_3]); (with_reducible repeat (first | refine blk_drewN ?_ _ | refine blk_drew ?_ | refine blk_alloc ?_ _)); exact BK103.out⟩, ⟨by repeat (first | (with_reducible first | exact HB.out | apply below_alloc | apply pw_below_drewN | apply below_drew1 | refine below_set ?_ GE103.out | refine below_set ?_ GE111.out) | exact HB.out)⟩⟩
                                        · rw [if_neg c30] at H
                                          have c30b0 : ((Go.bits .andNot .u64 (rd x3_3 ((rd_T35 l0_3 x32_3).f0)) (rd x3_3 t112)) == 0) = false := beq_eq_false_iff_ne.mpr c30
                                          have c30b1 : ((Go.bits .andNot .u64 (rd x3_3 ((rd_T35 l0_3 x32_3).f0)) (rd x3_3 t112)) != 0) = true := bne_iff_ne.mpr c30
                                          obtain ⟨y118, hy118⟩ : ∃ y_ : List Int, y_ = (x3_3.set (t112 : Int).toNat (Go.bits .or .u64 (rd x3_3 t112) (rd x3_3 ((rd_T35 l0_3 x32_3).f0)))) := ⟨_, rfl⟩
                                          replace H : (gram_Above.l2 k3 y118 true l0_3 (l0_3.length : Int) (wrap64 (x32_3 + 1)) l0_0 l0_1 a0_2 l0_3) = some r := by first | (rw [hy118]; with_reducible exact H) | (have H2_ := (Option.bind_some _ _).symm.trans H; rw [hy118]; with_reducible exact H2_) | (have H2_ := (Option.bind_some _ _).symm.trans H; with_reducible exact H2_) | with_reducible exact H | (rw [hy118]; exact H) | exact H
                                          have Ny118 := Aside0.mk hy118
                                          clear hy118
                                          have H' := Aside0.mk H
                                          clear H
                                          have p110 : 0 ≤ (x32_3 : Int) := of_decide_eq_true (by first | (with_reducible assumption) | assumption)
                                          have q110 : x32_3 < (l0_3.length : Int) := of_decide_eq_true (by first | (with_reducible assumption) | assumption)
                                          obtain ⟨ad110, A110_1, c110_1, e110, hx110_0, hx110_1, hl110_1, hi110_1⟩ := at_T35 HR0_3.out x32_3 p110 q110
                                          cases e110
                                          replace hx110_0 := (HB.out.cell (World.block_lt_of_cell? w _ hx110_0)).trans hx110_0
                                          replace hx110_1 := (HB.out.cell (World.block_lt_of_cell? w _ hx110_1)).trans hx110_1
                                          have HR110_1 := Aside0.mk hi110_1
                                          have HC110_1 := Aside0.mk hl110_1
                                          clear hi110_1 hl110_1
                                          replace p110 := eq_true p110
                                          replace q110 := eq_true q110
                                          try go_wp2_with (first | ((with_reducible refine gate_dst (N := 7) rfl ?_); refine box_event ?hg (N := 7) ?hd (cs := #[.int .i64 0, .slice none 0 0]) (t := 35) ?hr ?_; (case hd => rfl); (case hg => rfl); (case hr => first | (go_simp; done) | (go_simp; rfl)); intro gb111 hg w37 hbox hb; have n0_ := Aside0.mk (Kd.R_below (by (with_reducible repeat (first | apply Kd.R_alloc | apply Kd.R_drewN | apply Kd.R_drew)); exact HO_3.out) hb); have n1_ := Aside0.mk (blk_below (g := gb103) (o := .cells #[.slice A0_0 l0_0.length c0_0, .slice A0_1 l0_1.length c0_1, .int .i64 a0_2, .slice (some ad110) l0_3.length c0_3] 25 (0, 0)) (by (with_reducible repeat (first | refine blk_drewN ?_ _ | refine blk_drew ?_ | refine blk_alloc ?_ _)); exact BK103.out) hb); have n2_ := Aside0.mk (below_step (by repeat (first | (with_reducible first | exact HB.out | apply below_alloc | apply pw_below_drewN | apply below_drew1 | refine below_set ?_ GE103.out) | exact HB.out)) hb); have n3_ := Aside0.mk (hbox); have n4_ := Aside0.mk ((by rw [hg]; exact (below_size (by repeat (first | (with_reducible first | exact HB.out | apply below_alloc | apply pw_below_drewN | apply below_drew1 | refine below_set ?_ GE103.out) | exact HB.out))) : w.heap.size ≤ gb111)); have n5_ := Aside0.mk ((by rw [hg]; exact (below_size (by repeat (first | (with_reducible first | exact HB.out | apply below_alloc | apply pw_below_drewN | apply below_drew1 | refine below_set ?_ GE103.out) | exact HB.out))) : w.heap.size ≤ gb111)); have n6_ := Aside0.mk ((by rw [hg]; exact Nat.ne_of_lt (blk_lt (g := gb103) (o := .cells #[.slice A0_0 l0_0.length c0_0, .slice A0_1 l0_1.length c0_1, .int .i64 a0_2, .slice (some ad110) l0_3.length c0_3] 25 (0, 0)) (by (with_reducible repeat (first | refine blk_drewN ?_ _ | refine blk_drew ?_ | refine blk_alloc ?_ _)); exact BK103.out)) : gb103 ≠ gb111)); have n7_ := Aside0.mk ((by rw [hg]; exact Nat.ne_of_gt (blk_lt (g := gb103) (o := .cells #[.slice A0_0 l0_0.length c0_0, .slice A0_1 l0_1.length c0_1, .int .i64 a0_2, .slice (some ad110) l0_3.length c0_3] 25 (0, 0)) (by (with_reducible repeat (first | refine blk_drewN ?_ _ | refine blk_drew ?_ | refine blk_alloc ?_ _)); exact BK103.out)) : gb111 ≠ gb103)); clear HO_3; clear BK103; clear HB; have HO_3 := n0_; have BK103 := n1_; have HB := n2_; have BK111 := n3_; have GW111 := n4_; have GE111 := n5_; have NB103_111 := n6_; have NB111_103 := n7_; clear n0_ n1_ n2_ n3_ n4_ n5_ n6_ n7_; clear hb hbox hg; have hnb38 := NB111_103.out; have hnc38 := NB103_111.out; have hcz39_0 : w37.cell? ⟨gb111, 0, none⟩ = some (.int .i64 0) := (blk_cell BK111.out 0).trans rfl; have hcz39_1 : w37.cell? ⟨gb111, 1, none⟩ = some (.slice none 0 0) := (blk_cell BK111.out 1).trans rfl; have hfz39_0 := blk_frozen BK111.out 0; have hfz39_1 := blk_frozen BK111.out 1) | ((with_reducible refine gate_callee (f := 21) rfl ?_); refine goesL_ (some 38) rfl rfl Tryd.func21 (by kernel_rfl) rfl #[.agg #[.int .i64 ((rd_T35 l0_3 x32_3).f0), .slice A110_1 ((rd_T35 l0_3 x32_3).f1).length c110_1]] rfl (by (try simp only [List.map_toArray, List.map_cons, List.map_nil]); first | done | rfl | (simp only [List.length_drop, List.length_take]; rfl)) ?_; (with_reducible refine (gram_Renaming.calls ((rd_T35 l0_3 x32_3).f0) _ _ ((rd_T35 l0_3 x32_3).f1) t112 true _ ?side1 ?side2 A24.out).mono ?_); (case side1 => exact Kd.C_below HR110_1.out (by repeat (first | (with_reducible first | exact HB.out | apply below_alloc | apply pw_below_drewN | apply below_drew1 | refine below_set ?_ GE103.out | refine below_set ?_ GE111.out) | exact HB.out))); (case side2 => exact HC110_1.out); rintro e w40 ⟨rfl, hb⟩; refine ⟨_, rfl, ?_⟩; have n0_ := Aside0.mk (Kd.R_below (by (with_reducible repeat (first | apply Kd.R_alloc | apply Kd.R_drewN | apply Kd.R_drew)); exact (Kd.R_mono (Kd.R_far (p := ⟨gb111, 1, none⟩) (Kd.R_far (p := ⟨gb111, 0, none⟩) (Kd.R_types HO_3.out BK111.out (by decide)) (fun _ hk => hk.2) (.int .i64 ((rd_T35 l0_3 x32_3).f0))) (fun _ hk => hk.2) (.slice A110_1 ((rd_T35 l0_3 x32_3).f1).length c110_1)) (fun _ h_ => h_.1))) hb); have n1_ := Aside0.mk (blk_below (g := gb103) (o := .cells #[.slice A0_0 l0_0.length c0_0, .slice A0_1 l0_1.length c0_1, .int .i64 a0_2, .slice (some ad110) l0_3.length c0_3] 25 (0, 0)) (by (with_reducible repeat (first | refine blk_drewN ?_ _ | refine blk_drew ?_ | refine blk_alloc ?_ _)); refine blk_far ?_ NB103_111.out _; (with_reducible repeat (first | refine blk_drewN ?_ _ | refine blk_drew ?_ | refine blk_alloc ?_ _)); refine blk_far ?_ NB103_111.out _; (with_reducible repeat (first | refine blk_drewN ?_ _ | refine blk_drew ?_ | refine blk_alloc ?_ _)); exact BK103.out) hb); have n2_ := Aside0.mk (blk_below (g := gb111) (o := .cells #[.int .i64 ((rd_T35 l0_3 x32_3).f0), .slice A110_1 ((rd_T35 l0_3 x32_3).f1).length c110_1] 35 (0, 0)) (by (with_reducible repeat (first | refine blk_drewN ?_ _ | refine blk_drew ?_ | refine blk_alloc ?_ _)); refine blk_put (cs := #[.int .i64 ((rd_T35 l0_3 x32_3).f0), .slice none 0 0]) ?_ 1 _ rfl; (with_reducible repeat (first | refine blk_drewN ?_ _ | refine blk_drew ?_ | refine blk_alloc ?_ _)); refine blk_put (cs := #[.int .i64 0, .slice none 0 0]) ?_ 0 _ rfl; (with_reducible repeat (first | refine blk_drewN ?_ _ | refine blk_drew ?_ | refine blk_alloc ?_ _)); exact BK111.out) hb); have n3_ := Aside0.mk (below_step (by repeat (first | (with_reducible first | exact HB.out | apply below_alloc | apply pw_below_drewN | apply below_drew1 | refine below_set ?_ GE103.out | refine below_set ?_ GE111.out) | exact HB.out)) hb); clear HO_3; clear BK103; clear BK111; clear HB; have HO_3 := n0_; have BK103 := n1_; have BK111 := n2_; have HB := n3_; clear n0_ n1_ n2_ n3_; (try clear hb); (try clear hb2); (try clear hk); (try clear hi)))
                                          have n0_ := Aside0.mk (Kd.R_drew HO_3.out)
                                          have n1_ := Aside0.mk (blk_drew BK103.out)
                                          have n2_ := Aside0.mk (blk_drew BK111.out)
                                          have n3_ := Aside0.mk (below_drew1 HB.out)
                                          clear HO_3
                                          clear BK103
                                          clear BK111
                                          clear HB
                                          have HO_3 := n0_
                                          have BK103 := n1_
                                          have BK111 := n2_
                                          have HB := n3_
                                          clear n0_ n1_ n2_ n3_
                                          have p114 : 0 ≤ (((rd_T35 l0_3 x32_3).f0) : Int) := of_decide_eq_true (by first | (with_reducible assumption) | assumption)
                                          have q114 : ((rd_T35 l0_3 x32_3).f0) < (x3_3.length : Int) := of_decide_eq_true (by first | (with_reducible assumption) | assumption)
                                          obtain ⟨ad114, e114, hx114_0⟩ := Kd.at_int (Kd.R_reads' HO_3.out).2.2 ((rd_T35 l0_3 x32_3).f0) p114 q114
                                          cases e114
                                          replace p114 := eq_true p114
                                          replace q114 := eq_true q114
                                          have p115 : 0 ≤ (t112 : Int) := of_decide_eq_true (by first | (with_reducible assumption) | assumption)
                                          have q115 : t112 < (x3_3.length : Int) := of_decide_eq_true (by first | (with_reducible assumption) | assumption)
                                          obtain ⟨ad115, e115, hx115_0⟩ := Kd.at_int (Kd.R_reads' HO_3.out).2.2 t112 p115 q115
                                          obtain rfl : ad114 = ad115 := (by injection e115)
                                          replace p115 := eq_true p115
                                          replace q115 := eq_true q115
                                          refine start_ (n := 14) (S := fun w' => w'.cell? ⟨gb111, 0, none⟩ = some (.int .i64 ((rd_T35 l0_3 x32_3).f0)) ∧ w'.cell? ⟨gb111, 1, none⟩ = some (.slice A110_1 ((rd_T35 l0_3 x32_3).f1).length c110_1) ∧ w'.cell? (ad114.add (((rd_T35 l0_3 x32_3).f0)).toNat) = some (.int .u64 (rd x3_3 ((rd_T35 l0_3 x32_3).f0))) ∧ w'.cell? (ad114.add (t112).toNat) = some (.int .u64 (rd x3_3 t112))) (ds := []) #[false, false, false, false, false, false, false, false, false, false, false, false, false, false] (by kernel_rfl) rfl rfl ⟨(blk_cell BK111.out 0).trans rfl, (blk_cell BK111.out 1).trans rfl, hx114_0, hx115_0⟩ (fun hHeld => ?_); refine with_tabW gram_Above.tab16 gram_Above.bits16 (fun HT_ HW_ => ?_)
                                          generalize w40.drew = w41 at HO_3 BK103 BK111 HB hx114_0 hx115_0 hHeld ⊢
                                          refine pure_ (i := 0) (N := some 41) (v := ?_) (a' := ?_) #[true, false, false, false, false, false, false, false, false, false, false, false, false, false] rfl rfl (any_of HT_.out (by kernel_rfl)) (fun _ _ _ h => h) (Or.inl ⟨by rfl, ?_⟩) ?_ ?_
                                          rotate_left
                                          · intro w'
                                            go_simp
                                            with_reducible rfl
                                          rotate_left
                                          · simp only [Act.put, List.setIfInBounds_toArray, List.set_cons_zero, List.set_cons_succ, i64_w, i32_w]
                                            rfl
                                          refine pure_ (i := 1) (N := some 42) (v := ?_) (a' := ?_) #[true, true, false, false, false, false, false, false, false, false, false, false, false, false] rfl rfl (any_of HT_.out (by kernel_rfl)) (fun _ _ _ h => h) (Or.inl ⟨by rfl, ?_⟩) ?_ ?_
                                          rotate_left
                                          · intro w'
                                            go_simp
                                            with_reducible rfl
                                          rotate_left
                                          · simp only [Act.put, List.setIfInBounds_toArray, List.set_cons_zero, List.set_cons_succ, i64_w, i32_w]
                                            rfl
                                          refine pure_ (i := 2) (N := some 43) (v := ?_) (a' := ?_) #[true, true, true, false, false, false, false, false, false, false, false, false, false, false] rfl rfl (any_of HT_.out (by kernel_rfl)) (fun _ _ _ h => h) (Or.inl ⟨by rfl, ?_⟩) ?_ ?_
                                          rotate_left
                                          · intro w'
                                            go_simp
                                            with_reducible rfl
                                          rotate_left
                                          · simp only [Act.put, List.setIfInBounds_toArray, List.set_cons_zero, List.set_cons_succ, i64_w, i32_w]
                                            rfl
                                          refine pure_ (i := 3) (N := some 44) (v := ?_) (a' := ?_) #[true, true, true, true, false, false, false, false, false, false, false, false, false, false] rfl rfl (any_of HT_.out (by kernel_rfl)) (fun _ _ _ h => h) (Or.inl ⟨by rfl, ?_⟩) ?_ ?_
                                          rotate_left
                                          · intro w'
                                            go_simp
                                            with_reducible rfl
                                          rotate_left
                                          · simp only [Act.put, List.setIfInBounds_toArray, List.set_cons_zero, List.set_cons_succ, i64_w, i32_w]
                                            rfl
                                          refine pure_ (i := 7) (N := some 48) (v := ?_) (a' := ?_) #[true, true, true, true, false, false, false, true, false, false, false, false, false, false] rfl rfl (any_of HT_.out (by kernel_rfl)) (fun _ _ _ h => h) (Or.inl ⟨by rfl, ?_⟩) ?_ ?_
                                          rotate_left
                                          · intro w'
                                            go_simp
                                            with_reducible rfl
                                          rotate_left
                                          · simp only [Act.put, List.setIfInBounds_toArray, List.set_cons_zero, List.set_cons_succ, i64_w, i32_w]
                                            rfl
                                          refine pure_ (i := 8) (N := some 49) (v := ?_) (a' := ?_) #[true, true, true, true, false, false, false, true, true, false, false, false, false, false] rfl rfl (any_of HT_.out (by kernel_rfl)) (fun _ _ _ h => h) (Or.inl ⟨by rfl, ?_⟩) ?_ ?_
                                          rotate_left
                                          · intro w'
                                            go_simp
                                            with_reducible rfl
                                          rotate_left
                                          · simp only [Act.put, List.setIfInBounds_toArray, List.set_cons_zero, List.set_cons_succ, i64_w, i32_w]
                                            rfl
                                          refine pure_ (i := 9) (N := some 50) (v := ?_) (a' := ?_) #[true, true, true, true, false, false, false, true, true, true, false, false, false, false] rfl rfl (any_of HT_.out (by kernel_rfl)) (fun _ _ _ h => h) (Or.inl ⟨by rfl, ?_⟩) ?_ ?_
                                          rotate_left
                                          · intro w'
                                            go_simp
                                            with_reducible rfl
                                          rotate_left
                                          · simp only [Act.put, List.setIfInBounds_toArray, List.set_cons_zero, List.set_cons_succ, i64_w, i32_w]
                                            rfl
                                          refine take_ (i := 4) (N := some 45) (v := ?_) (a' := ?_) #[true, true, true, true, true, false, false, true, true, true, false, false, false, false] rfl rfl (take_ofW HT_.out HW_.out (by kernel_rfl)) (fun _ _ _ h => h) (Or.inl ⟨by rfl, ?_⟩) hHeld ?_ ?_
                                          rotate_left
                                          · rintro w' ⟨s0, s1, s2, s3⟩
                                            go_simp
                                            with_reducible rfl
                                          rotate_left
                                          · simp only [Act.put, List.setIfInBounds_toArray, List.set_cons_zero, List.set_cons_succ, i64_w, i32_w]
                                            rfl
                                          refine pure_ (i := 5) (N := some 46) (v := ?_) (a' := ?_) #[true, true, true, true, true, true, false, true, true, true, false, false, false, false] rfl rfl (any_of HT_.out (by kernel_rfl)) (fun _ _ _ h => h) (Or.inl ⟨by rfl, ?_⟩) ?_ ?_
                                          rotate_left
                                          · intro w'
                                            go_simp
                                            with_reducible rfl
                                          rotate_left
                                          · simp only [Act.put, List.setIfInBounds_toArray, List.set_cons_zero, List.set_cons_succ, i64_w, i32_w]
                                            rfl
                                          refine take_ (i := 6) (N := some 47) (v := ?_) (a' := ?_) #[true, true, true, true, true, true, true, true, true, true, false, false, false, false] rfl rfl (take_ofW HT_.out HW_.out (by kernel_rfl)) (fun _ _ _ h => h) (Or.inl ⟨by rfl, ?_⟩) hHeld ?_ ?_
                                          rotate_left
                                          · rintro w' ⟨s0, s1, s2, s3⟩
                                            go_simp
                                            with_reducible rfl
                                          rotate_left
                                          · simp only [Act.put, List.setIfInBounds_toArray, List.set_cons_zero, List.set_cons_succ, i64_w, i32_w]
                                            rfl
                                          refine take_ (i := 10) (N := some 51) (v := ?_) (a' := ?_) #[true, true, true, true, true, true, true, true, true, true, true, false, false, false] rfl rfl (take_ofW HT_.out HW_.out (by kernel_rfl)) (fun _ _ _ h => h) (Or.inl ⟨by rfl, ?_⟩) hHeld ?_ ?_
                                          rotate_left
                                          · rintro w' ⟨s0, s1, s2, s3⟩
                                            go_simp
                                            with_reducible rfl
                                          rotate_left
                                          · simp only [Act.put, List.setIfInBounds_toArray, List.set_cons_zero, List.set_cons_succ, i64_w, i32_w]
                                            rfl
                                          refine pure_ (i := 11) (N := some 52) (v := ?_) (a' := ?_) #[true, true, true, true, true, true, true, true, true, true, true, true, false, false] rfl rfl (any_of HT_.out (by kernel_rfl)) (fun _ _ _ h => h) (Or.inl ⟨by rfl, ?_⟩) ?_ ?_
                                          rotate_left
                                          · intro w'
                                            go_simp
                                            with_reducible rfl
                                          rotate_left
                                          · simp only [Act.put, List.setIfInBounds_toArray, List.set_cons_zero, List.set_cons_succ, i64_w, i32_w]
                                            rfl
                                          refine pure_ (i := 12) (N := some 53) (v := ?_) (a' := ?_) #[true, true, true, true, true, true, true, true, true, true, true, true, true, false] rfl rfl (any_of HT_.out (by kernel_rfl)) (fun _ _ _ h => h) (Or.inl ⟨by rfl, ?_⟩) ?_ ?_
                                          rotate_left
                                          · intro w'
                                            go_simp
                                            with_reducible rfl
                                          rotate_left
                                          · simp only [Act.put, List.setIfInBounds_toArray, List.set_cons_zero, List.set_cons_succ, i64_w, i32_w]
                                            rfl
                                          refine pure_ (i := 13) (N := some 54) (v := ?_) (a' := ?_) #[true, true, true, true, true, true, true, true, true, true, true, true, true, true] rfl rfl (any_of HT_.out (by kernel_rfl)) (fun _ _ _ h => h) (Or.inl ⟨by rfl, ?_⟩) ?_ ?_
                                          rotate_left
                                          · intro w'
                                            go_simp
                                            with_reducible rfl
                                          rotate_left
                                          · simp only [Act.put, List.setIfInBounds_toArray, List.set_cons_zero, List.set_cons_succ, i64_w, i32_w]
                                            rfl
                                          refine done_ (done_of HT_.out (by kernel_rfl)) ?_
                                          try go_wp2
                                          have n0_ := Aside0.mk (Kd.R_drew HO_3.out)
                                          have n1_ := Aside0.mk (blk_drew BK103.out)
                                          have n2_ := Aside0.mk (blk_drew BK111.out)
                                          have n3_ := Aside0.mk (below_drew1 HB.out)
                                          clear HO_3
                                          clear BK103
                                          clear BK111
                                          clear HB
                                          have HO_3 := n0_
                                          have BK103 := n1_
                                          have BK111 := n2_
                                          have HB := n3_
                                          clear n0_ n1_ n2_ n3_
                                          have p116 : 0 ≤ (t112 : Int) := of_decide_eq_true (by first | (with_reducible assumption) | assumption)
                                          have q116 : t112 < (x3_3.length : Int) := of_decide_eq_true (by first | (with_reducible assumption) | assumption)
                                          obtain ⟨ad116, e116, hx116_0⟩ := Kd.at_int (Kd.R_reads' HO_3.out).2.2 t112 p116 q116
                                          obtain rfl : ad114 = ad116 := (by injection e116)
                                          replace p116 := eq_true p116
                                          replace q116 := eq_true q116
                                          have p117 : 0 ≤ (((rd_T35 l0_3 x32_3).f0) : Int) := of_decide_eq_true (by first | (with_reducible assumption) | assumption)
                                          have q117 : ((rd_T35 l0_3 x32_3).f0) < (x3_3.length : Int) := of_decide_eq_true (by first | (with_reducible assumption) | assumption)
                                          obtain ⟨ad117, e117, hx117_0⟩ := Kd.at_int (Kd.R_reads' HO_3.out).2.2 ((rd_T35 l0_3 x32_3).f0) p117 q117
                                          obtain rfl : ad114 = ad117 := (by injection e117)
                                          replace p117 := eq_true p117
                                          replace q117 := eq_true q117
                                          have p36 : 0 ≤ (t112 : Int) := of_decide_eq_true (by first | (with_reducible assumption) | assumption)
                                          have q36 : (t112 : Int) < ((x3_3.length : Int) : Int) := of_decide_eq_true (by first | (with_reducible assumption) | assumption)
                                          obtain ⟨go36, co36, eo36, gb36, gl36, cl36, HG36⟩ := Kd.R_form HO_3.out (by omega)
                                          (first | cases eo36 | (injection eo36 with ea_ en_ ec_; (first | subst ea_ | (injection ea_ with ea_; subst ea_)); subst ec_; clear en_))
                                          have GB36 := Aside0.mk gb36
                                          have GG36 := Aside0.mk HG36
                                          clear gb36 gl36 HG36
                                          (first | simp only [add_plain] at hx114_0 | skip)
                                          (first | simp only [add_plain] at hx115_0 | skip)
                                          (first | simp only [add_plain] at hx116_0 | skip)
                                          (first | simp only [add_plain] at hx117_0 | skip)
                                          obtain ⟨hx36_0, hf36_0⟩ := Kd.R_celln 0 HO_3.out (t112 : Int) p36 q36
                                          replace p36 := eq_true p36
                                          replace q36 := eq_true q36
                                          have HP43 := Kd.R_putn HO_3.out (t112 : Int) (Go.bits .or .u64 (rd x3_3 t112) (rd x3_3 ((rd_T35 l0_3 x32_3).f0)))
                                          rw [← Ny118.out] at HP43
                                          have HQ43 := Aside0.mk HP43
                                          clear HP43
                                          refine start_ (n := 12) (S := fun w' => w'.cell? ⟨gb111, 0, none⟩ = some (.int .i64 ((rd_T35 l0_3 x32_3).f0)) ∧ w'.cell? ⟨gb111, 1, none⟩ = some (.slice A110_1 ((rd_T35 l0_3 x32_3).f1).length c110_1) ∧ w'.cell? ⟨go36, (t112).toNat, none⟩ = some (.int .u64 (rd x3_3 t112)) ∧ w'.cell? ⟨go36, (((rd_T35 l0_3 x32_3).f0)).toNat, none⟩ = some (.int .u64 (rd x3_3 ((rd_T35 l0_3 x32_3).f0)))) (ds := [11]) #[false, false, false, false, false, false, false, false, false, false, false, false] (by kernel_rfl) rfl rfl ⟨(blk_cell BK111.out 0).trans rfl, (blk_cell BK111.out 1).trans rfl, hx116_0, hx117_0⟩ (fun hHeld => ?_); refine with_tabW gram_Above.tab17 gram_Above.bits17 (fun HT_ HW_ => ?_)
                                          generalize w41.drew = w42 at HO_3 BK103 BK111 HB GG36 HQ43 hf36_0 hx114_0 hx115_0 hx116_0 hx117_0 hx36_0 hHeld ⊢
                                          refine pure_ (i := 0) (N := some 55) (v := ?_) (a' := ?_) #[true, false, false, false, false, false, false, false, false, false, false, false] rfl rfl (any_of HT_.out (by kernel_rfl)) (fun _ _ _ h => h) (Or.inl ⟨by rfl, ?_⟩) ?_ ?_
                                          rotate_left
                                          · intro w'
                                            go_simp
                                            with_reducible rfl
                                          rotate_left
                                          · simp only [Act.put, List.setIfInBounds_toArray, List.set_cons_zero, List.set_cons_succ, i64_w, i32_w]
                                            rfl
                                          refine pure_ (i := 1) (N := some 56) (v := ?_) (a' := ?_) #[true, true, false, false, false, false, false, false, false, false, false, false] rfl rfl (any_of HT_.out (by kernel_rfl)) (fun _ _ _ h => h) (Or.inl ⟨by rfl, ?_⟩) ?_ ?_
                                          rotate_left
                                          · intro w'
                                            go_simp
                                            with_reducible rfl
                                          rotate_left
                                          · simp only [Act.put, List.setIfInBounds_toArray, List.set_cons_zero, List.set_cons_succ, i64_w, i32_w]
                                            rfl
                                          refine pure_ (i := 2) (N := some 57) (v := ?_) (a' := ?_) #[true, true, true, false, false, false, false, false, false, false, false, false] rfl rfl (any_of HT_.out (by kernel_rfl)) (fun _ _ _ h => h) (Or.inl ⟨by rfl, ?_⟩) ?_ ?_
                                          rotate_left
                                          · intro w'
                                            go_simp
                                            with_reducible rfl
                                          rotate_left
                                          · simp only [Act.put, List.setIfInBounds_toArray, List.set_cons_zero, List.set_cons_succ, i64_w, i32_w]
                                            rfl
                                          refine pure_ (i := 4) (N := some 59) (v := ?_) (a' := ?_) #[true, true, true, false, true, false, false, false, false, false, false, false] rfl rfl (any_of HT_.out (by kernel_rfl)) (fun _ _ _ h => h) (Or.inl ⟨by rfl, ?_⟩) ?_ ?_
                                          rotate_left
                                          · intro w'
                                            go_simp
                                            with_reducible rfl
                                          rotate_left
                                          · simp only [Act.put, List.setIfInBounds_toArray, List.set_cons_zero, List.set_cons_succ, i64_w, i32_w]
                                            rfl
                                          refine pure_ (i := 5) (N := some 60) (v := ?_) (a' := ?_) #[true, true, true, false, true, true, false, false, false, false, false, false] rfl rfl (any_of HT_.out (by kernel_rfl)) (fun _ _ _ h => h) (Or.inl ⟨by rfl, ?_⟩) ?_ ?_
                                          rotate_left
                                          · intro w'
                                            go_simp
                                            with_reducible rfl
                                          rotate_left
                                          · simp only [Act.put, List.setIfInBounds_toArray, List.set_cons_zero, List.set_cons_succ, i64_w, i32_w]
                                            rfl
                                          refine take_ (i := 3) (N := some 58) (v := ?_) (a' := ?_) #[true, true, true, true, true, true, false, false, false, false, false, false] rfl rfl (take_ofW HT_.out HW_.out (by kernel_rfl)) (fun _ _ _ h => h) (Or.inl ⟨by rfl, ?_⟩) hHeld ?_ ?_
                                          rotate_left
                                          · rintro w' ⟨s0, s1, s2, s3⟩
                                            go_simp
                                            with_reducible rfl
                                          rotate_left
                                          · simp only [Act.put, List.setIfInBounds_toArray, List.set_cons_zero, List.set_cons_succ, i64_w, i32_w]
                                            rfl
                                          refine take_ (i := 6) (N := some 61) (v := ?_) (a' := ?_) #[true, true, true, true, true, true, true, false, false, false, false, false] rfl rfl (take_ofW HT_.out HW_.out (by kernel_rfl)) (fun _ _ _ h => h) (Or.inl ⟨by rfl, ?_⟩) hHeld ?_ ?_
                                          rotate_left
                                          · rintro w' ⟨s0, s1, s2, s3⟩
                                            go_simp
                                            with_reducible rfl
                                          rotate_left
                                          · simp only [Act.put, List.setIfInBounds_toArray, List.set_cons_zero, List.set_cons_succ, i64_w, i32_w]
                                            rfl
                                          refine pure_ (i := 7) (N := some 62) (v := ?_) (a' := ?_) #[true, true, true, true, true, true, true, true, false, false, false, false] rfl rfl (any_of HT_.out (by kernel_rfl)) (fun _ _ _ h => h) (Or.inl ⟨by rfl, ?_⟩) ?_ ?_
                                          rotate_left
                                          · intro w'
                                            go_simp
                                            with_reducible rfl
                                          rotate_left
                                          · simp only [Act.put, List.setIfInBounds_toArray, List.set_cons_zero, List.set_cons_succ, i64_w, i32_w]
                                            rfl
                                          refine take_ (i := 8) (N := some 63) (v := ?_) (a' := ?_) #[true, true, true, true, true, true, true, true, true, false, false, false] rfl rfl (take_ofW HT_.out HW_.out (by kernel_rfl)) (fun _ _ _ h => h) (Or.inl ⟨by rfl, ?_⟩) hHeld ?_ ?_
                                          rotate_left
                                          · rintro w' ⟨s0, s1, s2, s3⟩
                                            go_simp
                                            with_reducible rfl
                                          rotate_left
                                          · simp only [Act.put, List.setIfInBounds_toArray, List.set_cons_zero, List.set_cons_succ, i64_w, i32_w]
                                            rfl
                                          refine pure_ (i := 9) (N := some 64) (v := ?_) (a' := ?_) #[true, true, true, true, true, true, true, true, true, true, false, false] rfl rfl (any_of HT_.out (by kernel_rfl)) (fun _ _ _ h => h) (Or.inl ⟨by rfl, ?_⟩) ?_ ?_
                                          rotate_left
                                          · intro w'
                                            go_simp
                                            with_reducible rfl
                                          rotate_left
                                          · simp only [Act.put, List.setIfInBounds_toArray, List.set_cons_zero, List.set_cons_succ, i64_w, i32_w]
                                            rfl
                                          refine pure_ (i := 10) (N := some 65) (v := ?_) (a' := ?_) #[true, true, true, true, true, true, true, true, true, true, true, false] rfl rfl (any_of HT_.out (by kernel_rfl)) (fun _ _ _ h => h) (Or.inl ⟨by rfl, ?_⟩) ?_ ?_
                                          rotate_left
                                          · intro w'
                                            go_simp
                                            with_reducible rfl
                                          rotate_left
                                          · simp only [Act.put, List.setIfInBounds_toArray, List.set_cons_zero, List.set_cons_succ, i64_w, i32_w]
                                            rfl
                                          refine last_ (i := 11) (N := none) #[true, true, true, true, true, true, true, true, true, true, true, true] rfl rfl (one_of HT_.out (by kernel_rfl)) (by decide) (fun K hK => ?_)
                                          refine skip_ (w1 := ?_) (by rfl) rfl ?_ ?_
                                          rotate_left
                                          · go_simp
                                            rfl
                                          refine hK.out _ _ ?_
                                          clear hK K
                                          refine done_ (done_of HT_.out (by kernel_rfl)) ?_
                                          try go_wp2
                                          (try simp only [← hl3_3])
                                          go_roundg k3
                                          case measure => have := HK1.out; have := HK2.out; have := HK3.out; omega
                                          case rel => exact ⟨(y118), (true), (wrap64 (x32_3 + 1)), (by first | rfl | (simp; done) | (simp [*]; done)), (by first | rfl | (simp; done) | (simp [*]; done)), H', ⟨by have := HK1.out; have := HK2.out; have := HK3.out; omega⟩, ⟨by (try simp only [hl3_1]); (try simp only [hl3_2]); (try simp only [hl3_3]); (with_reducible repeat (first | apply Kd.R_alloc | apply Kd.R_drewN | apply Kd.R_drew)); exact HQ43.out⟩, ⟨by (try simp only [hl3_1]); (try simp only [hl3_2]); (try simp only [hl3_3]); (with_reducible repeat (first | refine blk_drewN ?_ _ | refine blk_drew ?_ | refine blk_alloc ?_ _)); refine blk_far ?_ (by have h_ := Kd.R_ne HO_3.out BK103.out (by decide); intro e_; exact h_ (by rw [e_]; rfl)) _; (with_reducible repeat (first | refine blk_drewN ?_ _ | refine blk_drew ?_ | refine blk_alloc ?_ _)); exact BK103.out⟩, ⟨by repeat (first | (with_reducible first | exact HB.out | apply below_alloc | apply pw_below_drewN | apply below_drew1 | refine below_set ?_ GB36.out | refine below_set ?_ GE103.out | refine below_set ?_ GE111.out) | exact HB.out)⟩⟩
                                      · rw [if_neg c29] at H
                                        exact absurd H (by simp)
                                    · rw [if_neg c28] at H
                                      exact absurd H (by simp)
                                  · rw [if_neg c27] at H
                                    exact absurd H (by simp)
                                · rw [if_neg c26] at H
                                  exact absurd H (by simp)
                              · replace c25 := Bool.eq_false_iff.mpr c25
                                subst c25
                                have H1 : (gram_Above.l2 k3 x3_3 x5_3 l0_3 (l0_3.length : Int) (wrap64 (x32_3 + 1)) l0_0 l0_1 a0_2 l0_3) = some r := by rw [if_neg (show ¬ (false = true) by decide)] at H; exact H
                                clear H
                                have H := H1
                                clear H1
                                have H' := Aside0.mk H
                                clear H
                                have p110 : 0 ≤ (x32_3 : Int) := of_decide_eq_true (by first | (with_reducible assumption) | assumption)
                                have q110 : x32_3 < (l0_3.length : Int) := of_decide_eq_true (by first | (with_reducible assumption) | assumption)
                                obtain ⟨ad110, A110_1, c110_1, e110, hx110_0, hx110_1, hl110_1, hi110_1⟩ := at_T35 HR0_3.out x32_3 p110 q110
                                cases e110
                                replace hx110_0 := (HB.out.cell (World.block_lt_of_cell? w _ hx110_0)).trans hx110_0
                                replace hx110_1 := (HB.out.cell (World.block_lt_of_cell? w _ hx110_1)).trans hx110_1
                                have HR110_1 := Aside0.mk hi110_1
                                have HC110_1 := Aside0.mk hl110_1
                                clear hi110_1 hl110_1
                                replace p110 := eq_true p110
                                replace q110 := eq_true q110
                                try go_wp2_with (first | ((with_reducible refine gate_dst (N := 7) rfl ?_); refine box_event ?hg (N := 7) ?hd (cs := #[.int .i64 0, .slice none 0 0]) (t := 35) ?hr ?_; (case hd => rfl); (case hg => rfl); (case hr => first | (go_simp; done) | (go_simp; rfl)); intro gb111 hg w44 hbox hb; have n0_ := Aside0.mk (Kd.R_below (by (with_reducible repeat (first | apply Kd.R_alloc | apply Kd.R_drewN | apply Kd.R_drew)); exact HO_3.out) hb); have n1_ := Aside0.mk (blk_below (g := gb103) (o := .cells #[.slice A0_0 l0_0.length c0_0, .slice A0_1 l0_1.length c0_1, .int .i64 a0_2, .slice (some ad110) l0_3.length c0_3] 25 (0, 0)) (by (with_reducible repeat (first | refine blk_drewN ?_ _ | refine blk_drew ?_ | refine blk_alloc ?_ _)); exact BK103.out) hb); have n2_ := Aside0.mk (below_step (by repeat (first | (with_reducible first | exact HB.out | apply below_alloc | apply pw_below_drewN | apply below_drew1 | refine below_set ?_ GE103.out) | exact HB.out)) hb); have n3_ := Aside0.mk (hbox); have n4_ := Aside0.mk ((by rw [hg]; exact (below_size (by repeat (first | (with_reducible first | exact HB.out | apply below_alloc | apply pw_below_drewN | apply below_drew1 | refine below_set ?_ GE103.out) | exact HB.out))) : w.heap.size ≤ gb111)); have n5_ := Aside0.mk ((by rw [hg]; exact (below_size (by repeat (first | (with_reducible first | exact HB.out | apply below_alloc | apply pw_below_drewN | apply below_drew1 | refine below_set ?_ GE103.out) | exact HB.out))) : w.heap.size ≤ gb111)); have n6_ := Aside0.mk ((by rw [hg]; exact Nat.ne_of_lt (blk_lt (g := gb103) (o := .cells #[.slice A0_0 l0_0.length c0_0, .slice A0_1 l0_1.length c0_1, .int .i64 a0_2, .slice (some ad110) l0_3.length c0_3] 25 (0, 0)) (by (with_reducible repeat (first | refine blk_drewN ?_ _ | refine blk_drew ?_ | refine blk_alloc ?_ _)); exact BK103.out)) : gb103 ≠ gb111)); have n7_ := Aside0.mk ((by rw [hg]; exact Nat.ne_of_gt (blk_lt (g := gb103) (o := .cells #[.slice A0_0 l0_0.length c0_0, .slice A0_1 l0_1.length c0_1, .int .i64 a0_2, .slice (some ad110) l0_3.length c0_3] 25 (0, 0)) (by (with_reducible repeat (first | refine blk_drewN ?_ _ | refine blk_drew ?_ | refine blk_alloc ?_ _)); exact BK103.out)) : gb111 ≠ gb103)); clear HO_3; clear BK103; clear HB; have HO_3 := n0_; have BK103 := n1_; have HB := n2_; have BK111 := n3_; have GW111 := n4_; have GE111 := n5_; have NB103_111 := n6_; have NB111_103 := n7_; clear n0_ n1_ n2_ n3_ n4_ n5_ n6_ n7_; clear hb hbox hg; have hnb45 := NB111_103.out; have hnc45 := NB103_111.out; have hcz46_0 : w44.cell? ⟨gb111, 0, none⟩ = some (.int .i64 0) := (blk_cell BK111.out 0).trans rfl; have hcz46_1 : w44.cell? ⟨gb111, 1, none⟩ = some (.slice none 0 0) := (blk_cell BK111.out 1).trans rfl; have hfz46_0 := blk_frozen BK111.out 0; have hfz46_1 := blk_frozen BK111.out 1) | ((with_reducible refine gate_callee (f := 21) rfl ?_); refine goesL_ (some 38) rfl rfl Tryd.func21 (by kernel_rfl) rfl #[.agg #[.int .i64 ((rd_T35 l0_3 x32_3).f0), .slice A110_1 ((rd_T35 l0_3 x32_3).f1).length c110_1]] rfl (by (try simp only [List.map_toArray, List.map_cons, List.map_nil]); first | done | rfl | (simp only [List.length_drop, List.length_take]; rfl)) ?_; (with_reducible refine (gram_Renaming.calls ((rd_T35 l0_3 x32_3).f0) _ _ ((rd_T35 l0_3 x32_3).f1) t112 false _ ?side1 ?side2 A24.out).mono ?_); (case side1 => exact Kd.C_below HR110_1.out (by repeat (first | (with_reducible first | exact HB.out | apply below_alloc | apply pw_below_drewN | apply below_drew1 | refine below_set ?_ GE103.out | refine below_set ?_ GE111.out) | exact HB.out))); (case side2 => exact HC110_1.out); rintro e w47 ⟨rfl, hb⟩; refine ⟨_, rfl, ?_⟩; have n0_ := Aside0.mk (Kd.R_below (by (with_reducible repeat (first | apply Kd.R_alloc | apply Kd.R_drewN | apply Kd.R_drew)); exact (Kd.R_mono (Kd.R_far (p := ⟨gb111, 1, none⟩) (Kd.R_far (p := ⟨gb111, 0, none⟩) (Kd.R_types HO_3.out BK111.out (by decide)) (fun _ hk => hk.2) (.int .i64 ((rd_T35 l0_3 x32_3).f0))) (fun _ hk => hk.2) (.slice A110_1 ((rd_T35 l0_3 x32_3).f1).length c110_1)) (fun _ h_ => h_.1))) hb); have n1_ := Aside0.mk (blk_below (g := gb103) (o := .cells #[.slice A0_0 l0_0.length c0_0, .slice A0_1 l0_1.length c0_1, .int .i64 a0_2, .slice (some ad110) l0_3.length c0_3] 25 (0, 0)) (by (with_reducible repeat (first | refine blk_drewN ?_ _ | refine blk_drew ?_ | refine blk_alloc ?_ _)); refine blk_far ?_ NB103_111.out _; (with_reducible repeat (first | refine blk_drewN ?_ _ | refine blk_drew ?_ | refine blk_alloc ?_ _)); refine blk_far ?_ NB103_111.out _; (with_reducible repeat (first | refine blk_drewN ?_ _ | refine blk_drew ?_ | refine blk_alloc ?_ _)); exact BK103.out) hb); have n2_ := Aside0.mk (blk_below (g := gb111) (o := .cells #[.int .i64 ((rd_T35 l0_3 x32_3).f0), .slice A110_1 ((rd_T35 l0_3 x32_3).f1).length c110_1] 35 (0, 0)) (by (with_reducible repeat (first | refine blk_drewN ?_ _ | refine blk_drew ?_ | refine blk_alloc ?_ _)); refine blk_put (cs := #[.int .i64 ((rd_T35 l0_3 x32_3).f0), .slice none 0 0]) ?_ 1 _ rfl; (with_reducible repeat (first | refine blk_drewN ?_ _ | refine blk_drew ?_ | refine blk_alloc ?_ _)); refine blk_put (cs := #[.int .i64 0, .slice none 0 0]) ?_ 0 _ rfl; (with_reducible repeat (first | refine blk_drewN ?_ _ | refine blk_drew ?_ | refine blk_alloc ?_ _)); exact BK111.out) hb); have n3_ := Aside0.mk (below_step (by repeat (first | (with_reducible first | exact HB.out | apply below_alloc | apply pw_below_drewN | apply below_drew1 | refine below_set ?_ GE103.out | refine below_set ?_ GE111.out) | exact HB.out)) hb); clear HO_3; clear BK103; clear BK111; clear HB; have HO_3 := n0_; have BK103 := n1_; have BK111 := n2_; have HB := n3_; clear n0_ n1_ n2_ n3_; (try clear hb); (try clear hb2); (try clear hk); (try clear hi)))
                                have n0_ := Aside0.mk (Kd.R_drew HO_3.out)
                                have n1_ := Aside0.mk (blk_drew BK103.out)
                                have n2_ := Aside0.mk (blk_drew BK111.out)
                                have n3_ := Aside0.mk (below_drew1 HB.out)
                                clear HO_3
                                clear BK103
                                clear BK111
                                clear HB
                                have HO_3 := n0_
                                have BK103 := n1_
                                have BK111 := n2_
                                have HB := n3_
                                clear n0_ n1_ n2_ n3_
                                refine start_ (n := 14) (S := fun w' => True) (ds := []) #[false, false, false, false, false, false, false, false, false, false, false, false, false, false] (by kernel_rfl) rfl rfl trivial (fun hHeld => ?_); refine with_tabW gram_Above.tab16 gram_Above.bits16 (fun HT_ HW_ => ?_)
                                generalize w47.drew = w48 at HO_3 BK103 BK111 HB hHeld ⊢
                                refine pure_ (i := 0) (N := some 41) (v := ?_) (a' := ?_) #[true, false, false, false, false, false, false, false, false, false, false, false, false, false] rfl rfl (any_of HT_.out (by kernel_rfl)) (fun _ _ _ h => h) (Or.inl ⟨by rfl, ?_⟩) ?_ ?_
                                rotate_left
                                · intro w'
                                  go_simp
                                  with_reducible rfl
                                rotate_left
                                · simp only [Act.put, List.setIfInBounds_toArray, List.set_cons_zero, List.set_cons_succ, i64_w, i32_w]
                                  rfl
                                refine pure_ (i := 1) (N := some 42) (v := ?_) (a' := ?_) #[true, true, false, false, false, false, false, false, false, false, false, false, false, false] rfl rfl (any_of HT_.out (by kernel_rfl)) (fun _ _ _ h => h) (Or.inl ⟨by rfl, ?_⟩) ?_ ?_
                                rotate_left
                                · intro w'
                                  go_simp
                                  with_reducible rfl
                                rotate_left
                                · simp only [Act.put, List.setIfInBounds_toArray, List.set_cons_zero, List.set_cons_succ, i64_w, i32_w]
                                  rfl
                                refine pure_ (i := 2) (N := some 43) (v := undef) (a' := ?_) #[true, true, true, false, false, false, false, false, false, false, false, false, false, false] rfl rfl (any_of HT_.out (by kernel_rfl)) (fun _ _ _ h => h) (Or.inr ⟨by rfl, rfl⟩) ?_ ?_
                                rotate_left
                                · simp only [Act.put, List.setIfInBounds_toArray, List.set_cons_zero, List.set_cons_succ, i64_w, i32_w]
                                  rfl
                                refine pure_ (i := 3) (N := some 44) (v := undef) (a' := ?_) #[true, true, true, true, false, false, false, false, false, false, false, false, false, false] rfl rfl (any_of HT_.out (by kernel_rfl)) (fun _ _ _ h => h) (Or.inr ⟨by rfl, rfl⟩) ?_ ?_
                                rotate_left
                                · simp only [Act.put, List.setIfInBounds_toArray, List.set_cons_zero, List.set_cons_succ, i64_w, i32_w]
                                  rfl
                                refine pure_ (i := 4) (N := some 45) (v := undef) (a' := ?_) #[true, true, true, true, true, false, false, false, false, false, false, false, false, false] rfl rfl (any_of HT_.out (by kernel_rfl)) (fun _ _ _ h => h) (Or.inr ⟨by rfl, rfl⟩) ?_ ?_
                                rotate_left
                                · simp only [Act.put, List.setIfInBounds_toArray, List.set_cons_zero, List.set_cons_succ, i64_w, i32_w]
                                  rfl
                                refine pure_ (i := 5) (N := some 46) (v := undef) (a' := ?_) #[true, true, true, true, true, true, false, false, false, false, false, false, false, false] rfl rfl (any_of HT_.out (by kernel_rfl)) (fun _ _ _ h => h) (Or.inr ⟨by rfl, rfl⟩) ?_ ?_
                                rotate_left
                                · simp only [Act.put, List.setIfInBounds_toArray, List.set_cons_zero, List.set_cons_succ, i64_w, i32_w]
                                  rfl
                                refine pure_ (i := 6) (N := some 47) (v := undef) (a' := ?_) #[true, true, true, true, true, true, true, false, false, false, false, false, false, false] rfl rfl (any_of HT_.out (by kernel_rfl)) (fun _ _ _ h => h) (Or.inr ⟨by rfl, rfl⟩) ?_ ?_
                                rotate_left
                                · simp only [Act.put, List.setIfInBounds_toArray, List.set_cons_zero, List.set_cons_succ, i64_w, i32_w]
                                  rfl
                                refine pure_ (i := 7) (N := some 48) (v := undef) (a' := ?_) #[true, true, true, true, true, true, true, true, false, false, false, false, false, false] rfl rfl (any_of HT_.out (by kernel_rfl)) (fun _ _ _ h => h) (Or.inr ⟨by rfl, rfl⟩) ?_ ?_
                                rotate_left
                                · simp only [Act.put, List.setIfInBounds_toArray, List.set_cons_zero, List.set_cons_succ, i64_w, i32_w]
                                  rfl
                                refine pure_ (i := 8) (N := some 49) (v := undef) (a' := ?_) #[true, true, true, true, true, true, true, true, true, false, false, false, false, false] rfl rfl (any_of HT_.out (by kernel_rfl)) (fun _ _ _ h => h) (Or.inr ⟨by rfl, rfl⟩) ?_ ?_
                                rotate_left
                                · simp only [Act.put, List.setIfInBounds_toArray, List.set_cons_zero, List.set_cons_succ, i64_w, i32_w]
                                  rfl
                                refine pure_ (i := 9) (N := some 50) (v := undef) (a' := ?_) #[true, true, true, true, true, true, true, true, true, true, false, false, false, false] rfl rfl (any_of HT_.out (by kernel_rfl)) (fun _ _ _ h => h) (Or.inr ⟨by rfl, rfl⟩) ?_ ?_
                                rotate_left
                                · simp only [Act.put, List.setIfInBounds_toArray, List.set_cons_zero, List.set_cons_succ, i64_w, i32_w]
                                  rfl
                                refine pure_ (i := 10) (N := some 51) (v := undef) (a' := ?_) #[true, true, true, true, true, true, true, true, true, true, true, false, false, false] rfl rfl (any_of HT_.out (by kernel_rfl)) (fun _ _ _ h => h) (Or.inr ⟨by rfl, rfl⟩) ?_ ?_
                                rotate_left
                                · simp only [Act.put, List.setIfInBounds_toArray, List.set_cons_zero, List.set_cons_succ, i64_w, i32_w]
                                  rfl
                                refine pure_ (i := 11) (N := some 52) (v := undef) (a' := ?_) #[true, true, true, true, true, true, true, true, true, true, true, true, false, false] rfl rfl (any_of HT_.out (by kernel_rfl)) (fun _ _ _ h => h) (Or.inr ⟨by rfl, rfl⟩) ?_ ?_
                                rotate_left
                                · simp only [Act.put, List.setIfInBounds_toArray, List.set_cons_zero, List.set_cons_succ, i64_w, i32_w]
                                  rfl
                                refine pure_ (i := 12) (N := some 53) (v := undef) (a' := ?_) #[true, true, true, true, true, true, true, true, true, true, true, true, true, false] rfl rfl (any_of HT_.out (by kernel_rfl)) (fun _ _ _ h => h) (Or.inr ⟨by rfl, rfl⟩) ?_ ?_
                                rotate_left
                                · simp only [Act.put, List.setIfInBounds_toArray, List.set_cons_zero, List.set_cons_succ, i64_w, i32_w]
                                  rfl
                                refine pure_ (i := 13) (N := some 54) (v := ?_) (a' := ?_) #[true, true, true, true, true, true, true, true, true, true, true, true, true, true] rfl rfl (any_of HT_.out (by kernel_rfl)) (fun _ _ _ h => h) (Or.inl ⟨by rfl, ?_⟩) ?_ ?_
                                rotate_left
                                · intro w'
                                  go_simp
                                  with_reducible rfl
                                rotate_left
                                · simp only [Act.put, List.setIfInBounds_toArray, List.set_cons_zero, List.set_cons_succ, i64_w, i32_w]
                                  rfl
                                refine done_ (done_of HT_.out (by kernel_rfl)) ?_
                                try go_wp2
                                (try simp only [← hl3_3])
                                go_roundg k3
                                case measure => have := HK1.out; have := HK2.out; have := HK3.out; omega
                                case rel => exact ⟨(x3_3), (x5_3), (wrap64 (x32_3 + 1)), (by first | rfl | (simp; done) | (simp [*]; done)), (by first | rfl | (simp; done) | (simp [*]; done)), H', ⟨by have := HK1.out; have := HK2.out; have := HK3.out; omega⟩, ⟨by (try simp only [hl3_1]); (try simp only [hl3_2]); (try simp only [hl3_3]); (with_reducible repeat (first | apply Kd.R_alloc | apply Kd.R_drewN | apply Kd.R_drew)); exact HO_3.out⟩, ⟨by (try simp only [hl3_1]); (try simp only [hl3_2]); (try simp only [hl3_3]); (with_reducible repeat (first | refine blk_drewN ?_ _ | refine blk_drew ?_ | refine blk_alloc ?_ _)); exact BK103.out⟩, ⟨by repeat (first | (with_reducible first | exact HB.out | apply below_alloc | apply pw_below_drewN | apply below_drew1 | refine below_set ?_ GE103.out | refine below_set ?_ GE111.out) | exact HB.out)⟩⟩
                            · rw [if_neg c23] at H
                              exact absurd H (by simp)
                          · rw [if_neg c22] at H
                            exact absurd H (by simp)
                        · rw [if_neg c21] at H
                          have c21b0 : decide (x32_3 < (l0_3.length : Int)) = false := decide_eq_false c21
                          clear c21
                          have H' := Aside0.mk H
                          clear H
                          go_wp2
                          (try simp only [← hl3_2, ← hl3_3])
                          go_roundg k3
                          case measure => have := HK1.out; have := HK2.out; have := HK3.out; omega
                          case rel => exact ⟨(x3_3), (x5_3), (by first | rfl | (simp; done) | (simp [*]; done)), H', ⟨by have := HK1.out; have := HK2.out; have := HK3.out; omega⟩, ⟨by (try simp only [hl3_1]); (try simp only [hl3_2]); (try simp only [hl3_3]); (with_reducible repeat (first | apply Kd.R_alloc | apply Kd.R_drewN | apply Kd.R_drew)); exact HO_3.out⟩, ⟨by (try simp only [hl3_1]); (try simp only [hl3_2]); (try simp only [hl3_3]); (with_reducible repeat (first | refine blk_drewN ?_ _ | refine blk_drew ?_ | refine blk_alloc ?_ _)); exact BK103.out⟩, ⟨by repeat (first | (with_reducible first | exact HB.out | apply below_alloc | apply pw_below_drewN | apply below_drew1 | refine below_set ?_ GE103.out) | exact HB.out)⟩⟩
                  · replace c19 := Bool.eq_false_iff.mpr c19
                    subst c19
                    have H1 : (some x3_2) = some r := by rw [if_neg (show ¬ (false = true) by decide)] at H; exact H
                    clear H
                    have H := H1
                    clear H1
                    obtain rfl := Option.some.inj H
                    go_wp2
                    go_ret
                    exact ⟨_, by first | rfl | (simp [errW_none, errW_some] <;> rfl) | (simp [*, errW_none, errW_some] <;> rfl), by (with_reducible repeat (first | apply Kd.R_alloc | apply Kd.R_drewN | apply Kd.R_drew)); exact HO_3.out, by repeat (first | (with_reducible first | exact HB.out | apply below_alloc | apply pw_below_drewN | apply below_drew1 | refine below_set ?_ GE103.out) | exact HB.out)⟩
      · rw [if_neg c4] at H
        exact absurd H (by simp)
    · rw [if_neg c3] at H
      exact absurd H (by simp)
  · have H1 : (some ([] : List Int)) = some r := by rw [if_neg (show ¬ (some q105).isNone = true by simp)] at H; exact H
    clear H
    have H := H1
    clear H1
    try simp only [errW_none, errW_some]
    obtain rfl := Option.some.inj H
    go_enter Tryd.func23, Tryd.ntmps23
    go_wp2_with (first | ((with_reducible refine gate_dst (N := 1) rfl ?_); refine box_event ?hg (N := 1) ?hd (cs := #[.slice A0_0 l0_0.length c0_0, .slice A0_1 l0_1.length c0_1, .int .i64 a0_2, .slice A0_3 l0_3.length c0_3]) (t := 25) ?hr ?_; (case hd => rfl); (case hg => rfl); (case hr => first | (go_simp; done) | (go_simp; rfl)); intro gb103 hg w49 hbox hb; have n0_ := Aside0.mk (below_step (by repeat (first | (with_reducible first | exact HB.out | apply below_alloc | apply pw_below_drewN | apply below_drew1) | exact HB.out)) hb); have n1_ := Aside0.mk (hbox); have n2_ := Aside0.mk ((by rw [hg]; exact (below_size (by repeat (first | (with_reducible first | exact HB.out | apply below_alloc | apply pw_below_drewN | apply below_drew1) | exact HB.out))) : w.heap.size ≤ gb103)); have n3_ := Aside0.mk ((by rw [hg]; exact (below_size (by repeat (first | (with_reducible first | exact HB.out | apply below_alloc | apply pw_below_drewN | apply below_drew1) | exact HB.out))) : w.heap.size ≤ gb103)); clear HB; have HB := n0_; have BK103 := n1_; have GW103 := n2_; have GE103 := n3_; clear n0_ n1_ n2_ n3_; clear hb hbox hg; have hcz50_0 : w49.cell? ⟨gb103, 0, none⟩ = some (.slice A0_0 l0_0.length c0_0) := (blk_cell BK103.out 0).trans rfl; have hcz50_1 : w49.cell? ⟨gb103, 1, none⟩ = some (.slice A0_1 l0_1.length c0_1) := (blk_cell BK103.out 1).trans rfl; have hcz50_2 : w49.cell? ⟨gb103, 2, none⟩ = some (.int .i64 a0_2) := (blk_cell BK103.out 2).trans rfl; have hcz50_3 : w49.cell? ⟨gb103, 3, none⟩ = some (.slice A0_3 l0_3.length c0_3) := (blk_cell BK103.out 3).trans rfl; have hfz50_0 := blk_frozen BK103.out 0; have hfz50_1 := blk_frozen BK103.out 1; have hfz50_2 := blk_frozen BK103.out 2; have hfz50_3 := blk_frozen BK103.out 3) | ((with_reducible refine gate_callee (f := 28) rfl ?_); refine goesL_ (some 11) rfl rfl Tryd.func28 (by kernel_rfl) rfl #[.agg #[.slice A0_0 l0_0.length c0_0, .slice A0_1 l0_1.length c0_1, .int .i64 a0_2, .slice A0_3 l0_3.length c0_3]] rfl (by (try simp only [List.map_toArray, List.map_cons, List.map_nil]); first | done | rfl | (simp only [List.length_drop, List.length_take]; rfl)) ?_; (with_reducible refine (gram_Check.calls k _ _ l0_0 _ _ l0_1 a0_2 _ _ l0_3 (some q105) _ ?side1 ?side2 ?side3 ?side4 ?side5 ?side6 A2.out).mono ?_); (case side1 => repeat (first | exact (Kd.C_below HR0_0.out HB.out) | (with_reducible refine Kd.C_alloc ?_ _) | (with_reducible refine Kd.C_drewN ?_ _) | (with_reducible refine Kd.C_drew ?_))); (case side2 => exact HC0_0.out); (case side3 => repeat (first | exact (Kd.C_below HR0_1.out HB.out) | (with_reducible refine Kd.C_alloc ?_ _) | (with_reducible refine Kd.C_drewN ?_ _) | (with_reducible refine Kd.C_drew ?_))); (case side4 => exact HC0_1.out); (case side5 => repeat (first | exact (Kd.C_below HR0_3.out HB.out) | (with_reducible refine Kd.C_alloc ?_ _) | (with_reducible refine Kd.C_drewN ?_ _) | (with_reducible refine Kd.C_drew ?_))); (case side6 => exact HC0_3.out); rintro e w51 ⟨rfl, hb⟩; refine ⟨_, rfl, ?_⟩; have n0_ := Aside0.mk (blk_below (g := gb103) (o := .cells #[.slice A0_0 l0_0.length c0_0, .slice A0_1 l0_1.length c0_1, .int .i64 a0_2, .slice A0_3 l0_3.length c0_3] 25 (0, 0)) (by (with_reducible repeat (first | refine blk_drewN ?_ _ | refine blk_drew ?_ | refine blk_alloc ?_ _)); exact BK103.out) hb); have n1_ := Aside0.mk (below_step (by repeat (first | (with_reducible first | exact HB.out | apply below_alloc | apply pw_below_drewN | apply below_drew1 | refine below_set ?_ GE103.out) | exact HB.out)) hb); clear BK103; clear HB; have BK103 := n0_; have HB := n1_; clear n0_ n1_; (try clear hb); (try clear hb2); (try clear hk); (try clear hi); (try simp only [errW_none, errW_some])))
    go_ret
    exact ⟨_, by first | rfl | (simp [errW_none, errW_some] <;> rfl) | (simp [*, errW_none, errW_some] <;> rfl), by first | exact Kd.R_nil _ _ _ _ _ | exact Kd.N_nil _ _ _ _ _ | exact Kd.V_nil _ _ _ _ _ | exact Kd.Q_nil _ _ _ _ _ | exact Kd.S_nil _ _ _ _ _, by repeat (first | (with_reducible first | exact HB.out | apply below_alloc | apply pw_below_drewN | apply below_drew1 | refine below_set ?_ GE103.out) | exact HB.out)⟩

end Go.Proofs.YteaiejippkikpaaDoor.B
