/- gram.Check: what it answers, whatever the grammar. -/
import Derived.Test.YteaiejippkikpaaDoorGramCo
set_option linter.unusedVariables false
set_option linter.unusedSimpArgs false
namespace Go.Proofs.YteaiejippkikpaaDoor.B
open Go.RowKit Go.Proofs.YteaiejippkikpaaDoorW.PrintWords Go.Proofs.YteaiejippkikpaaDoorW.PrintLast Go.Proofs.YteaiejippkikpaaDoorW.PrintMore

/-- The sentinels that Check tells lie; ad: to what each points, by its number. -/
def Sents (ad : Int → Addr) (w : World) : Prop := w.cell? ⟨0, 0, none⟩ = some (.iface 185 (.pointer (some (ad 3)))) ∧ w.cell? ⟨1, 0, none⟩ = some (.iface 185 (.pointer (some (ad 10)))) ∧ w.cell? ⟨2, 0, none⟩ = some (.iface 185 (.pointer (some (ad 1))))
theorem Sents.below {ad : Int → Addr} {w w' : World} (h : Sents ad w) (hb : Below w.heap.size w w') : Sents ad w' :=
  ⟨(hb.cell (World.block_lt_of_cell? w _ h.1)).trans h.1, (hb.cell (World.block_lt_of_cell? w _ h.2.1)).trans h.2.1, (hb.cell (World.block_lt_of_cell? w _ h.2.2)).trans h.2.2⟩
/-- What is wrong of a rule: the error's number. -/
def checkR (t n : Nat) (x : S35) : Int := if 32 < x.f1.length then 3 else if x.f0 < 0 ∨ (n : Int) ≤ x.f0 ∨ x.f1.any (outS t n) = true then 1 else 0
/-- The first wrong rule, and what is wrong of it. -/
def chkRs (t n : Nat) : List S35 → Nat → Int × Int
  | [], _ => (0, -1)
  | x :: l, j => if checkR t n x = 0 then chkRs t n l (j + 1) else (checkR t n x, (j : Int))
theorem chkRs_drop (t n : Nat) (R : List S35) (j : Nat) (h : j < R.length) : chkRs t n (R.drop j) j = if checkR t n R[j] = 0 then chkRs t n (R.drop (j + 1)) (j + 1) else (checkR t n R[j], (j : Int)) := by
  rw [List.drop_eq_getElem_cons h, chkRs]
/-- What Check tells: the error's number, and the rule's. -/
def chk (b0 b1 : Bool) (l0 l1 : Nat) (a2 : Int) (R : List S35) : Int × Int :=
  if 60 < l0 + l1 ∨ 120 < R.length then (3, -1) else if (b0 && b1) = false then (10, -1) else if a2 < 0 ∨ (l1 : Int) ≤ a2 then (1, -1) else chkRs l0 l1 R 0
theorem checkR_cases (t n : Nat) (x : S35) : checkR t n x = 0 ∧ okR t n x = true ∨ (checkR t n x = 3 ∨ checkR t n x = 1) ∧ okR t n x = false := by
  unfold checkR okR
  by_cases c1 : 32 < x.f1.length
  · rw [if_pos c1]; right; simp; omega
  · rw [if_neg c1]
    by_cases c2 : x.f0 < 0 ∨ (n : Int) ≤ x.f0 ∨ x.f1.any (outS t n) = true
    · rw [if_pos c2]; right
      refine ⟨.inr rfl, ?_⟩
      rcases c2 with c | c | c
      · simp [show ¬ (0 ≤ x.f0) from by omega]
      · simp [show ¬ (x.f0 < (n : Int)) from by omega]
      · simp [c]
    · rw [if_neg c2]; left
      simp only [not_or, Bool.not_eq_true] at c2
      refine ⟨rfl, ?_⟩
      simp [c2.2.2, show x.f1.length ≤ 32 from by omega, show 0 ≤ x.f0 from by omega, show x.f0 < (n : Int) from by omega]
/-- An error value: none, a sentinel, a rule's. -/
def ErrV (ad : Int → Addr) (w : World) (v : Value) (p : Int × Int) : Prop :=
  (p.1 = 0 ∧ p.2 = -1 ∧ v = .nilIface) ∨ ((p.1 = 3 ∨ p.1 = 10 ∨ p.1 = 1) ∧ p.2 = -1 ∧ v = .iface 185 (.pointer (some (ad p.1)))) ∨
  ((p.1 = 3 ∨ p.1 = 1) ∧ 0 ≤ p.2 ∧ p.2 < 120 ∧ ∃ b, v = .iface 103 (.pointer (some ⟨b, 0, none⟩)) ∧ w.heap[b]? = some (.cells #[.int .i64 p.2, .iface 185 (.pointer (some (ad p.1)))] 105 (0, 0)))
def CheckPost (ad : Int → Addr) (w : World) (p : Int × Int) (e : Ending) (w' : World) : Prop := (∃ v, e = .returned v ∧ ErrV ad w' v p) ∧ Below w.heap.size w w'
theorem ErrV.nil {ad : Int → Addr} {w : World} {v : Value} {p : Int × Int} (h : ErrV ad w v p) (h0 : p.1 = 0) : v = .nilIface := by
  rcases h with h | h | h
  · exact h.2.2
  · rcases h.1 with h | h | h <;> omega
  · rcases h.1 with h | h <;> omega
theorem ErrV.some {ad : Int → Addr} {w : World} {v : Value} {p : Int × Int} (h : ErrV ad w v p) (h0 : p.1 ≠ 0) : ∃ t u, v = .iface t u := by
  rcases h with h | h | h
  · exact absurd h.1 h0
  · exact ⟨_, _, h.2.2⟩
  · obtain ⟨_, _, _, b, h, _⟩ := h; exact ⟨_, _, h⟩
theorem ErrV.below {ad : Int → Addr} {w w' : World} {v : Value} {p : Int × Int} (h : ErrV ad w v p) (hb : Below w.heap.size w w') : ErrV ad w' v p := by
  rcases h with h | h | ⟨h1, h2, h3, b, hv, hx⟩
  · exact .inl h
  · exact .inr (.inl h)
  · exact .inr (.inr ⟨h1, h2, h3, b, hv, Box.below (W := w) (W' := w') hx hb⟩)
/-- What a rule's look answers. -/
def ruleV (ad : Int → Addr) (c : Int) : Value := if c = 0 then .nilIface else .iface 185 (.pointer (some (ad c)))

set_option maxHeartbeats 1000000 in
set_option maxRecDepth 100000 in
theorem Rule_full (ad : Int → Addr) (A0 : Option Addr) (c0 t : Nat) (A1 : Option Addr) (c1 n : Nat) (a2 : Int) (v3 : Value) (x : S35) (A : Option Addr) (c : Nat) (w : World) (hg : Sents ad w) (ht : t ≤ 60) (hn : n ≤ 60) (hr : Kd.C (Kd.int .i64) w A x.f1.length x.f1) (hc : x.f1.length ≤ c) :
    Calls Tryd.prog 67 #[.agg #[.slice A0 t c0, .slice A1 n c1, .int .i64 a2, v3], .agg #[.int .i64 x.f0, .slice A x.f1.length c]] w fun e w' => e = .returned (ruleV ad (checkR t n x)) ∧ Below w.heap.size w w' := by
  obtain ⟨x0, x1⟩ := x
  dsimp only at hr hc ⊢
  have hB1 := (Box.new w #[.slice A0 t c0, .slice A1 n c1, .int .i64 a2, v3] 25).alloc (.cells #[.int .i64 x0, .slice A x1.length c] 35)
  have hb : Below w.heap.size w ((w.alloc (.cells #[.slice A0 t c0, .slice A1 n c1, .int .i64 a2, v3] 25)).alloc (.cells #[.int .i64 x0, .slice A x1.length c] 35)) := ((Below.refl _ w).alloc (Nat.le_refl _) _).alloc (by simp) _
  have hcall := ContS_calls A x1 c w.heap.size t n c0 c1 A0 A1 _ ht hn (hB1.cell 0 _ rfl) (hB1.cell 1 _ rfl) (Kd.C_below hr hb) hc
  obtain ⟨h0, h1, h2⟩ := hg.below hb
  have HB := Aside0.mk hb
  have H0 : ∀ w', Below ((w.alloc (.cells #[.slice A0 t c0, .slice A1 n c1, .int .i64 a2, v3] 25)).alloc (.cells #[.int .i64 x0, .slice A x1.length c] 35)).heap.size ((w.alloc (.cells #[.slice A0 t c0, .slice A1 n c1, .int .i64 a2, v3] 25)).alloc (.cells #[.int .i64 x0, .slice A x1.length c] 35)) w' → w'.cell? ⟨2, 0, none⟩ = some (.iface 185 (.pointer (some (ad 1)))) := fun w' hb' => (hb'.cell (World.block_lt_of_cell? _ _ h2)).trans h2
  by_cases k1 : x1.length ≤ 32
  · have b1 : decide ((32 : Int) < x1.length) = false := decide_eq_false (by omega)
    have b1' : decide (32 < x1.length) = false := decide_eq_false (by omega)
    by_cases k2 : x0 < 0
    · have b2 : decide (x0 < 0) = true := decide_eq_true k2
      have HE := Lib.hid (show ruleV ad (checkR t n ⟨x0, x1⟩) = .iface 185 (.pointer (some (ad 1))) by simp [ruleV, checkR, show ¬ 32 < x1.length from by omega, k2])
      clear hr hcall hB1 hb H0
      go_enter Tryd.func67, Tryd.ntmps67
      go_wp2_with fail
      go_ret
      exact ⟨by rw [HE.out]; rfl, HB.out⟩
    · have b2 : decide (x0 < 0) = false := decide_eq_false k2
      by_cases k3 : (n : Int) ≤ x0
      · have b3 : decide ((n : Int) ≤ x0) = true := decide_eq_true k3
        have HE := Lib.hid (show ruleV ad (checkR t n ⟨x0, x1⟩) = .iface 185 (.pointer (some (ad 1))) by simp [ruleV, checkR, show ¬ 32 < x1.length from by omega, k3])
        clear hr hcall hB1 hb H0
        go_enter Tryd.func67, Tryd.ntmps67
        go_wp2_with fail
        go_ret
        exact ⟨by rw [HE.out]; rfl, HB.out⟩
      · have b3 : decide ((n : Int) ≤ x0) = false := decide_eq_false k3
        cases hany : x1.any (outS t n) with
        | true =>
          rw [hany] at hcall
          have HE := Lib.hid (show ruleV ad (checkR t n ⟨x0, x1⟩) = .iface 185 (.pointer (some (ad 1))) by simp [ruleV, checkR, hany, show ¬ 32 < x1.length from by omega])
          have HC := Aside0.mk hcall
          have HH := Aside0.mk H0
          clear hr hcall hB1 hb hany H0
          go_enter Tryd.func67, Tryd.ntmps67
          go_wp2_with (go_at_call 96; (with_reducible refine HC.out.mono ?_); rintro e w' ⟨rfl, hb'⟩; have q2 := HH.out _ hb')
          go_ret
          exact ⟨by rw [HE.out]; rfl, HB.out.trans (hb'.mono HB.out.size)⟩
        | false =>
          rw [hany] at hcall
          have HE := Lib.hid (show ruleV ad (checkR t n ⟨x0, x1⟩) = .nilIface by simp [ruleV, checkR, hany, show ¬ 32 < x1.length from by omega, k2, k3])
          have HC := Aside0.mk hcall
          clear hr hcall hB1 hb hany H0
          go_enter Tryd.func67, Tryd.ntmps67
          go_wp2_with (go_at_call 96; (with_reducible refine HC.out.mono ?_); rintro e w' ⟨rfl, hb'⟩)
          go_ret
          exact ⟨by rw [HE.out]; rfl, HB.out.trans (hb'.mono HB.out.size)⟩
  · have b1 : decide ((32 : Int) < x1.length) = true := decide_eq_true (by omega)
    have b1' : decide (32 < x1.length) = true := decide_eq_true (by omega)
    have HE := Lib.hid (show ruleV ad (checkR t n ⟨x0, x1⟩) = .iface 185 (.pointer (some (ad 3))) by simp [ruleV, checkR, show 32 < x1.length from by omega])
    clear hr hcall hB1 hb H0
    go_enter Tryd.func67, Tryd.ntmps67
    go_wp2_with fail
    go_ret
    exact ⟨by rw [HE.out]; rfl, HB.out⟩
set_option maxHeartbeats 1500000 in
set_option maxRecDepth 100000 in
theorem Check_full (ad : Int → Addr) (k : Nat) (A0 : Option Addr) (c0 : Nat) (l0 : List ByteArray) (A1 : Option Addr) (c1 : Nat) (l1 : List ByteArray) (a2 : Int) (A3 : Option Addr) (c3 : Nat) (l3 : List S35) (b0 b1 : Bool) (w : World) (hG : Sents ad w) (hr0 : Kd.C Kd.string w A0 l0.length l0) (hc0 : l0.length ≤ c0) (hr1 : Kd.C Kd.string w A1 l1.length l1) (hc1 : l1.length ≤ c1) (hr3 : Kd.C k35 w A3 l3.length l3) (hc3 : l3.length ≤ c3)
    (hn0 : gram_names.f k l0 = some b0) (hn1 : gram_names.f k l1 = some b1) :
    Calls Tryd.prog 28 #[.agg #[.slice A0 l0.length c0, .slice A1 l1.length c1, .int .i64 a2, .slice A3 l3.length c3]] w (CheckPost ad w (chk b0 b1 l0.length l1.length a2 l3)) := by
  obtain ⟨x0, x1, x2⟩ := id hG
  obtain ⟨Tw, hT⟩ : ∃ Tw : World → Prop, ∀ W, Tw W ↔ (Below w.heap.size w W ∧ Box w.heap.size #[.slice A0 l0.length c0, .slice A1 l1.length c1, .int .i64 a2, .slice A3 l3.length c3] 25 W) := ⟨_, fun _ => Iff.rfl⟩
  have start : Tw (w.alloc (.cells #[.slice A0 l0.length c0, .slice A1 l1.length c1, .int .i64 a2, .slice A3 l3.length c3] 25)) := (hT _).2 ⟨(Below.refl _ w).alloc (Nat.le_refl _) _, Box.new w _ _⟩
  have cells : ∀ W, Tw W → W.cell? ⟨w.heap.size, 0, none⟩ = some (.slice A0 l0.length c0) ∧ W.cell? ⟨w.heap.size, 1, none⟩ = some (.slice A1 l1.length c1) ∧ W.cell? ⟨w.heap.size, 2, none⟩ = some (.int .i64 a2) ∧ W.cell? ⟨w.heap.size, 3, none⟩ = some (.slice A3 l3.length c3) ∧ W.cell? ⟨0, 0, none⟩ = some (.iface 185 (.pointer (some (ad 3)))) ∧ W.cell? ⟨1, 0, none⟩ = some (.iface 185 (.pointer (some (ad 10)))) ∧ W.cell? ⟨2, 0, none⟩ = some (.iface 185 (.pointer (some (ad 1)))) := by
    intro W hW
    have hb := ((hT W).1 hW).1
    have h3' := ((hT W).1 hW).2
    exact ⟨h3'.cell 0 _ rfl, h3'.cell 1 _ rfl, h3'.cell 2 _ rfl, h3'.cell 3 _ rfl, (hb.cell (World.block_lt_of_cell? w _ x0)).trans x0, (hb.cell (World.block_lt_of_cell? w _ x1)).trans x1, (hb.cell (World.block_lt_of_cell? w _ x2)).trans x2⟩
  have more : ∀ W W', Tw W → Below W.heap.size W W' → Tw W' := fun W W' h hb => (hT W').2 ⟨((hT W).1 h).1.trans (hb.mono ((hT W).1 h).1.size), ((hT W).1 h).2.below hb⟩
  have last : ∀ W, Tw W → Below w.heap.size w W := fun W h => ((hT W).1 h).1
  clear hT
  have key0 : ∀ W, Tw W → Calls Tryd.prog 66 #[.slice A0 l0.length c0] W fun e W => e = .returned (.bool b0) ∧ Aside0 (Tw W) ∧ W.cell? ⟨w.heap.size, 0, none⟩ = some (.slice A0 l0.length c0) ∧ W.cell? ⟨w.heap.size, 1, none⟩ = some (.slice A1 l1.length c1) ∧ W.cell? ⟨w.heap.size, 2, none⟩ = some (.int .i64 a2) ∧ W.cell? ⟨w.heap.size, 3, none⟩ = some (.slice A3 l3.length c3) ∧ W.cell? ⟨0, 0, none⟩ = some (.iface 185 (.pointer (some (ad 3)))) ∧ W.cell? ⟨1, 0, none⟩ = some (.iface 185 (.pointer (some (ad 10)))) ∧ W.cell? ⟨2, 0, none⟩ = some (.iface 185 (.pointer (some (ad 1)))) := by
    intro W hW
    refine (gram_names.calls k A0 c0 l0 b0 W (Kd.C_below hr0 (last W hW)) hc0 hn0).mono ?_
    rintro e w' ⟨he, hd⟩
    have := more W w' hW hd.below
    exact ⟨he, ⟨this⟩, cells _ this⟩
  have key1 : ∀ W, Tw W → Calls Tryd.prog 66 #[.slice A1 l1.length c1] W fun e W => e = .returned (.bool b1) ∧ Aside0 (Tw W) ∧ W.cell? ⟨w.heap.size, 0, none⟩ = some (.slice A0 l0.length c0) ∧ W.cell? ⟨w.heap.size, 1, none⟩ = some (.slice A1 l1.length c1) ∧ W.cell? ⟨w.heap.size, 2, none⟩ = some (.int .i64 a2) ∧ W.cell? ⟨w.heap.size, 3, none⟩ = some (.slice A3 l3.length c3) ∧ W.cell? ⟨0, 0, none⟩ = some (.iface 185 (.pointer (some (ad 3)))) ∧ W.cell? ⟨1, 0, none⟩ = some (.iface 185 (.pointer (some (ad 10)))) ∧ W.cell? ⟨2, 0, none⟩ = some (.iface 185 (.pointer (some (ad 1)))) := by
    intro W hW
    refine (gram_names.calls k A1 c1 l1 b1 W (Kd.C_below hr1 (last W hW)) hc1 hn1).mono ?_
    rintro e w' ⟨he, hd⟩
    have := more W w' hW hd.below
    exact ⟨he, ⟨this⟩, cells _ this⟩
  obtain ⟨s0, s1, s2, s3, s4, s5, s6⟩ := cells _ start
  have HR3 := Aside0.mk hr3
  have ST := Aside0.mk start
  have CE := Aside0.mk cells
  have MO := Aside0.mk more
  have LA := Aside0.mk last
  clear hr0 hr1 hr3 start cells more last hn0 hn1
  by_cases d1 : l0.length ≤ 60
  rotate_left
  · have e1 : decide ((60 : Int) < l0.length) = true := decide_eq_true (by omega)
    have e1' : decide (60 < l0.length) = true := decide_eq_true (by omega)
    clear key0 key1
    have HE := Lib.hid (show chk b0 b1 l0.length l1.length a2 l3 = (3, -1) by simp [chk, show 60 < l0.length + l1.length from by omega])
    go_enter Tryd.func28, Tryd.ntmps28
    go_wp2_with fail
    go_ret
    exact ⟨⟨_, rfl, by rw [HE.out]; exact .inr (.inl ⟨by simp, rfl, rfl⟩)⟩, LA.out _ ST.out⟩
  have e1 : decide ((60 : Int) < l0.length) = false := decide_eq_false (by omega)
  have e1' : decide (60 < l0.length) = false := decide_eq_false (by omega)
  by_cases d2 : l0.length + l1.length ≤ 60
  rotate_left
  · have e2 : decide ((60 : Int) - l0.length < l1.length) = true := decide_eq_true (by omega)
    clear key0 key1
    have HE := Lib.hid (show chk b0 b1 l0.length l1.length a2 l3 = (3, -1) by simp [chk, show 60 < l0.length + l1.length from by omega])
    go_enter Tryd.func28, Tryd.ntmps28
    go_wp2_with fail
    go_ret
    exact ⟨⟨_, rfl, by rw [HE.out]; exact .inr (.inl ⟨by simp, rfl, rfl⟩)⟩, LA.out _ ST.out⟩
  have e2 : decide ((60 : Int) - l0.length < l1.length) = false := decide_eq_false (by omega)
  by_cases d3 : l3.length ≤ 120
  rotate_left
  · have e3 : decide ((120 : Int) < l3.length) = true := decide_eq_true (by omega)
    have e3' : decide (120 < l3.length) = true := decide_eq_true (by omega)
    clear key0 key1
    have HE := Lib.hid (show chk b0 b1 l0.length l1.length a2 l3 = (3, -1) by simp [chk, show 120 < l3.length from by omega])
    go_enter Tryd.func28, Tryd.ntmps28
    go_wp2_with fail
    go_ret
    exact ⟨⟨_, rfl, by rw [HE.out]; exact .inr (.inl ⟨by simp, rfl, rfl⟩)⟩, LA.out _ ST.out⟩
  have e3 : decide ((120 : Int) < l3.length) = false := decide_eq_false (by omega)
  have e3' : decide (120 < l3.length) = false := decide_eq_false (by omega)
  have K0 := Aside0.mk key0
  have K1 := Aside0.mk key1
  clear key0 key1
  cases b0
  · skip
    have HE := Lib.hid (show chk false b1 l0.length l1.length a2 l3 = (10, -1) by simp [chk, show ¬ 60 < l0.length + l1.length from by omega, show ¬ 120 < l3.length from by omega])
    go_enter Tryd.func28, Tryd.ntmps28
    go_wp2_with (first | (go_at_call 66; (with_reducible refine (K0.out _ ST.out).mono ?_); rintro e w1 ⟨rfl, z1, f0, f1, f2, f3, f4, f5, f6⟩))
    go_ret
    exact ⟨⟨_, rfl, by rw [HE.out]; exact .inr (.inl ⟨by simp, rfl, rfl⟩)⟩, LA.out _ z1.out⟩
  cases b1
  · skip
    have HE := Lib.hid (show chk true false l0.length l1.length a2 l3 = (10, -1) by simp [chk, show ¬ 60 < l0.length + l1.length from by omega, show ¬ 120 < l3.length from by omega])
    go_enter Tryd.func28, Tryd.ntmps28
    go_wp2_with (first | (go_at_call 66; (with_reducible refine (K0.out _ ST.out).mono ?_); rintro e w1 ⟨rfl, z1, f0, f1, f2, f3, f4, f5, f6⟩) | (go_at_call 66; (with_reducible refine (K1.out _ z1.out).mono ?_); rintro e w2 ⟨rfl, z2, g0, g1, g2, g3, g4, g5, g6⟩))
    go_ret
    exact ⟨⟨_, rfl, by rw [HE.out]; exact .inr (.inl ⟨by simp, rfl, rfl⟩)⟩, LA.out _ z2.out⟩
  by_cases d4 : a2 < 0
  · have e4 : decide (a2 < 0) = true := decide_eq_true d4
    have HE := Lib.hid (show chk true true l0.length l1.length a2 l3 = (1, -1) by simp [chk, show ¬ 60 < l0.length + l1.length from by omega, show ¬ 120 < l3.length from by omega, d4])
    go_enter Tryd.func28, Tryd.ntmps28
    go_wp2_with (first | (go_at_call 66; (with_reducible refine (K0.out _ ST.out).mono ?_); rintro e w1 ⟨rfl, z1, f0, f1, f2, f3, f4, f5, f6⟩) | (go_at_call 66; (with_reducible refine (K1.out _ z1.out).mono ?_); rintro e w2 ⟨rfl, z2, g0, g1, g2, g3, g4, g5, g6⟩))
    go_ret
    exact ⟨⟨_, rfl, by rw [HE.out]; exact .inr (.inl ⟨by simp, rfl, rfl⟩)⟩, LA.out _ z2.out⟩
  have e4 : decide (a2 < 0) = false := decide_eq_false d4
  by_cases d5 : (l1.length : Int) ≤ a2
  · have e5 : decide ((l1.length : Int) ≤ a2) = true := decide_eq_true d5
    have HE := Lib.hid (show chk true true l0.length l1.length a2 l3 = (1, -1) by simp [chk, show ¬ 60 < l0.length + l1.length from by omega, show ¬ 120 < l3.length from by omega, d5])
    go_enter Tryd.func28, Tryd.ntmps28
    go_wp2_with (first | (go_at_call 66; (with_reducible refine (K0.out _ ST.out).mono ?_); rintro e w1 ⟨rfl, z1, f0, f1, f2, f3, f4, f5, f6⟩) | (go_at_call 66; (with_reducible refine (K1.out _ z1.out).mono ?_); rintro e w2 ⟨rfl, z2, g0, g1, g2, g3, g4, g5, g6⟩))
    go_ret
    exact ⟨⟨_, rfl, by rw [HE.out]; exact .inr (.inl ⟨by simp, rfl, rfl⟩)⟩, LA.out _ z2.out⟩
  have e5 : decide ((l1.length : Int) ≤ a2) = false := decide_eq_false d5
  have HE := Lib.hid (show chk true true l0.length l1.length a2 l3 = chkRs l0.length l1.length l3 0 by simp [chk, show ¬ 60 < l0.length + l1.length from by omega, show ¬ 120 < l3.length from by omega, d4, d5])
  go_enter Tryd.func28, Tryd.ntmps28
  go_wp2_with (first | (go_at_call 66; (with_reducible refine (K0.out _ ST.out).mono ?_); rintro e w1 ⟨rfl, z1, f0, f1, f2, f3, f4, f5, f6⟩) | (go_at_call 66; (with_reducible refine (K1.out _ z1.out).mono ?_); rintro e w2 ⟨rfl, z2, g0, g1, g2, g3, g4, g5, g6⟩))
  go_loopw [3, 4, 5, 53] (fun _ _ _ i wr => ∃ j : Nat, j ≤ l3.length ∧ i = .int .i64 j ∧ Aside0 (Tw wr) ∧ Hid (chkRs l0.length l1.length (l3.drop j) j = chkRs l0.length l1.length l3 0)) (fun _ _ _ i _ => l3.length - (intOf i).toNat)
  case atStart => exact ⟨0, Nat.zero_le _, rfl, z2, Lib.hid rfl⟩
  case round =>
    obtain ⟨j, hj, rfl, htw, hok⟩ := hrel
    clear f0 f1 f2 f3 f4 f5 f6 g0 g1 g2 g3 g4 g5 g6 s0 s1 s2 s3 s4 s5 s6
    by_cases hlt : j < l3.length
    · obtain ⟨f0, f1, f2, f3, f4, f5, f6⟩ := CE.out wr htw.out
      obtain ⟨ad', A, cc, rfl, h0, h1, h2, h3⟩ := at_T35 (Kd.C_below HR3.out (LA.out wr htw.out)) (j : Int) (by omega) (by omega)
      have q0 : rd_T35 l3 (j : Int) = l3[j] := by simp [rd_T35, List.getD_eq_getElem?_getD, List.getElem?_eq_getElem hlt]
      have hn := chkRs_drop l0.length l1.length l3 j hlt
      rw [Int.toNat_natCast] at h0 h1
      rw [q0] at h0 h1 h2 h3
      generalize l3[j] = x at h0 h1 h2 h3 hn
      have hGr : Sents ad wr := ⟨f4, f5, f6⟩
      have f0a := fun o => Lib.cell?_alloc_some o f0
      have f1a := fun o => Lib.cell?_alloc_some o f1
      have f2a := fun o => Lib.cell?_alloc_some o f2
      have f3a := fun o => Lib.cell?_alloc_some o f3
      have hcall : ∀ W, Below wr.heap.size wr W → Calls Tryd.prog 67 #[.agg #[.slice A0 l0.length c0, .slice A1 l1.length c1, .int .i64 a2, .slice (some ad') l3.length c3], .agg #[.int .i64 x.f0, .slice A x.f1.length cc]] W fun e w' => e = .returned (ruleV ad (checkR l0.length l1.length x)) ∧ Aside0 (Tw w') := by
        intro W hW
        refine (Rule_full ad A0 c0 l0.length A1 c1 l1.length a2 _ x A cc W (hGr.below hW) (by omega) (by omega) (Kd.C_below h3 hW) h2).mono ?_
        rintro e w' ⟨he, hb⟩
        exact ⟨he, ⟨MO.out _ _ (MO.out _ _ htw.out hW) hb⟩⟩
      by_cases hq : checkR l0.length l1.length x = 0
      · rw [if_pos hq] at hn
        rw [hq, show ruleV ad 0 = .nilIface from rfl] at hcall
        have HC := Aside0.mk hcall
        have HN := Lib.hid hn
        clear hcall h3 q0 hq hn hGr
        go_wp2_with (go_at_call 67; (with_reducible refine (HC.out _ ((Below.refl _ wr).alloc (Nat.le_refl _) _)).mono ?_); rintro e w' ⟨rfl, t3⟩)
        go_roundw
        case measure => simp [intOf]; omega
        case rel => exact ⟨j + 1, by omega, rfl, t3, Lib.hid (HN.out.symm.trans hok.out)⟩
      · rw [if_neg hq] at hn
        have hc : checkR l0.length l1.length x = 3 ∨ checkR l0.length l1.length x = 1 := (checkR_cases l0.length l1.length x).elim (fun h => absurd h.1 hq) (fun h => h.1)
        rw [show ruleV ad (checkR l0.length l1.length x) = .iface 185 (.pointer (some (ad (checkR l0.length l1.length x)))) from if_neg hq] at hcall
        generalize checkR l0.length l1.length x = c at hcall hn hc
        have HC := Aside0.mk hcall
        have HN := Lib.hid (hn.symm.trans hok.out)
        have HCC := Aside0.mk hc
        clear hcall h3 q0 hq hn hGr hc
        go_wp2_with (go_at_call 67; (with_reducible refine (HC.out _ ((Below.refl _ wr).alloc (Nat.le_refl _) _)).mono ?_); rintro e w' ⟨rfl, t3⟩)
        go_ret
        exact ⟨⟨_, rfl, by rw [HE.out, ← HN.out]; exact .inr (.inr ⟨HCC.out, by simp, by simp; omega, _, rfl, heap_alloc_new _ _⟩)⟩, (LA.out _ t3.out).alloc (LA.out _ t3.out).size _⟩
    · have hjn : j = l3.length := by omega
      subst hjn
      have HN := Lib.hid (show chkRs l0.length l1.length l3 0 = (0, -1) by have := hok.out; rw [List.drop_length] at this; exact this.symm)
      go_wp2_with fail
      go_ret
      exact ⟨⟨_, rfl, by rw [HE.out, HN.out]; exact .inl ⟨rfl, rfl, rfl⟩⟩, LA.out _ htw.out⟩
end Go.Proofs.YteaiejippkikpaaDoor.B
