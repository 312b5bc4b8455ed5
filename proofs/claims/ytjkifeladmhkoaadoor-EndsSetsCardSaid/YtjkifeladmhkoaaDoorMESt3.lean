/- Texts of this claim, one behind the other. -/
import Derived.Test.YtjkifeladmhkoaaDoorMESt2
import Derived.Test.YtjkifeladmhkoaaDoorMESt1
import Derived.Test.YtjkifeladmhkoaaDoorProg
import Derived.Below
import Derived.Deep.Draws
import Derived.Deep.AppendLies
import Derived.Maps.AppendAt
import Derived.OwnWalk
import Derived.Laws.BytesArg
import Derived.Laws.MakeOwn
import Derived.Laws.OwnMore
import Derived.Deep.OwnRows
import Derived.Tactics
import Derived.Lib.ConvBytes
import Derived.Laws.Slices
import Derived.WalkKit
import Derived.KernelRfl
import Derived.RowKit3
import Derived.Deep.LoopGhost
import Derived.Deep.QuietTactic
import Derived.BigQuiet
import Derived.WideLaws
import Derived.Deep.DeepCutAuto
import Derived.Deep.CutBlock
import Derived.Deep.RegionHeld3
import Derived.Laws.Rows
import Derived.Lib.AppendStr
import Derived.ArgAppend
import Derived.Laws.IdiomCopy
import Derived.OrdersHeld
import Derived.Laws.BitsLemmas
import Derived.RowKit
/- gram.Check: what it answers, whatever the grammar. -/
set_option linter.unusedVariables false
set_option linter.unusedSimpArgs false
namespace Go.Proofs.YtjkifeladmhkoaaDoor.B
open Go.RowKit Go.Proofs.YtjkifeladmhkoaaDoorW.PrintWords Go.Proofs.YtjkifeladmhkoaaDoorW.PrintLast Go.Proofs.YtjkifeladmhkoaaDoorW.PrintMore

/-- The sentinels that Check tells lie; ad: to what each points, by its number. -/
def Sents (ad : Int → Addr) (w : World) : Prop := w.cell? ⟨3, 0, none⟩ = some (.iface 190 (.pointer (some (ad 3)))) ∧ w.cell? ⟨10, 0, none⟩ = some (.iface 190 (.pointer (some (ad 10)))) ∧ w.cell? ⟨0, 0, none⟩ = some (.iface 190 (.pointer (some (ad 1))))
theorem Sents.below {ad : Int → Addr} {w w' : World} (h : Sents ad w) (hb : Below w.heap.size w w') : Sents ad w' :=
  ⟨(hb.cell (World.block_lt_of_cell? w _ h.1)).trans h.1, (hb.cell (World.block_lt_of_cell? w _ h.2.1)).trans h.2.1, (hb.cell (World.block_lt_of_cell? w _ h.2.2)).trans h.2.2⟩
/-- What is wrong of a rule: the error's number. -/
def checkR (t n : Nat) (x : S41) : Int := if 32 < x.f1.length then 3 else if x.f0 < 0 ∨ (n : Int) ≤ x.f0 ∨ x.f1.any (outS t n) = true then 1 else 0
/-- The first wrong rule, and what is wrong of it. -/
def chkRs (t n : Nat) : List S41 → Nat → Int × Int
  | [], _ => (0, -1)
  | x :: l, j => if checkR t n x = 0 then chkRs t n l (j + 1) else (checkR t n x, (j : Int))
theorem chkRs_drop (t n : Nat) (R : List S41) (j : Nat) (h : j < R.length) : chkRs t n (R.drop j) j = if checkR t n R[j] = 0 then chkRs t n (R.drop (j + 1)) (j + 1) else (checkR t n R[j], (j : Int)) := by
  rw [List.drop_eq_getElem_cons h, chkRs]
/-- What Check tells: the error's number, and the rule's. -/
def chk (b0 b1 : Bool) (l0 l1 : Nat) (a2 : Int) (R : List S41) : Int × Int :=
  if 60 < l0 + l1 ∨ 120 < R.length then (3, -1) else if (b0 && b1) = false then (10, -1) else if a2 < 0 ∨ (l1 : Int) ≤ a2 then (1, -1) else chkRs l0 l1 R 0
theorem checkR_cases (t n : Nat) (x : S41) : checkR t n x = 0 ∧ okR t n x = true ∨ (checkR t n x = 3 ∨ checkR t n x = 1) ∧ okR t n x = false := by
  unfold checkR okR
  by_cases c1 : 32 < x.f1.length
  · rw [if_pos c1]; right; simp; omega
  · rw [if_neg c1]
    by_cases c2 : x.f0 < 0 ∨ (n : Int) ≤ x.f0 ∨ x.f1.any (outS t n) = true
    · rw [if_pos c2]; right
      refine ⟨.inr rfl, ?_⟩
      rcases c2 with c | c | c
      · simp [show ¬ (0 ≤ x.f0) from by omega]
      · simp [show ¬ (x.f0 < (n : Int)) from by omega]
      · simp [c]
    · rw [if_neg c2]; left
      simp only [not_or, Bool.not_eq_true] at c2
      refine ⟨rfl, ?_⟩
      simp [c2.2.2, show x.f1.length ≤ 32 from by omega, show 0 ≤ x.f0 from by omega, show x.f0 < (n : Int) from by omega]
/-- An error value: none, a sentinel, a rule's. -/
def ErrV (ad : Int → Addr) (w : World) (v : Value) (p : Int × Int) : Prop :=
  (p.1 = 0 ∧ p.2 = -1 ∧ v = .nilIface) ∨ ((p.1 = 3 ∨ p.1 = 10 ∨ p.1 = 1) ∧ p.2 = -1 ∧ v = .iface 190 (.pointer (some (ad p.1)))) ∨
  ((p.1 = 3 ∨ p.1 = 1) ∧ 0 ≤ p.2 ∧ p.2 < 120 ∧ ∃ b, v = .iface 119 (.pointer (some ⟨b, 0, none⟩)) ∧ w.heap[b]? = some (.cells #[.int .i64 p.2, .iface 190 (.pointer (some (ad p.1)))] 123 (0, 0)))
def CheckPost (ad : Int → Addr) (w : World) (p : Int × Int) (e : Ending) (w' : World) : Prop := (∃ v, e = .returned v ∧ ErrV ad w' v p) ∧ Below w.heap.size w w'
theorem ErrV.nil {ad : Int → Addr} {w : World} {v : Value} {p : Int × Int} (h : ErrV ad w v p) (h0 : p.1 = 0) : v = .nilIface := by
  rcases h with h | h | h
  · exact h.2.2
  · rcases h.1 with h | h | h <;> omega
  · rcases h.1 with h | h <;> omega
theorem ErrV.some {ad : Int → Addr} {w : World} {v : Value} {p : Int × Int} (h : ErrV ad w v p) (h0 : p.1 ≠ 0) : ∃ t u, v = .iface t u := by
  rcases h with h | h | h
  · exact absurd h.1 h0
  · exact ⟨_, _, h.2.2⟩
  · obtain ⟨_, _, _, b, h, _⟩ := h; exact ⟨_, _, h⟩
theorem ErrV.below {ad : Int → Addr} {w w' : World} {v : Value} {p : Int × Int} (h : ErrV ad w v p) (hb : Below w.heap.size w w') : ErrV ad w' v p := by
  rcases h with h | h | ⟨h1, h2, h3, b, hv, hx⟩
  · exact .inl h
  · exact .inr (.inl h)
  · exact .inr (.inr ⟨h1, h2, h3, b, hv, Box.below (W := w) (W' := w') hx hb⟩)
/-- What a rule's look answers. -/
def ruleV (ad : Int → Addr) (c : Int) : Value := if c = 0 then .nilIface else .iface 190 (.pointer (some (ad c)))

set_option maxHeartbeats 1000000 in
set_option maxRecDepth 100000 in
theorem Rule_full (ad : Int → Addr) (A0 : Option Addr) (c0 t : Nat) (A1 : Option Addr) (c1 n : Nat) (a2 : Int) (v3 : Value) (x : S41) (A : Option Addr) (c : Nat) (w : World) (hg : Sents ad w) (ht : t ≤ 60) (hn : n ≤ 60) (hr : Kd.C (Kd.int .i64) w A x.f1.length x.f1) (hc : x.f1.length ≤ c) :
    Calls Tryd.prog 82 #[.agg #[.slice A0 t c0, .slice A1 n c1, .int .i64 a2, v3], .agg #[.int .i64 x.f0, .slice A x.f1.length c]] w fun e w' => e = .returned (ruleV ad (checkR t n x)) ∧ Below w.heap.size w w' := by
  obtain ⟨x0, x1⟩ := x
  dsimp only at hr hc ⊢
  have hB1 := (Box.new w #[.slice A0 t c0, .slice A1 n c1, .int .i64 a2, v3] 32).alloc (.cells #[.int .i64 x0, .slice A x1.length c] 41)
  have hb : Below w.heap.size w ((w.alloc (.cells #[.slice A0 t c0, .slice A1 n c1, .int .i64 a2, v3] 32)).alloc (.cells #[.int .i64 x0, .slice A x1.length c] 41)) := ((Below.refl _ w).alloc (Nat.le_refl _) _).alloc (by simp) _
  have hcall := ContS_calls A x1 c w.heap.size t n c0 c1 A0 A1 _ ht hn (hB1.cell 0 _ rfl) (hB1.cell 1 _ rfl) (Kd.C_below hr hb) hc
  obtain ⟨h0, h1, h2⟩ := hg.below hb
  have HB := Aside0.mk hb
  have H0 : ∀ w', Below ((w.alloc (.cells #[.slice A0 t c0, .slice A1 n c1, .int .i64 a2, v3] 32)).alloc (.cells #[.int .i64 x0, .slice A x1.length c] 41)).heap.size ((w.alloc (.cells #[.slice A0 t c0, .slice A1 n c1, .int .i64 a2, v3] 32)).alloc (.cells #[.int .i64 x0, .slice A x1.length c] 41)) w' → w'.cell? ⟨0, 0, none⟩ = some (.iface 190 (.pointer (some (ad 1)))) := fun w' hb' => (hb'.cell (World.block_lt_of_cell? _ _ h2)).trans h2
  by_cases k1 : x1.length ≤ 32
  · have b1 : decide ((32 : Int) < x1.length) = false := decide_eq_false (by omega)
    have b1' : decide (32 < x1.length) = false := decide_eq_false (by omega)
    by_cases k2 : x0 < 0
    · have b2 : decide (x0 < 0) = true := decide_eq_true k2
      have HE := Lib.hid (show ruleV ad (checkR t n ⟨x0, x1⟩) = .iface 190 (.pointer (some (ad 1))) by simp [ruleV, checkR, show ¬ 32 < x1.length from by omega, k2])
      clear hr hcall hB1 hb H0
      go_enter Tryd.func82, Tryd.ntmps82
      go_wp2_with fail
      go_ret
      exact ⟨by rw [HE.out]; rfl, HB.out⟩
    · have b2 : decide (x0 < 0) = false := decide_eq_false k2
      by_cases k3 : (n : Int) ≤ x0
      · have b3 : decide ((n : Int) ≤ x0) = true := decide_eq_true k3
        have HE := Lib.hid (show ruleV ad (checkR t n ⟨x0, x1⟩) = .iface 190 (.pointer (some (ad 1))) by simp [ruleV, checkR, show ¬ 32 < x1.length from by omega, k3])
        clear hr hcall hB1 hb H0
        go_enter Tryd.func82, Tryd.ntmps82
        go_wp2_with fail
        go_ret
        exact ⟨by rw [HE.out]; rfl, HB.out⟩
      · have b3 : decide ((n : Int) ≤ x0) = false := decide_eq_false k3
        cases hany : x1.any (outS t n) with
        | true =>
          rw [hany] at hcall
          have HE := Lib.hid (show ruleV ad (checkR t n ⟨x0, x1⟩) = .iface 190 (.pointer (some (ad 1))) by simp [ruleV, checkR, hany, show ¬ 32 < x1.length from by omega])
          have HC := Aside0.mk hcall
          have HH := Aside0.mk H0
          clear hr hcall hB1 hb hany H0
          go_enter Tryd.func82, Tryd.ntmps82
          go_wp2_with (go_at_call 102; (with_reducible refine HC.out.mono ?_); rintro e w' ⟨rfl, hb'⟩; have q2 := HH.out _ hb')
          go_ret
          exact ⟨by rw [HE.out]; rfl, HB.out.trans (hb'.mono HB.out.size)⟩
        | false =>
          rw [hany] at hcall
          have HE := Lib.hid (show ruleV ad (checkR t n ⟨x0, x1⟩) = .nilIface by simp [ruleV, checkR, hany, show ¬ 32 < x1.length from by omega, k2, k3])
          have HC := Aside0.mk hcall
          clear hr hcall hB1 hb hany H0
          go_enter Tryd.func82, Tryd.ntmps82
          go_wp2_with (go_at_call 102; (with_reducible refine HC.out.mono ?_); rintro e w' ⟨rfl, hb'⟩)
          go_ret
          exact ⟨by rw [HE.out]; rfl, HB.out.trans (hb'.mono HB.out.size)⟩
  · have b1 : decide ((32 : Int) < x1.length) = true := decide_eq_true (by omega)
    have b1' : decide (32 < x1.length) = true := decide_eq_true (by omega)
    have HE := Lib.hid (show ruleV ad (checkR t n ⟨x0, x1⟩) = .iface 190 (.pointer (some (ad 3))) by simp [ruleV, checkR, show 32 < x1.length from by omega])
    clear hr hcall hB1 hb H0
    go_enter Tryd.func82, Tryd.ntmps82
    go_wp2_with fail
    go_ret
    exact ⟨by rw [HE.out]; rfl, HB.out⟩
set_option maxHeartbeats 1500000 in
set_option maxRecDepth 100000 in
theorem Check_full (ad : Int → Addr) (k : Nat) (A0 : Option Addr) (c0 : Nat) (l0 : List ByteArray) (A1 : Option Addr) (c1 : Nat) (l1 : List ByteArray) (a2 : Int) (A3 : Option Addr) (c3 : Nat) (l3 : List S41) (b0 b1 : Bool) (w : World) (hG : Sents ad w) (hr0 : Kd.C Kd.string w A0 l0.length l0) (hc0 : l0.length ≤ c0) (hr1 : Kd.C Kd.string w A1 l1.length l1) (hc1 : l1.length ≤ c1) (hr3 : Kd.C k41 w A3 l3.length l3) (hc3 : l3.length ≤ c3)
    (hn0 : gram_names.f k l0 = some b0) (hn1 : gram_names.f k l1 = some b1) :
    Calls Tryd.prog 52 #[.agg #[.slice A0 l0.length c0, .slice A1 l1.length c1, .int .i64 a2, .slice A3 l3.length c3]] w (CheckPost ad w (chk b0 b1 l0.length l1.length a2 l3)) := by
  obtain ⟨x0, x1, x2⟩ := id hG
  obtain ⟨Tw, hT⟩ : ∃ Tw : World → Prop, ∀ W, Tw W ↔ (Below w.heap.size w W ∧ Box w.heap.size #[.slice A0 l0.length c0, .slice A1 l1.length c1, .int .i64 a2, .slice A3 l3.length c3] 32 W) := ⟨_, fun _ => Iff.rfl⟩
  have start : Tw (w.alloc (.cells #[.slice A0 l0.length c0, .slice A1 l1.length c1, .int .i64 a2, .slice A3 l3.length c3] 32)) := (hT _).2 ⟨(Below.refl _ w).alloc (Nat.le_refl _) _, Box.new w _ _⟩
  have cells : ∀ W, Tw W → W.cell? ⟨w.heap.size, 0, none⟩ = some (.slice A0 l0.length c0) ∧ W.cell? ⟨w.heap.size, 1, none⟩ = some (.slice A1 l1.length c1) ∧ W.cell? ⟨w.heap.size, 2, none⟩ = some (.int .i64 a2) ∧ W.cell? ⟨w.heap.size, 3, none⟩ = some (.slice A3 l3.length c3) ∧ W.cell? ⟨3, 0, none⟩ = some (.iface 190 (.pointer (some (ad 3)))) ∧ W.cell? ⟨10, 0, none⟩ = some (.iface 190 (.pointer (some (ad 10)))) ∧ W.cell? ⟨0, 0, none⟩ = some (.iface 190 (.pointer (some (ad 1)))) := by
    intro W hW
    have hb := ((hT W).1 hW).1
    have h3' := ((hT W).1 hW).2
    exact ⟨h3'.cell 0 _ rfl, h3'.cell 1 _ rfl, h3'.cell 2 _ rfl, h3'.cell 3 _ rfl, (hb.cell (World.block_lt_of_cell? w _ x0)).trans x0, (hb.cell (World.block_lt_of_cell? w _ x1)).trans x1, (hb.cell (World.block_lt_of_cell? w _ x2)).trans x2⟩
  have more : ∀ W W', Tw W → Below W.heap.size W W' → Tw W' := fun W W' h hb => (hT W').2 ⟨((hT W).1 h).1.trans (hb.mono ((hT W).1 h).1.size), ((hT W).1 h).2.below hb⟩
  have last : ∀ W, Tw W → Below w.heap.size w W := fun W h => ((hT W).1 h).1
  clear hT
  have key0 : ∀ W, Tw W → Calls Tryd.prog 81 #[.slice A0 l0.length c0] W fun e W => e = .returned (.bool b0) ∧ Aside0 (Tw W) ∧ W.cell? ⟨w.heap.size, 0, none⟩ = some (.slice A0 l0.length c0) ∧ W.cell? ⟨w.heap.size, 1, none⟩ = some (.slice A1 l1.length c1) ∧ W.cell? ⟨w.heap.size, 2, none⟩ = some (.int .i64 a2) ∧ W.cell? ⟨w.heap.size, 3, none⟩ = some (.slice A3 l3.length c3) ∧ W.cell? ⟨3, 0, none⟩ = some (.iface 190 (.pointer (some (ad 3)))) ∧ W.cell? ⟨10, 0, none⟩ = some (.iface 190 (.pointer (some (ad 10)))) ∧ W.cell? ⟨0, 0, none⟩ = some (.iface 190 (.pointer (some (ad 1)))) := by
    intro W hW
    refine (gram_names.calls k A0 c0 l0 b0 W (Kd.C_below hr0 (last W hW)) hc0 hn0).mono ?_
    rintro e w' ⟨he, hd⟩
    have := more W w' hW hd.below
    exact ⟨he, ⟨this⟩, cells _ this⟩
  have key1 : ∀ W, Tw W → Calls Tryd.prog 81 #[.slice A1 l1.length c1] W fun e W => e = .returned (.bool b1) ∧ Aside0 (Tw W) ∧ W.cell? ⟨w.heap.size, 0, none⟩ = some (.slice A0 l0.length c0) ∧ W.cell? ⟨w.heap.size, 1, none⟩ = some (.slice A1 l1.length c1) ∧ W.cell? ⟨w.heap.size, 2, none⟩ = some (.int .i64 a2) ∧ W.cell? ⟨w.heap.size, 3, none⟩ = some (.slice A3 l3.length c3) ∧ W.cell? ⟨3, 0, none⟩ = some (.iface 190 (.pointer (some (ad 3)))) ∧ W.cell? ⟨10, 0, none⟩ = some (.iface 190 (.pointer (some (ad 10)))) ∧ W.cell? ⟨0, 0, none⟩ = some (.iface 190 (.pointer (some (ad 1)))) := by
    intro W hW
    refine (gram_names.calls k A1 c1 l1 b1 W (Kd.C_below hr1 (last W hW)) hc1 hn1).mono ?_
    rintro e w' ⟨he, hd⟩
    have := more W w' hW hd.below
    exact ⟨he, ⟨this⟩, cells _ this⟩
  obtain ⟨s0, s1, s2, s3, s4, s5, s6⟩ := cells _ start
  have HR3 := Aside0.mk hr3
  have ST := Aside0.mk start
  have CE := Aside0.mk cells
  have MO := Aside0.mk more
  have LA := Aside0.mk last
  clear hr0 hr1 hr3 start cells more last hn0 hn1
  by_cases d1 : l0.length ≤ 60
  rotate_left
  · have e1 : decide ((60 : Int) < l0.length) = true := decide_eq_true (by omega)
    have e1' : decide (60 < l0.length) = true := decide_eq_true (by omega)
    clear key0 key1
    have HE := Lib.hid (show chk b0 b1 l0.length l1.length a2 l3 = (3, -1) by simp [chk, show 60 < l0.length + l1.length from by omega])
    go_enter Tryd.func52, Tryd.ntmps52
    go_wp2_with fail
    go_ret
    exact ⟨⟨_, rfl, by rw [HE.out]; exact .inr (.inl ⟨by simp, rfl, rfl⟩)⟩, LA.out _ ST.out⟩
  have e1 : decide ((60 : Int) < l0.length) = false := decide_eq_false (by omega)
  have e1' : decide (60 < l0.length) = false := decide_eq_false (by omega)
  by_cases d2 : l0.length + l1.length ≤ 60
  rotate_left
  · have e2 : decide ((60 : Int) - l0.length < l1.length) = true := decide_eq_true (by omega)
    clear key0 key1
    have HE := Lib.hid (show chk b0 b1 l0.length l1.length a2 l3 = (3, -1) by simp [chk, show 60 < l0.length + l1.length from by omega])
    go_enter Tryd.func52, Tryd.ntmps52
    go_wp2_with fail
    go_ret
    exact ⟨⟨_, rfl, by rw [HE.out]; exact .inr (.inl ⟨by simp, rfl, rfl⟩)⟩, LA.out _ ST.out⟩
  have e2 : decide ((60 : Int) - l0.length < l1.length) = false := decide_eq_false (by omega)
  by_cases d3 : l3.length ≤ 120
  rotate_left
  · have e3 : decide ((120 : Int) < l3.length) = true := decide_eq_true (by omega)
    have e3' : decide (120 < l3.length) = true := decide_eq_true (by omega)
    clear key0 key1
    have HE := Lib.hid (show chk b0 b1 l0.length l1.length a2 l3 = (3, -1) by simp [chk, show 120 < l3.length from by omega])
    go_enter Tryd.func52, Tryd.ntmps52
    go_wp2_with fail
    go_ret
    exact ⟨⟨_, rfl, by rw [HE.out]; exact .inr (.inl ⟨by simp, rfl, rfl⟩)⟩, LA.out _ ST.out⟩
  have e3 : decide ((120 : Int) < l3.length) = false := decide_eq_false (by omega)
  have e3' : decide (120 < l3.length) = false := decide_eq_false (by omega)
  have K0 := Aside0.mk key0
  have K1 := Aside0.mk key1
  clear key0 key1
  cases b0
  · skip
    have HE := Lib.hid (show chk false b1 l0.length l1.length a2 l3 = (10, -1) by simp [chk, show ¬ 60 < l0.length + l1.length from by omega, show ¬ 120 < l3.length from by omega])
    go_enter Tryd.func52, Tryd.ntmps52
    go_wp2_with (first | (go_at_call 81; (with_reducible refine (K0.out _ ST.out).mono ?_); rintro e w1 ⟨rfl, z1, f0, f1, f2, f3, f4, f5, f6⟩))
    go_ret
    exact ⟨⟨_, rfl, by rw [HE.out]; exact .inr (.inl ⟨by simp, rfl, rfl⟩)⟩, LA.out _ z1.out⟩
  cases b1
  · skip
    have HE := Lib.hid (show chk true false l0.length l1.length a2 l3 = (10, -1) by simp [chk, show ¬ 60 < l0.length + l1.length from by omega, show ¬ 120 < l3.length from by omega])
    go_enter Tryd.func52, Tryd.ntmps52
    go_wp2_with (first | (go_at_call 81; (with_reducible refine (K0.out _ ST.out).mono ?_); rintro e w1 ⟨rfl, z1, f0, f1, f2, f3, f4, f5, f6⟩) | (go_at_call 81; (with_reducible refine (K1.out _ z1.out).mono ?_); rintro e w2 ⟨rfl, z2, g0, g1, g2, g3, g4, g5, g6⟩))
    go_ret
    exact ⟨⟨_, rfl, by rw [HE.out]; exact .inr (.inl ⟨by simp, rfl, rfl⟩)⟩, LA.out _ z2.out⟩
  by_cases d4 : a2 < 0
  · have e4 : decide (a2 < 0) = true := decide_eq_true d4
    have HE := Lib.hid (show chk true true l0.length l1.length a2 l3 = (1, -1) by simp [chk, show ¬ 60 < l0.length + l1.length from by omega, show ¬ 120 < l3.length from by omega, d4])
    go_enter Tryd.func52, Tryd.ntmps52
    go_wp2_with (first | (go_at_call 81; (with_reducible refine (K0.out _ ST.out).mono ?_); rintro e w1 ⟨rfl, z1, f0, f1, f2, f3, f4, f5, f6⟩) | (go_at_call 81; (with_reducible refine (K1.out _ z1.out).mono ?_); rintro e w2 ⟨rfl, z2, g0, g1, g2, g3, g4, g5, g6⟩))
    go_ret
    exact ⟨⟨_, rfl, by rw [HE.out]; exact .inr (.inl ⟨by simp, rfl, rfl⟩)⟩, LA.out _ z2.out⟩
  have e4 : decide (a2 < 0) = false := decide_eq_false d4
  by_cases d5 : (l1.length : Int) ≤ a2
  · have e5 : decide ((l1.length : Int) ≤ a2) = true := decide_eq_true d5
    have HE := Lib.hid (show chk true true l0.length l1.length a2 l3 = (1, -1) by simp [chk, show ¬ 60 < l0.length + l1.length from by omega, show ¬ 120 < l3.length from by omega, d5])
    go_enter Tryd.func52, Tryd.ntmps52
    go_wp2_with (first | (go_at_call 81; (with_reducible refine (K0.out _ ST.out).mono ?_); rintro e w1 ⟨rfl, z1, f0, f1, f2, f3, f4, f5, f6⟩) | (go_at_call 81; (with_reducible refine (K1.out _ z1.out).mono ?_); rintro e w2 ⟨rfl, z2, g0, g1, g2, g3, g4, g5, g6⟩))
    go_ret
    exact ⟨⟨_, rfl, by rw [HE.out]; exact .inr (.inl ⟨by simp, rfl, rfl⟩)⟩, LA.out _ z2.out⟩
  have e5 : decide ((l1.length : Int) ≤ a2) = false := decide_eq_false d5
  have HE := Lib.hid (show chk true true l0.length l1.length a2 l3 = chkRs l0.length l1.length l3 0 by simp [chk, show ¬ 60 < l0.length + l1.length from by omega, show ¬ 120 < l3.length from by omega, d4, d5])
  go_enter Tryd.func52, Tryd.ntmps52
  go_wp2_with (first | (go_at_call 81; (with_reducible refine (K0.out _ ST.out).mono ?_); rintro e w1 ⟨rfl, z1, f0, f1, f2, f3, f4, f5, f6⟩) | (go_at_call 81; (with_reducible refine (K1.out _ z1.out).mono ?_); rintro e w2 ⟨rfl, z2, g0, g1, g2, g3, g4, g5, g6⟩))
  go_loopw [3, 4, 5, 53] (fun _ _ _ i wr => ∃ j : Nat, j ≤ l3.length ∧ i = .int .i64 j ∧ Aside0 (Tw wr) ∧ Hid (chkRs l0.length l1.length (l3.drop j) j = chkRs l0.length l1.length l3 0)) (fun _ _ _ i _ => l3.length - (intOf i).toNat)
  case atStart => exact ⟨0, Nat.zero_le _, rfl, z2, Lib.hid rfl⟩
  case round =>
    obtain ⟨j, hj, rfl, htw, hok⟩ := hrel
    clear f0 f1 f2 f3 f4 f5 f6 g0 g1 g2 g3 g4 g5 g6 s0 s1 s2 s3 s4 s5 s6
    by_cases hlt : j < l3.length
    · obtain ⟨f0, f1, f2, f3, f4, f5, f6⟩ := CE.out wr htw.out
      obtain ⟨ad', A, cc, rfl, h0, h1, h2, h3⟩ := at_T41 (Kd.C_below HR3.out (LA.out wr htw.out)) (j : Int) (by omega) (by omega)
      have q0 : rd_T41 l3 (j : Int) = l3[j] := by simp [rd_T41, List.getD_eq_getElem?_getD, List.getElem?_eq_getElem hlt]
      have hn := chkRs_drop l0.length l1.length l3 j hlt
      rw [Int.toNat_natCast] at h0 h1
      rw [q0] at h0 h1 h2 h3
      generalize l3[j] = x at h0 h1 h2 h3 hn
      have hGr : Sents ad wr := ⟨f4, f5, f6⟩
      have f0a := fun o => Lib.cell?_alloc_some o f0
      have f1a := fun o => Lib.cell?_alloc_some o f1
      have f2a := fun o => Lib.cell?_alloc_some o f2
      have f3a := fun o => Lib.cell?_alloc_some o f3
      have hcall : ∀ W, Below wr.heap.size wr W → Calls Tryd.prog 82 #[.agg #[.slice A0 l0.length c0, .slice A1 l1.length c1, .int .i64 a2, .slice (some ad') l3.length c3], .agg #[.int .i64 x.f0, .slice A x.f1.length cc]] W fun e w' => e = .returned (ruleV ad (checkR l0.length l1.length x)) ∧ Aside0 (Tw w') := by
        intro W hW
        refine (Rule_full ad A0 c0 l0.length A1 c1 l1.length a2 _ x A cc W (hGr.below hW) (by omega) (by omega) (Kd.C_below h3 hW) h2).mono ?_
        rintro e w' ⟨he, hb⟩
        exact ⟨he, ⟨MO.out _ _ (MO.out _ _ htw.out hW) hb⟩⟩
      by_cases hq : checkR l0.length l1.length x = 0
      · rw [if_pos hq] at hn
        rw [hq, show ruleV ad 0 = .nilIface from rfl] at hcall
        have HC := Aside0.mk hcall
        have HN := Lib.hid hn
        clear hcall h3 q0 hq hn hGr
        go_wp2_with (go_at_call 82; (with_reducible refine (HC.out _ ((Below.refl _ wr).alloc (Nat.le_refl _) _)).mono ?_); rintro e w' ⟨rfl, t3⟩)
        go_roundw
        case measure => simp [intOf]; omega
        case rel => exact ⟨j + 1, by omega, rfl, t3, Lib.hid (HN.out.symm.trans hok.out)⟩
      · rw [if_neg hq] at hn
        have hc : checkR l0.length l1.length x = 3 ∨ checkR l0.length l1.length x = 1 := (checkR_cases l0.length l1.length x).elim (fun h => absurd h.1 hq) (fun h => h.1)
        rw [show ruleV ad (checkR l0.length l1.length x) = .iface 190 (.pointer (some (ad (checkR l0.length l1.length x)))) from if_neg hq] at hcall
        generalize checkR l0.length l1.length x = c at hcall hn hc
        have HC := Aside0.mk hcall
        have HN := Lib.hid (hn.symm.trans hok.out)
        have HCC := Aside0.mk hc
        clear hcall h3 q0 hq hn hGr hc
        go_wp2_with (go_at_call 82; (with_reducible refine (HC.out _ ((Below.refl _ wr).alloc (Nat.le_refl _) _)).mono ?_); rintro e w' ⟨rfl, t3⟩)
        go_ret
        exact ⟨⟨_, rfl, by rw [HE.out, ← HN.out]; exact .inr (.inr ⟨HCC.out, by simp, by simp; omega, _, rfl, heap_alloc_new _ _⟩)⟩, (LA.out _ t3.out).alloc (LA.out _ t3.out).size _⟩
    · have hjn : j = l3.length := by omega
      subst hjn
      have HN := Lib.hid (show chkRs l0.length l1.length l3 0 = (0, -1) by have := hok.out; rw [List.drop_length] at this; exact this.symm)
      go_wp2_with fail
      go_ret
      exact ⟨⟨_, rfl, by rw [HE.out, HN.out]; exact .inl ⟨rfl, rfl, rfl⟩⟩, LA.out _ htw.out⟩
theorem chkRs_ok (t n : Nat) : ∀ (R : List S41) (j : Nat), (chkRs t n R j).1 = 0 → ∀ x ∈ R, okR t n x = true
  | [], _, _, x, hx => by cases hx
  | y :: R, j, h, x, hx => by
    unfold chkRs at h
    rcases checkR_cases t n y with ⟨h0, hok⟩ | ⟨h0, _⟩
    · rw [if_pos h0] at h
      rcases List.mem_cons.1 hx with rfl | hx
      · exact hok
      · exact chkRs_ok t n R (j + 1) h x hx
    · rw [if_neg (by rcases h0 with h0 | h0 <;> omega)] at h
      rcases h0 with h0 | h0 <;> (dsimp only at h; omega)
theorem chk_ok {b0 b1 : Bool} {n0 n1 : Nat} {a2 : Int} {R : List S41} (h : (chk b0 b1 n0 n1 a2 R).1 = 0) : n0 + n1 ≤ 60 ∧ R.length ≤ 120 ∧ b0 = true ∧ b1 = true ∧ 0 ≤ a2 ∧ a2 < (n1 : Int) ∧ ∀ x ∈ R, okR n0 n1 x = true := by
  unfold chk at h
  split at h
  · simp at h
  · split at h
    · simp at h
    · split at h
      · simp at h
      · rename_i h1 h2 h3
        simp only [Bool.and_eq_false_iff, not_or, Bool.not_eq_false] at h2
        exact ⟨by omega, by omega, h2.1, h2.2, by omega, by omega, chkRs_ok _ _ R 0 h⟩
end Go.Proofs.YtjkifeladmhkoaaDoor.B
/- Names: their places, and which lists of names are right. -/
set_option linter.unusedVariables false
set_option linter.unusedSimpArgs false
namespace Go.Proofs.YtjkifeladmhkoaaDoor.B
open Go.RowKit Go.Proofs.YtjkifeladmhkoaaDoorW.PrintWords Go.Proofs.YtjkifeladmhkoaaDoorW.PrintLast Go.Proofs.YtjkifeladmhkoaaDoorW.PrintMore

theorem toL_eq (a b : ByteArray) : a.toList = b.toList ↔ a = b := by
  constructor
  · intro h
    rw [ByteArray.toList_eq, ByteArray.toList_eq] at h
    have := Array.ext' h
    cases a; cases b; simp_all
  · rintro rfl; rfl

/-- The place of a name from a place on; -1: none. -/
def place (l : List ByteArray) (s : ByteArray) (i : Nat) : Int := if (l.drop i).findIdx (fun x => decide (s = x)) < (l.drop i).length then ((i + (l.drop i).findIdx (fun x => decide (s = x)) : Nat) : Int) else -1
theorem place_end (l : List ByteArray) (s : ByteArray) : place l s l.length = -1 := by simp [place]
theorem place_step (l : List ByteArray) (s : ByteArray) (i : Nat) (h : i < l.length) : place l s i = if s = l[i] then (i : Int) else place l s (i + 1) := by
  unfold place
  rw [List.drop_eq_getElem_cons h, List.findIdx_cons, List.length_cons]
  by_cases c : s = l[i]
  · rw [if_pos c, decide_eq_true c, cond_true, if_pos (by omega)]; rfl
  · rw [if_neg c, decide_eq_false c, cond_false]
    by_cases c2 : (l.drop (i + 1)).findIdx (fun x => decide (s = x)) < (l.drop (i + 1)).length
    · rw [if_pos (by omega), if_pos c2]; congr 1; omega
    · rw [if_neg (by omega), if_neg c2]
theorem place_nonneg (l : List ByteArray) (s : ByteArray) : 0 ≤ place l s 0 ↔ s ∈ l := by
  have : (l.findIdx (fun x => decide (s = x)) < l.length) ↔ s ∈ l := by
    rw [List.findIdx_lt_length]; simp
  unfold place
  rw [List.drop_zero, ← this]
  split <;> omega
theorem Index_l (l : List ByteArray) (s : ByteArray) (hm : l.length ≤ 9223372036854775807) : ∀ (d i k : Nat), l.length - i = d → i ≤ l.length → d < k → slices_Index_string_string.l0 k l s (l.length : Int) (i : Int) = some (place l s i) := by
  intro d
  induction d with
  | zero =>
    intro i k hi hle hk
    obtain ⟨k, rfl⟩ : ∃ j, k = j + 1 := ⟨k - 1, by omega⟩
    have : i = l.length := by omega
    subst this
    rw [slices_Index_string_string.l0, if_neg (by omega), place_end]
  | succ d ih =>
    intro i k hi hle hk
    obtain ⟨k, rfl⟩ : ∃ j, k = j + 1 := ⟨k - 1, by omega⟩
    have hlt : i < l.length := by omega
    rw [slices_Index_string_string.l0, if_pos (by omega), if_pos (by omega), if_pos (by omega), rdS_D, getD_lt _ _ _ hlt, place_step l s i hlt]
    by_cases c : s = l[i]
    · rw [if_pos ((toL_eq _ _).2 c), if_pos c]
    · rw [if_neg (fun h => c ((toL_eq _ _).1 h)), if_neg c, w64 i (by omega), ih (i + 1) k (by omega) (by omega) (by omega)]
theorem Index_f (l : List ByteArray) (s : ByteArray) (k : Nat) (hm : l.length ≤ 9223372036854775807) (hk : l.length < k) : slices_Index_string_string.f k l s = some (place l s 0) := by
  unfold slices_Index_string_string.f
  have := Index_l l s hm l.length 0 k (by omega) (by omega) hk
  simpa using this
/-- Is a name of a list wrong? -/
def faultAt (l : List ByteArray) (i : Nat) : Bool := decide ((l.getD i ByteArray.empty).size = 0) || decide (32 < (l.getD i ByteArray.empty).size) || (l.take i).any (fun x => decide (l.getD i ByteArray.empty = x))
/-- Are all names right? -/
def namesOK (l : List ByteArray) : Bool := (List.range l.length).all fun i => !faultAt l i
def namesFrom (l : List ByteArray) (i : Nat) : Bool := (List.range' i (l.length - i)).all fun i => !faultAt l i
theorem namesFrom_zero (l : List ByteArray) : namesFrom l 0 = namesOK l := by simp [namesFrom, namesOK, List.range_eq_range']
theorem namesFrom_step (l : List ByteArray) (i : Nat) (h : i < l.length) : namesFrom l i = (!faultAt l i && namesFrom l (i + 1)) := by
  unfold namesFrom
  rw [show l.length - i = (l.length - (i + 1)) + 1 from by omega, List.range'_succ, List.all_cons]
theorem namesFrom_end (l : List ByteArray) : namesFrom l l.length = true := by simp [namesFrom]

theorem NameFault_f (l : List ByteArray) (i k : Nat) (h : i < l.length) (hm : l.length ≤ 9223372036854775807) (hk : l.length < k) : gram_nameFault.f k l (i : Int) = some (faultAt l i) := by
  unfold gram_nameFault.f faultAt slices_Contains_string_string.f
  rw [if_pos (by omega), if_pos (by omega), rdS_D, Int.toNat_natCast]
  generalize l.getD i ByteArray.empty = s
  by_cases c1 : s.size = 0
  · rw [if_pos (by omega)]; simp [c1]
  · rw [if_neg (by omega)]
    by_cases c2 : 32 < s.size
    · rw [if_pos (by omega)]; simp [c2]
    · rw [if_neg (by omega), if_pos (by omega), Index_f _ s k (by rw [List.length_take]; omega) (by rw [List.length_take]; omega), Option.bind_some, Option.bind_some]
      cases c3 : (l.take i).any (fun x => decide (s = x)) with
      | true =>
        have : s ∈ l.take i := by
          obtain ⟨x, hx, he⟩ := List.any_eq_true.1 c3
          rw [of_decide_eq_true he]; exact hx
        rw [if_pos (decide_eq_true ((place_nonneg (l.take i) s).2 this)), Bool.or_true]
      | false =>
        have : ¬ s ∈ l.take i := fun hs => by
          have := List.any_eq_false.1 c3 s hs
          simp at this
        rw [if_neg (by rw [decide_eq_true_eq]; exact fun h => this ((place_nonneg (l.take i) s).1 h)), decide_eq_false c1, decide_eq_false c2]; rfl
theorem Names_l (l : List ByteArray) (hm : l.length ≤ 9223372036854775807) : ∀ (d i k : Nat), l.length - i = d → i ≤ l.length → d + l.length + 1 < k → gram_names.l0 k l (l.length : Int) (i : Int) = some (namesFrom l i) := by
  intro d
  induction d with
  | zero =>
    intro i k hi hle hk
    obtain ⟨k, rfl⟩ : ∃ j, k = j + 1 := ⟨k - 1, by omega⟩
    have : i = l.length := by omega
    subst this
    rw [gram_names.l0, if_neg (by omega), namesFrom_end]
  | succ d ih =>
    intro i k hi hle hk
    obtain ⟨k, rfl⟩ : ∃ j, k = j + 1 := ⟨k - 1, by omega⟩
    have hlt : i < l.length := by omega
    rw [gram_names.l0, if_pos (by omega), NameFault_f l i k hlt hm (by omega), Option.bind_some, namesFrom_step l i hlt]
    cases hf : faultAt l i with
    | true => rw [if_pos rfl]; rfl
    | false => rw [if_neg (by decide), w64 i (by omega), ih (i + 1) k (by omega) (by omega) (by omega)]; rfl
theorem Names_f (l : List ByteArray) (k : Nat) (hm : l.length ≤ 9223372036854775807) (hk : l.length + l.length + 1 < k) : gram_names.f k l = some (namesOK l) := by
  unfold gram_names.f
  have := Names_l l hm l.length 0 k (by omega) (by omega) hk
  rw [namesFrom_zero] at this
  simpa using this
end Go.Proofs.YtjkifeladmhkoaaDoor.B
namespace Go.Proofs.YtjkifeladmhkoaaDoor.B
open Go.RowKit Go.Proofs.YtjkifeladmhkoaaDoorW.PrintWords Go.Proofs.YtjkifeladmhkoaaDoorW.PrintLast Go.Proofs.YtjkifeladmhkoaaDoorW.PrintMore
attribute [local go_sem] max2_int min2_int max_two min_two max_three min_three max_four min_four   -- for this text's walks alone
set_option linter.unusedVariables false
set_option linter.unusedSimpArgs false

/-! ### dovetailref03_named: function 89 -/
mutual
def dovetailref03_named.l0 : Nat → List ByteArray → Int → Option (Bool)
  | 0, _, _ => none
  | k + 1, x0, x3 => if x3 < (x0.length : Int) then (if 0 ≤ x3 then (if ((rdOf ByteArray.empty x0 x3).size : Int) = 0 then (dovetailref03_named.j1 k x0 x3 true) else (dovetailref03_named.j1 k x0 x3 (decide (((rdOf ByteArray.empty x0 x3).size : Int) > 32)))) else (none)) else (some true)
def dovetailref03_named.j1 : Nat → List ByteArray → Int → Bool → Option (Bool)
  | 0, _, _, _ => none
  | k + 1, x0, x3, x24 => if x24 = true then (some false) else (dovetailref03_named.l1 k x0 x3 0)
def dovetailref03_named.l1 : Nat → List ByteArray → Int → Int → Option (Bool)
  | 0, _, _, _ => none
  | k + 1, x0, x3, x4 => if x4 < x3 then (if 0 ≤ x4 then (if x4 < (x0.length : Int) then (if 0 ≤ x3 then (if x3 < (x0.length : Int) then (if (rdOf ByteArray.empty x0 x4).toList = (rdOf ByteArray.empty x0 x3).toList then (some false) else (dovetailref03_named.l1 k x0 x3 (wrap64 (x4 + 1)))) else (none)) else (none)) else (none)) else (none)) else (dovetailref03_named.l0 k x0 (wrap64 (x3 + 1)))
end
def dovetailref03_named.f (k : Nat) (l0 : List ByteArray) : Option (Bool) := dovetailref03_named.l0 k l0 0
theorem dovetailref03_named.mono_l : ∀ k, (∀ y0 y1, LeO (dovetailref03_named.l0 k y0 y1) (dovetailref03_named.l0 (k + 1) y0 y1)) ∧ (∀ y0 y1 y2, LeO (dovetailref03_named.j1 k y0 y1 y2) (dovetailref03_named.j1 (k + 1) y0 y1 y2)) ∧ (∀ y0 y1 y2, LeO (dovetailref03_named.l1 k y0 y1 y2) (dovetailref03_named.l1 (k + 1) y0 y1 y2))
  | 0 => ⟨fun _ _ r h => by simp [dovetailref03_named.l0] at h, fun _ _ _ r h => by simp [dovetailref03_named.j1] at h, fun _ _ _ r h => by simp [dovetailref03_named.l1] at h⟩
  | k + 1 => by
    obtain ⟨ih0, ih1, ih2⟩ := dovetailref03_named.mono_l k
    refine ⟨?_, ?_, ?_⟩
    · intro y0 y1
      unfold dovetailref03_named.l0
      repeat' first
      | (with_reducible exact ih0 _ _)
      | (with_reducible exact ih1 _ _ _)
      | (with_reducible exact ih2 _ _ _)
      | (with_reducible exact LeO.refl _)
      | (with_reducible exact LeO.none _)
      | (with_reducible refine LeO.ite ?_ ?_)
      | (with_reducible refine LeO.bind ?_ (fun _ => ?_))
      | exact ih0 _ _
      | exact ih1 _ _ _
      | exact ih2 _ _ _
      | exact LeO.none _
      | refine LeO.ite ?_ ?_
      | refine LeO.bind ?_ (fun _ => ?_)
    · intro y0 y1 y2
      unfold dovetailref03_named.j1
      repeat' first
      | (with_reducible exact ih0 _ _)
      | (with_reducible exact ih1 _ _ _)
      | (with_reducible exact ih2 _ _ _)
      | (with_reducible exact LeO.refl _)
      | (with_reducible exact LeO.none _)
      | (with_reducible refine LeO.ite ?_ ?_)
      | (with_reducible refine LeO.bind ?_ (fun _ => ?_))
      | exact ih0 _ _
      | exact ih1 _ _ _
      | exact ih2 _ _ _
      | exact LeO.none _
      | refine LeO.ite ?_ ?_
      | refine LeO.bind ?_ (fun _ => ?_)
    · intro y0 y1 y2
      unfold dovetailref03_named.l1
      repeat' first
      | (with_reducible exact ih0 _ _)
      | (with_reducible exact ih1 _ _ _)
      | (with_reducible exact ih2 _ _ _)
      | (with_reducible exact LeO.refl _)
      | (with_reducible exact LeO.none _)
      | (with_reducible refine LeO.ite ?_ ?_)
      | (with_reducible refine LeO.bind ?_ (fun _ => ?_))
      | exact ih0 _ _
      | exact ih1 _ _ _
      | exact ih2 _ _ _
      | exact LeO.none _
      | refine LeO.ite ?_ ?_
      | refine LeO.bind ?_ (fun _ => ?_)
theorem dovetailref03_named.mono : ∀ a0 k, LeO (dovetailref03_named.f k a0) (dovetailref03_named.f (k + 1) a0) := by
  intro a0 k
  obtain ⟨ih0, ih1, ih2⟩ := dovetailref03_named.mono_l k
  unfold dovetailref03_named.f
  repeat' first
      | (with_reducible exact ih0 _ _)
      | (with_reducible exact ih1 _ _ _)
      | (with_reducible exact ih2 _ _ _)
      | (with_reducible exact LeO.refl _)
      | (with_reducible exact LeO.none _)
      | (with_reducible refine LeO.ite ?_ ?_)
      | (with_reducible refine LeO.bind ?_ (fun _ => ?_))
      | exact ih0 _ _
      | exact ih1 _ _ _
      | exact ih2 _ _ _
      | exact LeO.none _
      | refine LeO.ite ?_ ?_
      | refine LeO.bind ?_ (fun _ => ?_)
set_option maxHeartbeats 8000000 in
set_option maxRecDepth 100000 in
theorem dovetailref03_named.calls (k : Nat) (A0 : Option Addr) (c0 : Nat) (l0 : List ByteArray) (r : Bool) (w : World) (hr0 : Kd.C Kd.string w A0 l0.length l0) (hc0 : l0.length ≤ c0) (h : dovetailref03_named.f k l0 = some r) :
    Calls Tryd.prog 89 #[.slice A0 l0.length c0] w fun e w' => e = .returned (.bool r) ∧ Drawn0 w w' := by
  have HR0 := Aside0.mk hr0
  have HC0 := Aside0.mk hc0
  clear hr0 hc0
  have H : (dovetailref03_named.l0 k l0 0) = some r := h
  clear h
  have H' := Aside0.mk H
  clear H
  go_enter Tryd.func89, Tryd.ntmps89
  go_wp2
  repeat (go_quiet (fail); try go_wp2)
  go_loopg [3] k (fun kq v3 w' => ∃ (x3_1 : Int), v3 = .int .i64 x3_1 ∧ Aside0 (dovetailref03_named.l0 kq l0 x3_1 = some r) ∧ Aside0 (kq ≤ k) ∧ Drawn0 w w')
  case atStart => exact ⟨(0), (by first | rfl | (simp; done) | (simp [*]; done)), H', ⟨Nat.le_refl _⟩, by repeat (first | exact Drawn0.refl _ | apply Drawn0.step)⟩
  case round =>
    clear H'
    obtain ⟨x3_1, rfl, HA, HK1, ⟨m1, rfl⟩⟩ := hrel
    cases gk with
    | zero => exact absurd HA.out (by simp [dovetailref03_named.l0])
    | succ k1 =>
      have H := HA.out
      clear HA
      simp only [dovetailref03_named.l0] at H
      by_cases c2 : x3_1 < (l0.length : Int)
      · rw [if_pos c2] at H
        have c2b0 : decide (x3_1 < (l0.length : Int)) = true := decide_eq_true c2
        clear c2
        have HC3 := Aside0.mk H
        clear H
        go_upto_region 4 with (fail)
        repeat (go_quiet (fail); go_upto_region 4 with (fail))
        go_cut [24] (fun v24 wc => ∃ (kq : Nat) (x24_2 : Bool), v24 = .bool x24_2 ∧ Aside0 (dovetailref03_named.j1 kq l0 x3_1 x24_2 = some r) ∧ Aside0 (kq ≤ k1) ∧ Drawn0 w wc)
        case first =>
          have H := HC3.out
          clear HC3
          by_cases c4 : 0 ≤ x3_1
          · rw [if_pos c4] at H
            have c4b0 : decide (0 ≤ x3_1) = true := decide_eq_true c4
            clear c4
            (first | rw [c4b0] | (simp only [i64_w, i32_w]; rw [c4b0]) | skip)
            by_cases c5 : ((rdOf ByteArray.empty l0 x3_1).size : Int) = 0
            · rw [if_pos c5] at H
              have c5b0 : (((rdOf ByteArray.empty l0 x3_1).size : Int) == 0) = true := beq_iff_eq.mpr c5
              have c5b1 : (((rdOf ByteArray.empty l0 x3_1).size : Int) != 0) = false := bne_eq_false_iff_eq.mpr c5
              clear c5
              have H' := Aside0.mk H
              clear H
              have p173 : 0 ≤ (x3_1 : Int) := of_decide_eq_true (by first | (with_reducible assumption) | assumption)
              have q173 : x3_1 < (l0.length : Int) := of_decide_eq_true (by first | (with_reducible assumption) | assumption)
              obtain ⟨ad173, e173, hx173_0⟩ := Kd.at_string HR0.out x3_1 p173 q173
              cases e173
              replace p173 := eq_true p173
              replace q173 := eq_true q173
              go_wp2
              repeat (go_quiet (fail); try go_wp2)
              go_meet
              case rel => exact ⟨_, (true), (by first | rfl | (simp; done) | (simp [*]; done)), H', ⟨by have := HK1.out; first | omega | exact Nat.le_refl _⟩, by repeat (first | exact Drawn0.refl _ | apply Drawn0.step)⟩
            · rw [if_neg c5] at H
              have c5b0 : (((rdOf ByteArray.empty l0 x3_1).size : Int) == 0) = false := beq_eq_false_iff_ne.mpr c5
              have c5b1 : (((rdOf ByteArray.empty l0 x3_1).size : Int) != 0) = true := bne_iff_ne.mpr c5
              have H' := Aside0.mk H
              clear H
              have p173 : 0 ≤ (x3_1 : Int) := of_decide_eq_true (by first | (with_reducible assumption) | assumption)
              have q173 : x3_1 < (l0.length : Int) := of_decide_eq_true (by first | (with_reducible assumption) | assumption)
              obtain ⟨ad173, e173, hx173_0⟩ := Kd.at_string HR0.out x3_1 p173 q173
              cases e173
              replace p173 := eq_true p173
              replace q173 := eq_true q173
              have p174 : 0 ≤ (x3_1 : Int) := of_decide_eq_true (by first | (with_reducible assumption) | assumption)
              have q174 : x3_1 < (l0.length : Int) := of_decide_eq_true (by first | (with_reducible assumption) | assumption)
              obtain ⟨ad174, e174, hx174_0⟩ := Kd.at_string HR0.out x3_1 p174 q174
              obtain rfl : ad173 = ad174 := (by injection e174)
              replace p174 := eq_true p174
              replace q174 := eq_true q174
              go_wp2
              repeat (go_quiet (fail); try go_wp2)
              go_meet
              case rel => exact ⟨_, (decide (((rdOf ByteArray.empty l0 x3_1).size : Int) > 32)), (by first | rfl | (simp; done) | (simp [*]; done)), H', ⟨by have := HK1.out; first | omega | exact Nat.le_refl _⟩, by repeat (first | exact Drawn0.refl _ | apply Drawn0.step)⟩
          · rw [if_neg c4] at H
            exact absurd H (by simp)
        case rest =>
          clear HC3
          try clear p1
          try clear q1
          try clear hx1
          try clear c2
          try clear c2b0
          try clear p2
          try clear c4
          try clear c4b0
          try clear c5
          try clear c5b0
          try clear c5b1
          try clear hx173_0
          try clear hx174_0
          try clear p173
          try clear p174
          try clear q173
          try clear q174
          obtain ⟨kq, x24_2, rfl, HA, HJ2, ⟨mc2, rfl⟩⟩ := hcut
          cases kq with
          | zero => exact absurd HA.out (by simp [dovetailref03_named.j1])
          | succ kj2 =>
            have H := HA.out
            clear HA
            simp only [dovetailref03_named.j1] at H
            by_cases c6 : x24_2 = true
            · subst c6
              have H1 : (some false) = some r := by rw [if_pos rfl] at H; exact H
              clear H
              have H := H1
              clear H1
              obtain rfl := Option.some.inj H
              go_wp2
              repeat (go_quiet (fail); try go_wp2)
              go_ret
              exact ⟨by first | rfl | (simp; done) | (simp [*]; done), by repeat (first | exact Drawn0.refl _ | apply Drawn0.step)⟩
            · replace c6 := Bool.eq_false_iff.mpr c6
              subst c6
              have H1 : (dovetailref03_named.l1 kj2 l0 x3_1 0) = some r := by rw [if_neg (show ¬ (false = true) by decide)] at H; exact H
              clear H
              have H := H1
              clear H1
              have H' := Aside0.mk H
              clear H
              go_wp2
              repeat (go_quiet (fail); try go_wp2)
              go_loopg [4] kj2 (fun kq v4 w' => ∃ (x4_3 : Int), v4 = .int .i64 x4_3 ∧ Aside0 (dovetailref03_named.l1 kq l0 x3_1 x4_3 = some r) ∧ Aside0 (kq ≤ kj2) ∧ Drawn0 w w')
              case atStart => exact ⟨(0), (by first | rfl | (simp; done) | (simp [*]; done)), H', ⟨Nat.le_refl _⟩, by repeat (first | exact Drawn0.refl _ | apply Drawn0.step)⟩
              case round =>
                clear H'
                try clear p1
                try clear q1
                try clear hx1
                try clear c2
                try clear c2b0
                try clear p2
                try clear c4
                try clear c4b0
                try clear c5
                try clear c5b0
                try clear c5b1
                try clear c6
                try clear hx173_0
                try clear hx174_0
                try clear p1
                try clear p173
                try clear p174
                try clear p2
                try clear q1
                try clear q173
                try clear q174
                obtain ⟨x4_3, rfl, HA, HK3, ⟨m3, rfl⟩⟩ := hrel
                cases gk with
                | zero => exact absurd HA.out (by simp [dovetailref03_named.l1])
                | succ k3 =>
                  have H := HA.out
                  clear HA
                  simp only [dovetailref03_named.l1] at H
                  by_cases c7 : x4_3 < x3_1
                  · rw [if_pos c7] at H
                    have c7b0 : decide (x4_3 < x3_1) = true := decide_eq_true c7
                    clear c7
                    by_cases c8 : 0 ≤ x4_3
                    · rw [if_pos c8] at H
                      have c8b0 : decide (0 ≤ x4_3) = true := decide_eq_true c8
                      clear c8
                      by_cases c9 : x4_3 < (l0.length : Int)
                      · rw [if_pos c9] at H
                        have c9b0 : decide (x4_3 < (l0.length : Int)) = true := decide_eq_true c9
                        clear c9
                        by_cases c10 : 0 ≤ x3_1
                        · rw [if_pos c10] at H
                          have c10b0 : decide (0 ≤ x3_1) = true := decide_eq_true c10
                          clear c10
                          by_cases c11 : x3_1 < (l0.length : Int)
                          · rw [if_pos c11] at H
                            have c11b0 : decide (x3_1 < (l0.length : Int)) = true := decide_eq_true c11
                            clear c11
                            by_cases c12 : (rdOf ByteArray.empty l0 x4_3).toList = (rdOf ByteArray.empty l0 x3_1).toList
                            · rw [if_pos c12] at H
                              have c12b0 : ((rdOf ByteArray.empty l0 x4_3).toList == (rdOf ByteArray.empty l0 x3_1).toList) = true := beq_iff_eq.mpr c12
                              have c12b1 : ((rdOf ByteArray.empty l0 x4_3).toList != (rdOf ByteArray.empty l0 x3_1).toList) = false := bne_eq_false_iff_eq.mpr c12
                              clear c12
                              obtain rfl := Option.some.inj H
                              have p175 : 0 ≤ (x4_3 : Int) := of_decide_eq_true (by first | (with_reducible assumption) | assumption)
                              have q175 : x4_3 < (l0.length : Int) := of_decide_eq_true (by first | (with_reducible assumption) | assumption)
                              obtain ⟨ad175, e175, hx175_0⟩ := Kd.at_string HR0.out x4_3 p175 q175
                              cases e175
                              replace p175 := eq_true p175
                              replace q175 := eq_true q175
                              have p176 : 0 ≤ (x3_1 : Int) := of_decide_eq_true (by first | (with_reducible assumption) | assumption)
                              have q176 : x3_1 < (l0.length : Int) := of_decide_eq_true (by first | (with_reducible assumption) | assumption)
                              obtain ⟨ad176, e176, hx176_0⟩ := Kd.at_string HR0.out x3_1 p176 q176
                              obtain rfl : ad175 = ad176 := (by injection e176)
                              replace p176 := eq_true p176
                              replace q176 := eq_true q176
                              go_wp2
                              repeat (go_quiet (fail); try go_wp2)
                              go_ret
                              exact ⟨by first | rfl | (simp; done) | (simp [*]; done), by repeat (first | exact Drawn0.refl _ | apply Drawn0.step)⟩
                            · rw [if_neg c12] at H
                              have c12b0 : ((rdOf ByteArray.empty l0 x4_3).toList == (rdOf ByteArray.empty l0 x3_1).toList) = false := beq_eq_false_iff_ne.mpr c12
                              have c12b1 : ((rdOf ByteArray.empty l0 x4_3).toList != (rdOf ByteArray.empty l0 x3_1).toList) = true := bne_iff_ne.mpr c12
                              have H' := Aside0.mk H
                              clear H
                              have p175 : 0 ≤ (x4_3 : Int) := of_decide_eq_true (by first | (with_reducible assumption) | assumption)
                              have q175 : x4_3 < (l0.length : Int) := of_decide_eq_true (by first | (with_reducible assumption) | assumption)
                              obtain ⟨ad175, e175, hx175_0⟩ := Kd.at_string HR0.out x4_3 p175 q175
                              cases e175
                              replace p175 := eq_true p175
                              replace q175 := eq_true q175
                              have p176 : 0 ≤ (x3_1 : Int) := of_decide_eq_true (by first | (with_reducible assumption) | assumption)
                              have q176 : x3_1 < (l0.length : Int) := of_decide_eq_true (by first | (with_reducible assumption) | assumption)
                              obtain ⟨ad176, e176, hx176_0⟩ := Kd.at_string HR0.out x3_1 p176 q176
                              obtain rfl : ad175 = ad176 := (by injection e176)
                              replace p176 := eq_true p176
                              replace q176 := eq_true q176
                              go_wp2
                              repeat (go_quiet (fail); try go_wp2)
                              go_roundg k3
                              case measure => have := HK1.out; have := HJ2.out; have := HK3.out; omega
                              case rel => exact ⟨(wrap64 (x4_3 + 1)), (by first | rfl | (simp; done) | (simp [*]; done)), H', ⟨by have := HK1.out; have := HJ2.out; have := HK3.out; omega⟩, by repeat (first | exact Drawn0.refl _ | apply Drawn0.step)⟩
                          · rw [if_neg c11] at H
                            exact absurd H (by simp)
                        · rw [if_neg c10] at H
                          exact absurd H (by simp)
                      · rw [if_neg c9] at H
                        exact absurd H (by simp)
                    · rw [if_neg c8] at H
                      exact absurd H (by simp)
                  · rw [if_neg c7] at H
                    have c7b0 : decide (x4_3 < x3_1) = false := decide_eq_false c7
                    clear c7
                    have H' := Aside0.mk H
                    clear H
                    go_wp2
                    repeat (go_quiet (fail); try go_wp2)
                    go_roundg k3
                    case measure => have := HK1.out; have := HJ2.out; have := HK3.out; omega
                    case rel => exact ⟨(wrap64 (x3_1 + 1)), (by first | rfl | (simp; done) | (simp [*]; done)), H', ⟨by have := HK1.out; have := HJ2.out; have := HK3.out; omega⟩, by repeat (first | exact Drawn0.refl _ | apply Drawn0.step)⟩
      · rw [if_neg c2] at H
        have c2b0 : decide (x3_1 < (l0.length : Int)) = false := decide_eq_false c2
        clear c2
        obtain rfl := Option.some.inj H
        go_wp2
        repeat (go_quiet (fail); try go_wp2)
        go_ret
        exact ⟨by first | rfl | (simp; done) | (simp [*]; done), by repeat (first | exact Drawn0.refl _ | apply Drawn0.step)⟩

end Go.Proofs.YtjkifeladmhkoaaDoor.B
namespace Go.Proofs.YtjkifeladmhkoaaDoor.B
open Go.RowKit Go.Proofs.YtjkifeladmhkoaaDoorW.PrintWords Go.Proofs.YtjkifeladmhkoaaDoorW.PrintLast Go.Proofs.YtjkifeladmhkoaaDoorW.PrintMore
attribute [local go_sem] max2_int min2_int max_two min_two max_three min_three max_four min_four   -- for this text's walks alone
set_option linter.unusedVariables false
set_option linter.unusedSimpArgs false

/-! ### dovetailref03_Check: function 65 -/
mutual
def dovetailref03_Check.j0 : Nat → Int → Int → Bool → List ByteArray → List ByteArray → Int → List (S41) → Option (Int × Int)
  | 0, _, _, _, _, _, _, _ => none
  | k + 1, x4, x5, x32, x178000, x178001, x178002, x178003 => if x32 = true then (some (3, (-1))) else ((dovetailref03_named.f k x178000).bind fun t178 => (if t178 = true then ((dovetailref03_named.f k x178001).bind fun t179 => (dovetailref03_Check.j1 k x4 x5 (!t179) x178000 x178001 x178002 x178003)) else (dovetailref03_Check.j1 k x4 x5 true x178000 x178001 x178002 x178003)))
def dovetailref03_Check.j1 : Nat → Int → Int → Bool → List ByteArray → List ByteArray → Int → List (S41) → Option (Int × Int)
  | 0, _, _, _, _, _, _, _ => none
  | k + 1, x4, x5, x42, x178000, x178001, x178002, x178003 => if x42 = true then (some (10, (-1))) else (if x5 = 0 then (dovetailref03_Check.j2 k x4 x5 true x178000 x178001 x178002 x178003) else (if x178002 < 0 then (dovetailref03_Check.j2 k x4 x5 true x178000 x178001 x178002 x178003) else (dovetailref03_Check.j2 k x4 x5 (decide (x178002 ≥ x5)) x178000 x178001 x178002 x178003)))
def dovetailref03_Check.j2 : Nat → Int → Int → Bool → List ByteArray → List ByteArray → Int → List (S41) → Option (Int × Int)
  | 0, _, _, _, _, _, _, _ => none
  | k + 1, x4, x5, x55, x178000, x178001, x178002, x178003 => if x55 = true then (some (1, (-1))) else (dovetailref03_Check.l0 k x4 x5 0 x178000 x178001 x178002 x178003)
def dovetailref03_Check.l0 : Nat → Int → Int → Int → List ByteArray → List ByteArray → Int → List (S41) → Option (Int × Int)
  | 0, _, _, _, _, _, _, _ => none
  | k + 1, x4, x5, x6, x178000, x178001, x178002, x178003 => if x6 < (x178003.length : Int) then (if 0 ≤ x6 then (if (((rd_T41 x178003 x6).f1).length : Int) > 32 then (some (3, x6)) else (if ((rd_T41 x178003 x6).f0) < 0 then (dovetailref03_Check.j4 k x4 x5 x6 true x178000 x178001 x178002 x178003 ((rd_T41 x178003 x6).f0) ((rd_T41 x178003 x6).f1)) else (dovetailref03_Check.j4 k x4 x5 x6 (decide (((rd_T41 x178003 x6).f0) ≥ x5)) x178000 x178001 x178002 x178003 ((rd_T41 x178003 x6).f0) ((rd_T41 x178003 x6).f1)))) else (none)) else (some (0, (-1)))
def dovetailref03_Check.j4 : Nat → Int → Int → Int → Bool → List ByteArray → List ByteArray → Int → List (S41) → Int → List Int → Option (Int × Int)
  | 0, _, _, _, _, _, _, _, _, _, _ => none
  | k + 1, x4, x5, x6, x81, x178000, x178001, x178002, x178003, x182000, x182001 => if x81 = true then (some (1, x6)) else (dovetailref03_Check.l1 k x4 x5 x6 0 x178000 x178001 x178002 x178003 x182000 x182001)
def dovetailref03_Check.l1 : Nat → Int → Int → Int → Int → List ByteArray → List ByteArray → Int → List (S41) → Int → List Int → Option (Int × Int)
  | 0, _, _, _, _, _, _, _, _, _, _ => none
  | k + 1, x4, x5, x6, x8, x178000, x178001, x178002, x178003, x182000, x182001 => if x8 < (x182001.length : Int) then (if 0 ≤ x8 then (if (rd x182001 x8) ≥ x4 then (some (1, x6)) else (if (rd x182001 x8) < (wrap64 (-x5)) then (some (1, x6)) else (dovetailref03_Check.l1 k x4 x5 x6 (wrap64 (x8 + 1)) x178000 x178001 x178002 x178003 x182000 x182001))) else (none)) else (dovetailref03_Check.l0 k x4 x5 (wrap64 (x6 + 1)) x178000 x178001 x178002 x178003)
end
def dovetailref03_Check.f (k : Nat) (l0_0 : List ByteArray) (l0_1 : List ByteArray) (a0_2 : Int) (l0_3 : List (S41)) : Option (Int × Int) := if (l0_0.length : Int) > 60 then (dovetailref03_Check.j0 k (l0_0.length : Int) (l0_1.length : Int) true l0_0 l0_1 a0_2 l0_3) else (if (l0_1.length : Int) > 60 then (dovetailref03_Check.j0 k (l0_0.length : Int) (l0_1.length : Int) true l0_0 l0_1 a0_2 l0_3) else (if (wrap64 ((l0_0.length : Int) + (l0_1.length : Int))) > 60 then (dovetailref03_Check.j0 k (l0_0.length : Int) (l0_1.length : Int) true l0_0 l0_1 a0_2 l0_3) else (dovetailref03_Check.j0 k (l0_0.length : Int) (l0_1.length : Int) (decide ((l0_3.length : Int) > 120)) l0_0 l0_1 a0_2 l0_3)))
theorem dovetailref03_Check.mono_l : ∀ k, (∀ y0 y1 y2 y3 y4 y5 y6, LeO (dovetailref03_Check.j0 k y0 y1 y2 y3 y4 y5 y6) (dovetailref03_Check.j0 (k + 1) y0 y1 y2 y3 y4 y5 y6)) ∧ (∀ y0 y1 y2 y3 y4 y5 y6, LeO (dovetailref03_Check.j1 k y0 y1 y2 y3 y4 y5 y6) (dovetailref03_Check.j1 (k + 1) y0 y1 y2 y3 y4 y5 y6)) ∧ (∀ y0 y1 y2 y3 y4 y5 y6, LeO (dovetailref03_Check.j2 k y0 y1 y2 y3 y4 y5 y6) (dovetailref03_Check.j2 (k + 1) y0 y1 y2 y3 y4 y5 y6)) ∧ (∀ y0 y1 y2 y3 y4 y5 y6, LeO (dovetailref03_Check.l0 k y0 y1 y2 y3 y4 y5 y6) (dovetailref03_Check.l0 (k + 1) y0 y1 y2 y3 y4 y5 y6)) ∧ (∀ y0 y1 y2 y3 y4 y5 y6 y7 y8 y9, LeO (dovetailref03_Check.j4 k y0 y1 y2 y3 y4 y5 y6 y7 y8 y9) (dovetailref03_Check.j4 (k + 1) y0 y1 y2 y3 y4 y5 y6 y7 y8 y9)) ∧ (∀ y0 y1 y2 y3 y4 y5 y6 y7 y8 y9, LeO (dovetailref03_Check.l1 k y0 y1 y2 y3 y4 y5 y6 y7 y8 y9) (dovetailref03_Check.l1 (k + 1) y0 y1 y2 y3 y4 y5 y6 y7 y8 y9))
  | 0 => ⟨fun _ _ _ _ _ _ _ r h => by simp [dovetailref03_Check.j0] at h, fun _ _ _ _ _ _ _ r h => by simp [dovetailref03_Check.j1] at h, fun _ _ _ _ _ _ _ r h => by simp [dovetailref03_Check.j2] at h, fun _ _ _ _ _ _ _ r h => by simp [dovetailref03_Check.l0] at h, fun _ _ _ _ _ _ _ _ _ _ r h => by simp [dovetailref03_Check.j4] at h, fun _ _ _ _ _ _ _ _ _ _ r h => by simp [dovetailref03_Check.l1] at h⟩
  | k + 1 => by
    obtain ⟨ih0, ih1, ih2, ih3, ih4, ih5⟩ := dovetailref03_Check.mono_l k
    refine ⟨?_, ?_, ?_, ?_, ?_, ?_⟩
    · intro y0 y1 y2 y3 y4 y5 y6
      unfold dovetailref03_Check.j0
      repeat' first
      | (with_reducible exact ih0 _ _ _ _ _ _ _)
      | (with_reducible exact ih1 _ _ _ _ _ _ _)
      | (with_reducible exact ih2 _ _ _ _ _ _ _)
      | (with_reducible exact ih3 _ _ _ _ _ _ _)
      | (with_reducible exact ih4 _ _ _ _ _ _ _ _ _ _)
      | (with_reducible exact ih5 _ _ _ _ _ _ _ _ _ _)
      | (with_reducible exact dovetailref03_named.mono _ _)
      | (with_reducible exact LeO.refl _)
      | (with_reducible exact LeO.none _)
      | (with_reducible refine LeO.ite ?_ ?_)
      | (with_reducible refine LeO.bind ?_ (fun _ => ?_))
      | exact ih0 _ _ _ _ _ _ _
      | exact ih1 _ _ _ _ _ _ _
      | exact ih2 _ _ _ _ _ _ _
      | exact ih3 _ _ _ _ _ _ _
      | exact ih4 _ _ _ _ _ _ _ _ _ _
      | exact ih5 _ _ _ _ _ _ _ _ _ _
      | exact dovetailref03_named.mono _ _
      | exact LeO.none _
      | refine LeO.ite ?_ ?_
      | refine LeO.bind ?_ (fun _ => ?_)
    · intro y0 y1 y2 y3 y4 y5 y6
      unfold dovetailref03_Check.j1
      repeat' first
      | (with_reducible exact ih0 _ _ _ _ _ _ _)
      | (with_reducible exact ih1 _ _ _ _ _ _ _)
      | (with_reducible exact ih2 _ _ _ _ _ _ _)
      | (with_reducible exact ih3 _ _ _ _ _ _ _)
      | (with_reducible exact ih4 _ _ _ _ _ _ _ _ _ _)
      | (with_reducible exact ih5 _ _ _ _ _ _ _ _ _ _)
      | (with_reducible exact dovetailref03_named.mono _ _)
      | (with_reducible exact LeO.refl _)
      | (with_reducible exact LeO.none _)
      | (with_reducible refine LeO.ite ?_ ?_)
      | (with_reducible refine LeO.bind ?_ (fun _ => ?_))
      | exact ih0 _ _ _ _ _ _ _
      | exact ih1 _ _ _ _ _ _ _
      | exact ih2 _ _ _ _ _ _ _
      | exact ih3 _ _ _ _ _ _ _
      | exact ih4 _ _ _ _ _ _ _ _ _ _
      | exact ih5 _ _ _ _ _ _ _ _ _ _
      | exact dovetailref03_named.mono _ _
      | exact LeO.none _
      | refine LeO.ite ?_ ?_
      | refine LeO.bind ?_ (fun _ => ?_)
    · intro y0 y1 y2 y3 y4 y5 y6
      unfold dovetailref03_Check.j2
      repeat' first
      | (with_reducible exact ih0 _ _ _ _ _ _ _)
      | (with_reducible exact ih1 _ _ _ _ _ _ _)
      | (with_reducible exact ih2 _ _ _ _ _ _ _)
      | (with_reducible exact ih3 _ _ _ _ _ _ _)
      | (with_reducible exact ih4 _ _ _ _ _ _ _ _ _ _)
      | (with_reducible exact ih5 _ _ _ _ _ _ _ _ _ _)
      | (with_reducible exact dovetailref03_named.mono _ _)
      | (with_reducible exact LeO.refl _)
      | (with_reducible exact LeO.none _)
      | (with_reducible refine LeO.ite ?_ ?_)
      | (with_reducible refine LeO.bind ?_ (fun _ => ?_))
      | exact ih0 _ _ _ _ _ _ _
      | exact ih1 _ _ _ _ _ _ _
      | exact ih2 _ _ _ _ _ _ _
      | exact ih3 _ _ _ _ _ _ _
      | exact ih4 _ _ _ _ _ _ _ _ _ _
      | exact ih5 _ _ _ _ _ _ _ _ _ _
      | exact dovetailref03_named.mono _ _
      | exact LeO.none _
      | refine LeO.ite ?_ ?_
      | refine LeO.bind ?_ (fun _ => ?_)
    · intro y0 y1 y2 y3 y4 y5 y6
      unfold dovetailref03_Check.l0
      repeat' first
      | (with_reducible exact ih0 _ _ _ _ _ _ _)
      | (with_reducible exact ih1 _ _ _ _ _ _ _)
      | (with_reducible exact ih2 _ _ _ _ _ _ _)
      | (with_reducible exact ih3 _ _ _ _ _ _ _)
      | (with_reducible exact ih4 _ _ _ _ _ _ _ _ _ _)
      | (with_reducible exact ih5 _ _ _ _ _ _ _ _ _ _)
      | (with_reducible exact dovetailref03_named.mono _ _)
      | (with_reducible exact LeO.refl _)
      | (with_reducible exact LeO.none _)
      | (with_reducible refine LeO.ite ?_ ?_)
      | (with_reducible refine LeO.bind ?_ (fun _ => ?_))
      | exact ih0 _ _ _ _ _ _ _
      | exact ih1 _ _ _ _ _ _ _
      | exact ih2 _ _ _ _ _ _ _
      | exact ih3 _ _ _ _ _ _ _
      | exact ih4 _ _ _ _ _ _ _ _ _ _
      | exact ih5 _ _ _ _ _ _ _ _ _ _
      | exact dovetailref03_named.mono _ _
      | exact LeO.none _
      | refine LeO.ite ?_ ?_
      | refine LeO.bind ?_ (fun _ => ?_)
    · intro y0 y1 y2 y3 y4 y5 y6 y7 y8 y9
      unfold dovetailref03_Check.j4
      repeat' first
      | (with_reducible exact ih0 _ _ _ _ _ _ _)
      | (with_reducible exact ih1 _ _ _ _ _ _ _)
      | (with_reducible exact ih2 _ _ _ _ _ _ _)
      | (with_reducible exact ih3 _ _ _ _ _ _ _)
      | (with_reducible exact ih4 _ _ _ _ _ _ _ _ _ _)
      | (with_reducible exact ih5 _ _ _ _ _ _ _ _ _ _)
      | (with_reducible exact dovetailref03_named.mono _ _)
      | (with_reducible exact LeO.refl _)
      | (with_reducible exact LeO.none _)
      | (with_reducible refine LeO.ite ?_ ?_)
      | (with_reducible refine LeO.bind ?_ (fun _ => ?_))
      | exact ih0 _ _ _ _ _ _ _
      | exact ih1 _ _ _ _ _ _ _
      | exact ih2 _ _ _ _ _ _ _
      | exact ih3 _ _ _ _ _ _ _
      | exact ih4 _ _ _ _ _ _ _ _ _ _
      | exact ih5 _ _ _ _ _ _ _ _ _ _
      | exact dovetailref03_named.mono _ _
      | exact LeO.none _
      | refine LeO.ite ?_ ?_
      | refine LeO.bind ?_ (fun _ => ?_)
    · intro y0 y1 y2 y3 y4 y5 y6 y7 y8 y9
      unfold dovetailref03_Check.l1
      repeat' first
      | (with_reducible exact ih0 _ _ _ _ _ _ _)
      | (with_reducible exact ih1 _ _ _ _ _ _ _)
      | (with_reducible exact ih2 _ _ _ _ _ _ _)
      | (with_reducible exact ih3 _ _ _ _ _ _ _)
      | (with_reducible exact ih4 _ _ _ _ _ _ _ _ _ _)
      | (with_reducible exact ih5 _ _ _ _ _ _ _ _ _ _)
      | (with_reducible exact dovetailref03_named.mono _ _)
      | (with_reducible exact LeO.refl _)
      | (with_reducible exact LeO.none _)
      | (with_reducible refine LeO.ite ?_ ?_)
      | (with_reducible refine LeO.bind ?_ (fun _ => ?_))
      | exact ih0 _ _ _ _ _ _ _
      | exact ih1 _ _ _ _ _ _ _
      | exact ih2 _ _ _ _ _ _ _
      | exact ih3 _ _ _ _ _ _ _
      | exact ih4 _ _ _ _ _ _ _ _ _ _
      | exact ih5 _ _ _ _ _ _ _ _ _ _
      | exact dovetailref03_named.mono _ _
      | exact LeO.none _
      | refine LeO.ite ?_ ?_
      | refine LeO.bind ?_ (fun _ => ?_)
theorem dovetailref03_Check.mono : ∀ a0 a1 a2 a3 k, LeO (dovetailref03_Check.f k a0 a1 a2 a3) (dovetailref03_Check.f (k + 1) a0 a1 a2 a3) := by
  intro a0 a1 a2 a3 k
  obtain ⟨ih0, ih1, ih2, ih3, ih4, ih5⟩ := dovetailref03_Check.mono_l k
  unfold dovetailref03_Check.f
  repeat' first
      | (with_reducible exact ih0 _ _ _ _ _ _ _)
      | (with_reducible exact ih1 _ _ _ _ _ _ _)
      | (with_reducible exact ih2 _ _ _ _ _ _ _)
      | (with_reducible exact ih3 _ _ _ _ _ _ _)
      | (with_reducible exact ih4 _ _ _ _ _ _ _ _ _ _)
      | (with_reducible exact ih5 _ _ _ _ _ _ _ _ _ _)
      | (with_reducible exact dovetailref03_named.mono _ _)
      | (with_reducible exact LeO.refl _)
      | (with_reducible exact LeO.none _)
      | (with_reducible refine LeO.ite ?_ ?_)
      | (with_reducible refine LeO.bind ?_ (fun _ => ?_))
      | exact ih0 _ _ _ _ _ _ _
      | exact ih1 _ _ _ _ _ _ _
      | exact ih2 _ _ _ _ _ _ _
      | exact ih3 _ _ _ _ _ _ _
      | exact ih4 _ _ _ _ _ _ _ _ _ _
      | exact ih5 _ _ _ _ _ _ _ _ _ _
      | exact dovetailref03_named.mono _ _
      | exact LeO.none _
      | refine LeO.ite ?_ ?_
      | refine LeO.bind ?_ (fun _ => ?_)
set_option maxHeartbeats 8000000 in
set_option maxRecDepth 100000 in
theorem dovetailref03_Check.calls (k : Nat) (A0_0 : Option Addr) (c0_0 : Nat) (l0_0 : List ByteArray) (A0_1 : Option Addr) (c0_1 : Nat) (l0_1 : List ByteArray) (a0_2 : Int) (A0_3 : Option Addr) (c0_3 : Nat) (l0_3 : List (S41)) (r1 : Int) (r2 : Int) (w : World) (hr0_0 : Kd.C Kd.string w A0_0 l0_0.length l0_0) (hc0_0 : l0_0.length ≤ c0_0) (hr0_1 : Kd.C Kd.string w A0_1 l0_1.length l0_1) (hc0_1 : l0_1.length ≤ c0_1) (hr0_3 : Kd.C k41 w A0_3 l0_3.length l0_3) (hc0_3 : l0_3.length ≤ c0_3) (h : dovetailref03_Check.f k l0_0 l0_1 a0_2 l0_3 = some (r1, r2)) :
    Calls Tryd.prog 65 #[.agg #[.slice A0_0 l0_0.length c0_0, .slice A0_1 l0_1.length c0_1, .int .i64 a0_2, .slice A0_3 l0_3.length c0_3]] w fun e w' => e = .returned (.tuple #[.int .i64 r1, .int .i64 r2]) ∧ Below w.heap.size w w' := by
  have hu32 := Tryd.underlying32
  have hu41 := Tryd.underlying41
  have HR0_0 := Aside0.mk hr0_0
  have HC0_0 := Aside0.mk hc0_0
  clear hr0_0 hc0_0
  have HR0_1 := Aside0.mk hr0_1
  have HC0_1 := Aside0.mk hc0_1
  clear hr0_1 hc0_1
  have HR0_3 := Aside0.mk hr0_3
  have HC0_3 := Aside0.mk hc0_3
  clear hr0_3 hc0_3
  have HB := Aside0.mk (Below.refl w.heap.size w)
  have H : (if (l0_0.length : Int) > 60 then (dovetailref03_Check.j0 k (l0_0.length : Int) (l0_1.length : Int) true l0_0 l0_1 a0_2 l0_3) else (if (l0_1.length : Int) > 60 then (dovetailref03_Check.j0 k (l0_0.length : Int) (l0_1.length : Int) true l0_0 l0_1 a0_2 l0_3) else (if (wrap64 ((l0_0.length : Int) + (l0_1.length : Int))) > 60 then (dovetailref03_Check.j0 k (l0_0.length : Int) (l0_1.length : Int) true l0_0 l0_1 a0_2 l0_3) else (dovetailref03_Check.j0 k (l0_0.length : Int) (l0_1.length : Int) (decide ((l0_3.length : Int) > 120)) l0_0 l0_1 a0_2 l0_3)))) = some (r1, r2) := h
  clear h
  have HC2 := Aside0.mk H
  clear H
  go_enter Tryd.func65, Tryd.ntmps65
  go_upto_region 3 with (first | ((with_reducible refine gate_dst (N := 1) rfl ?_); (try (refine gate_guard (by rfl) ?_; dsimp only)); refine box_event ?hg (N := 1) ?hd (cs := #[.slice A0_0 l0_0.length c0_0, .slice A0_1 l0_1.length c0_1, .int .i64 a0_2, .slice A0_3 l0_3.length c0_3]) (t := 32) ?hr ?_; (case hd => rfl); (case hg => rfl); (case hr => first | (go_simp; done) | (go_simp; rfl)); intro gb177 hg w3 hbox hb; have n0_ := Aside0.mk (below_step (by repeat (first | (with_reducible first | exact HB.out | apply below_alloc | apply pw_below_drewN | apply below_drew1) | exact HB.out)) hb); have n1_ := Aside0.mk (hbox); have n2_ := Aside0.mk ((by rw [hg]; exact (below_size (by repeat (first | (with_reducible first | exact HB.out | apply below_alloc | apply pw_below_drewN | apply below_drew1) | exact HB.out))) : w.heap.size ≤ gb177)); have n3_ := Aside0.mk ((by rw [hg]; exact (below_size (by repeat (first | (with_reducible first | exact HB.out | apply below_alloc | apply pw_below_drewN | apply below_drew1) | exact HB.out))) : w.heap.size ≤ gb177)); clear HB; have HB := n0_; have BK177 := n1_; have GW177 := n2_; have GE177 := n3_; clear n0_ n1_ n2_ n3_; clear hb hbox hg; have hcz4_0 : w3.cell? ⟨gb177, 0, none⟩ = some (.slice A0_0 l0_0.length c0_0) := (blk_cell BK177.out 0).trans rfl; have hcz4_1 : w3.cell? ⟨gb177, 1, none⟩ = some (.slice A0_1 l0_1.length c0_1) := (blk_cell BK177.out 1).trans rfl; have hcz4_2 : w3.cell? ⟨gb177, 2, none⟩ = some (.int .i64 a0_2) := (blk_cell BK177.out 2).trans rfl; have hcz4_3 : w3.cell? ⟨gb177, 3, none⟩ = some (.slice A0_3 l0_3.length c0_3) := (blk_cell BK177.out 3).trans rfl; have hfz4_0 := blk_frozen BK177.out 0; have hfz4_1 := blk_frozen BK177.out 1; have hfz4_2 := blk_frozen BK177.out 2; have hfz4_3 := blk_frozen BK177.out 3))
  (try simp only [Act.put, List.setIfInBounds_toArray, List.set_cons_zero, List.set_cons_succ])
  go_cut [32] (fun v32 wc => ∃ (kq : Nat) (x32_1 : Bool), v32 = .bool x32_1 ∧ Aside0 (dovetailref03_Check.j0 kq (l0_0.length : Int) (l0_1.length : Int) x32_1 l0_0 l0_1 a0_2 l0_3 = some (r1, r2)) ∧ Aside0 (kq ≤ k) ∧ Aside0 (wc.heap[gb177]? = some (.cells #[(.slice A0_0 l0_0.length c0_0), (.slice A0_1 l0_1.length c0_1), .int .i64 a0_2, (.slice A0_3 l0_3.length c0_3)] 32 (0, 0))) ∧ Aside0 (Below w.heap.size w wc))
  case first =>
    have H := HC2.out
    clear HC2
    by_cases c5 : (l0_0.length : Int) > 60
    · rw [if_pos c5] at H
      have c5b0 : decide (60 < (l0_0.length : Int)) = true := decide_eq_true c5
      have c5b1 : decide (60 < l0_0.length) = true := decide_eq_true (by omega)
      clear c5
      (first | rw [c5b0] | (simp only [i64_w, i32_w]; rw [c5b0]) | skip)
      have H' := Aside0.mk H
      clear H
      go_wp2
      go_meet
      case rel => exact ⟨_, (true), (by first | rfl | (simp; done) | (simp [*]; done)), H', ⟨by first | omega | exact Nat.le_refl _⟩, ⟨by (with_reducible repeat (first | refine blk_drewN ?_ _ | refine blk_drew ?_ | refine blk_alloc ?_ _)); exact BK177.out⟩, ⟨by repeat (first | (with_reducible first | exact HB.out | apply below_alloc | apply pw_below_drewN | apply below_drew1 | refine below_set ?_ GE177.out) | exact HB.out)⟩⟩
    · rw [if_neg c5] at H
      have c5b0 : decide (60 < (l0_0.length : Int)) = false := decide_eq_false c5
      have c5b1 : decide (60 < l0_0.length) = false := decide_eq_false (by omega)
      clear c5
      (first | rw [c5b0] | (simp only [i64_w, i32_w]; rw [c5b0]) | skip)
      by_cases c6 : (l0_1.length : Int) > 60
      · rw [if_pos c6] at H
        have c6b0 : decide (60 < (l0_1.length : Int)) = true := decide_eq_true c6
        have c6b1 : decide (60 < l0_1.length) = true := decide_eq_true (by omega)
        clear c6
        have H' := Aside0.mk H
        clear H
        go_wp2
        go_meet
        case rel => exact ⟨_, (true), (by first | rfl | (simp; done) | (simp [*]; done)), H', ⟨by first | omega | exact Nat.le_refl _⟩, ⟨by (with_reducible repeat (first | refine blk_drewN ?_ _ | refine blk_drew ?_ | refine blk_alloc ?_ _)); exact BK177.out⟩, ⟨by repeat (first | (with_reducible first | exact HB.out | apply below_alloc | apply pw_below_drewN | apply below_drew1 | refine below_set ?_ GE177.out) | exact HB.out)⟩⟩
      · rw [if_neg c6] at H
        have c6b0 : decide (60 < (l0_1.length : Int)) = false := decide_eq_false c6
        have c6b1 : decide (60 < l0_1.length) = false := decide_eq_false (by omega)
        clear c6
        by_cases c7 : (wrap64 ((l0_0.length : Int) + (l0_1.length : Int))) > 60
        · rw [if_pos c7] at H
          have c7b0 : decide (60 < (wrap64 ((l0_0.length : Int) + (l0_1.length : Int)))) = true := decide_eq_true c7
          clear c7
          have H' := Aside0.mk H
          clear H
          go_wp2
          go_meet
          case rel => exact ⟨_, (true), (by first | rfl | (simp; done) | (simp [*]; done)), H', ⟨by first | omega | exact Nat.le_refl _⟩, ⟨by (with_reducible repeat (first | refine blk_drewN ?_ _ | refine blk_drew ?_ | refine blk_alloc ?_ _)); exact BK177.out⟩, ⟨by repeat (first | (with_reducible first | exact HB.out | apply below_alloc | apply pw_below_drewN | apply below_drew1 | refine below_set ?_ GE177.out) | exact HB.out)⟩⟩
        · rw [if_neg c7] at H
          have c7b0 : decide (60 < (wrap64 ((l0_0.length : Int) + (l0_1.length : Int)))) = false := decide_eq_false c7
          clear c7
          have H' := Aside0.mk H
          clear H
          have hcz8_0 : w3.cell? ⟨gb177, 0, none⟩ = some (.slice A0_0 l0_0.length c0_0) := (blk_cell BK177.out 0).trans rfl
          have hcz8_1 : w3.cell? ⟨gb177, 1, none⟩ = some (.slice A0_1 l0_1.length c0_1) := (blk_cell BK177.out 1).trans rfl
          have hcz8_2 : w3.cell? ⟨gb177, 2, none⟩ = some (.int .i64 a0_2) := (blk_cell BK177.out 2).trans rfl
          have hcz8_3 : w3.cell? ⟨gb177, 3, none⟩ = some (.slice A0_3 l0_3.length c0_3) := (blk_cell BK177.out 3).trans rfl
          have hfz8_0 := blk_frozen BK177.out 0
          have hfz8_1 := blk_frozen BK177.out 1
          have hfz8_2 := blk_frozen BK177.out 2
          have hfz8_3 := blk_frozen BK177.out 3
          go_wp2
          go_meet
          case rel => exact ⟨_, (decide ((l0_3.length : Int) > 120)), (by first | rfl | (simp; done) | (simp [*]; done)), H', ⟨by first | omega | exact Nat.le_refl _⟩, ⟨by (with_reducible repeat (first | refine blk_drewN ?_ _ | refine blk_drew ?_ | refine blk_alloc ?_ _)); exact BK177.out⟩, ⟨by repeat (first | (with_reducible first | exact HB.out | apply below_alloc | apply pw_below_drewN | apply below_drew1 | refine below_set ?_ GE177.out) | exact HB.out)⟩⟩
  case rest =>
    clear HC2
    try clear p2
    try clear c5
    try clear c5b0
    try clear c5b1
    try clear c6
    try clear c6b0
    try clear c6b1
    try clear p6
    try clear c7
    try clear c7b0
    try clear hcz4_0
    try clear hcz4_1
    try clear hcz4_2
    try clear hcz4_3
    try clear hcz8_0
    try clear hcz8_1
    try clear hcz8_2
    try clear hcz8_3
    try clear hfz4_0
    try clear hfz4_1
    try clear hfz4_2
    try clear hfz4_3
    try clear hfz8_0
    try clear hfz8_1
    try clear hfz8_2
    try clear hfz8_3
    obtain ⟨kq, x32_1, rfl, HA, HJ1, BK177, HB⟩ := hcut
    cases kq with
    | zero => exact absurd HA.out (by simp [dovetailref03_Check.j0])
    | succ kj1 =>
      have H := HA.out
      clear HA
      simp only [dovetailref03_Check.j0] at H
      by_cases c9 : x32_1 = true
      · subst c9
        have H1 : (some (3, (-1))) = some (r1, r2) := by rw [if_pos rfl] at H; exact H
        clear H
        have H := H1
        clear H1
        simp only [Option.some.injEq, Prod.mk.injEq] at H
        obtain ⟨rfl, rfl⟩ := H
        go_wp2
        go_ret2
        exact ⟨by first | rfl | (simp [errW_none, errW_some] <;> rfl) | (simp [*, errW_none, errW_some] <;> rfl), by repeat (first | (with_reducible first | exact HB.out | apply below_alloc | apply pw_below_drewN | apply below_drew1 | refine below_set ?_ GE177.out) | exact HB.out)⟩
      · replace c9 := Bool.eq_false_iff.mpr c9
        subst c9
        have H1 : ((dovetailref03_named.f kj1 l0_0).bind fun t178 => (if t178 = true then ((dovetailref03_named.f kj1 l0_1).bind fun t179 => (dovetailref03_Check.j1 kj1 (l0_0.length : Int) (l0_1.length : Int) (!t179) l0_0 l0_1 a0_2 l0_3)) else (dovetailref03_Check.j1 kj1 (l0_0.length : Int) (l0_1.length : Int) true l0_0 l0_1 a0_2 l0_3))) = some (r1, r2) := by rw [if_neg (show ¬ (false = true) by decide)] at H; exact H
        clear H
        have H := H1
        clear H1
        have HC10 := Aside0.mk H
        clear H
        go_upto_region 5 with (fail)
        go_cut [42] (fun v42 wc => ∃ (kq : Nat) (x42_9 : Bool), v42 = .bool x42_9 ∧ Aside0 (dovetailref03_Check.j1 kq (l0_0.length : Int) (l0_1.length : Int) x42_9 l0_0 l0_1 a0_2 l0_3 = some (r1, r2)) ∧ Aside0 (kq ≤ kj1) ∧ Aside0 (wc.heap[gb177]? = some (.cells #[(.slice A0_0 l0_0.length c0_0), (.slice A0_1 l0_1.length c0_1), .int .i64 a0_2, (.slice A0_3 l0_3.length c0_3)] 32 (0, 0))) ∧ Aside0 (Below w.heap.size w wc))
        case first =>
          have H := HC10.out
          clear HC10
          replace H := Option.bind_eq_some_iff.mp H
          obtain ⟨t178, A110, H⟩ := H
          replace H : (if t178 = true then ((dovetailref03_named.f kj1 l0_1).bind fun t179 => (dovetailref03_Check.j1 kj1 (l0_0.length : Int) (l0_1.length : Int) (!t179) l0_0 l0_1 a0_2 l0_3)) else (dovetailref03_Check.j1 kj1 (l0_0.length : Int) (l0_1.length : Int) true l0_0 l0_1 a0_2 l0_3)) = some (r1, r2) := H
          have A11 := Aside0.mk A110
          clear A110
          by_cases c12 : t178 = true
          · subst c12
            have H1 : ((dovetailref03_named.f kj1 l0_1).bind fun t179 => (dovetailref03_Check.j1 kj1 (l0_0.length : Int) (l0_1.length : Int) (!t179) l0_0 l0_1 a0_2 l0_3)) = some (r1, r2) := by rw [if_pos rfl] at H; exact H
            clear H
            have H := H1
            clear H1
            replace H := Option.bind_eq_some_iff.mp H
            obtain ⟨t179, A130, H⟩ := H
            replace H : (dovetailref03_Check.j1 kj1 (l0_0.length : Int) (l0_1.length : Int) (!t179) l0_0 l0_1 a0_2 l0_3) = some (r1, r2) := H
            have A13 := Aside0.mk A130
            clear A130
            have H' := Aside0.mk H
            clear H
            have hcz14_0 : wc.cell? ⟨gb177, 0, none⟩ = some (.slice A0_0 l0_0.length c0_0) := (blk_cell BK177.out 0).trans rfl
            have hcz14_1 : wc.cell? ⟨gb177, 1, none⟩ = some (.slice A0_1 l0_1.length c0_1) := (blk_cell BK177.out 1).trans rfl
            have hcz14_2 : wc.cell? ⟨gb177, 2, none⟩ = some (.int .i64 a0_2) := (blk_cell BK177.out 2).trans rfl
            have hcz14_3 : wc.cell? ⟨gb177, 3, none⟩ = some (.slice A0_3 l0_3.length c0_3) := (blk_cell BK177.out 3).trans rfl
            have hfz14_0 := blk_frozen BK177.out 0
            have hfz14_1 := blk_frozen BK177.out 1
            have hfz14_2 := blk_frozen BK177.out 2
            have hfz14_3 := blk_frozen BK177.out 3
            go_wp2_with (first | ((with_reducible refine gate_callee (f := 89) rfl ?_); refine goesL_ (some 35) rfl rfl Tryd.func89 (by kernel_rfl) rfl #[.slice A0_0 l0_0.length c0_0] rfl (by (try simp only [List.map_toArray, List.map_cons, List.map_nil]); first | done | rfl | (simp only [List.length_drop, List.length_take]; rfl)) ?_; (with_reducible refine (dovetailref03_named.calls kj1 _ _ l0_0 true _ ?side1 ?side2 A11.out).mono ?_); (case side1 => repeat (first | exact (Kd.C_below HR0_0.out HB.out) | (with_reducible refine Kd.C_alloc ?_ _) | (with_reducible refine Kd.C_drewN ?_ _) | (with_reducible refine Kd.C_drew ?_))); (case side2 => exact HC0_0.out); rintro e w' ⟨rfl, ⟨nd, rfl⟩⟩; refine ⟨_, rfl, ?_⟩) | (go_at_call 89; (with_reducible refine (dovetailref03_named.calls kj1 _ _ l0_1 t179 _ ?side1 ?side2 A13.out).mono ?_); (case side1 => repeat (first | exact (Kd.C_below HR0_1.out (by repeat (first | (with_reducible first | exact HB.out | apply below_alloc | apply pw_below_drewN | apply below_drew1 | refine below_set ?_ GE177.out) | exact HB.out))) | (with_reducible refine Kd.C_alloc ?_ _) | (with_reducible refine Kd.C_drewN ?_ _) | (with_reducible refine Kd.C_drew ?_))); (case side2 => exact HC0_1.out); rintro e w' ⟨rfl, ⟨nd, rfl⟩⟩))
            go_meet
            case rel => exact ⟨_, (!t179), (by first | rfl | (simp; done) | (simp [*]; done)), H', ⟨by have := HJ1.out; first | omega | exact Nat.le_refl _⟩, ⟨by (with_reducible repeat (first | refine blk_drewN ?_ _ | refine blk_drew ?_ | refine blk_alloc ?_ _)); exact BK177.out⟩, ⟨by repeat (first | (with_reducible first | exact HB.out | apply below_alloc | apply pw_below_drewN | apply below_drew1 | refine below_set ?_ GE177.out) | exact HB.out)⟩⟩
          · replace c12 := Bool.eq_false_iff.mpr c12
            subst c12
            have H1 : (dovetailref03_Check.j1 kj1 (l0_0.length : Int) (l0_1.length : Int) true l0_0 l0_1 a0_2 l0_3) = some (r1, r2) := by rw [if_neg (show ¬ (false = true) by decide)] at H; exact H
            clear H
            have H := H1
            clear H1
            have H' := Aside0.mk H
            clear H
            have hcz15_0 : wc.cell? ⟨gb177, 0, none⟩ = some (.slice A0_0 l0_0.length c0_0) := (blk_cell BK177.out 0).trans rfl
            have hcz15_1 : wc.cell? ⟨gb177, 1, none⟩ = some (.slice A0_1 l0_1.length c0_1) := (blk_cell BK177.out 1).trans rfl
            have hcz15_2 : wc.cell? ⟨gb177, 2, none⟩ = some (.int .i64 a0_2) := (blk_cell BK177.out 2).trans rfl
            have hcz15_3 : wc.cell? ⟨gb177, 3, none⟩ = some (.slice A0_3 l0_3.length c0_3) := (blk_cell BK177.out 3).trans rfl
            have hfz15_0 := blk_frozen BK177.out 0
            have hfz15_1 := blk_frozen BK177.out 1
            have hfz15_2 := blk_frozen BK177.out 2
            have hfz15_3 := blk_frozen BK177.out 3
            go_wp2_with (first | ((with_reducible refine gate_callee (f := 89) rfl ?_); refine goesL_ (some 35) rfl rfl Tryd.func89 (by kernel_rfl) rfl #[.slice A0_0 l0_0.length c0_0] rfl (by (try simp only [List.map_toArray, List.map_cons, List.map_nil]); first | done | rfl | (simp only [List.length_drop, List.length_take]; rfl)) ?_; (with_reducible refine (dovetailref03_named.calls kj1 _ _ l0_0 false _ ?side1 ?side2 A11.out).mono ?_); (case side1 => repeat (first | exact (Kd.C_below HR0_0.out HB.out) | (with_reducible refine Kd.C_alloc ?_ _) | (with_reducible refine Kd.C_drewN ?_ _) | (with_reducible refine Kd.C_drew ?_))); (case side2 => exact HC0_0.out); rintro e w' ⟨rfl, ⟨nd, rfl⟩⟩; refine ⟨_, rfl, ?_⟩))
            go_meet
            case rel => exact ⟨_, (true), (by first | rfl | (simp; done) | (simp [*]; done)), H', ⟨by have := HJ1.out; first | omega | exact Nat.le_refl _⟩, ⟨by (with_reducible repeat (first | refine blk_drewN ?_ _ | refine blk_drew ?_ | refine blk_alloc ?_ _)); exact BK177.out⟩, ⟨by repeat (first | (with_reducible first | exact HB.out | apply below_alloc | apply pw_below_drewN | apply below_drew1 | refine below_set ?_ GE177.out) | exact HB.out)⟩⟩
        case rest =>
          clear HC10
          try clear c1
          try clear p2
          try clear c5
          try clear c5b0
          try clear c5b1
          try clear c6
          try clear c6b0
          try clear c6b1
          try clear p6
          try clear c7
          try clear c7b0
          try clear c8
          try clear c9
          try clear c12
          try clear hcz14_0
          try clear hcz14_1
          try clear hcz14_2
          try clear hcz14_3
          try clear hcz15_0
          try clear hcz15_1
          try clear hcz15_2
          try clear hcz15_3
          try clear hcz4_0
          try clear hcz4_1
          try clear hcz4_2
          try clear hcz4_3
          try clear hcz8_0
          try clear hcz8_1
          try clear hcz8_2
          try clear hcz8_3
          try clear hfz14_0
          try clear hfz14_1
          try clear hfz14_2
          try clear hfz14_3
          try clear hfz15_0
          try clear hfz15_1
          try clear hfz15_2
          try clear hfz15_3
          try clear hfz4_0
          try clear hfz4_1
          try clear hfz4_2
          try clear hfz4_3
          try clear hfz8_0
          try clear hfz8_1
          try clear hfz8_2
          try clear hfz8_3
          try clear p2
          try clear p6
          obtain ⟨kq, x42_9, rfl, HA, HJ9, BK177, HB⟩ := hcut
          cases kq with
          | zero => exact absurd HA.out (by simp [dovetailref03_Check.j1])
          | succ kj9 =>
            have H := HA.out
            clear HA
            simp only [dovetailref03_Check.j1] at H
            by_cases c16 : x42_9 = true
            · subst c16
              have H1 : (some (10, (-1))) = some (r1, r2) := by rw [if_pos rfl] at H; exact H
              clear H
              have H := H1
              clear H1
              simp only [Option.some.injEq, Prod.mk.injEq] at H
              obtain ⟨rfl, rfl⟩ := H
              go_wp2
              go_ret2
              exact ⟨by first | rfl | (simp [errW_none, errW_some] <;> rfl) | (simp [*, errW_none, errW_some] <;> rfl), by repeat (first | (with_reducible first | exact HB.out | apply below_alloc | apply pw_below_drewN | apply below_drew1 | refine below_set ?_ GE177.out) | exact HB.out)⟩
            · replace c16 := Bool.eq_false_iff.mpr c16
              subst c16
              have H1 : (if (l0_1.length : Int) = 0 then (dovetailref03_Check.j2 kj9 (l0_0.length : Int) (l0_1.length : Int) true l0_0 l0_1 a0_2 l0_3) else (if a0_2 < 0 then (dovetailref03_Check.j2 kj9 (l0_0.length : Int) (l0_1.length : Int) true l0_0 l0_1 a0_2 l0_3) else (dovetailref03_Check.j2 kj9 (l0_0.length : Int) (l0_1.length : Int) (decide (a0_2 ≥ (l0_1.length : Int))) l0_0 l0_1 a0_2 l0_3))) = some (r1, r2) := by rw [if_neg (show ¬ (false = true) by decide)] at H; exact H
              clear H
              have H := H1
              clear H1
              have HC17 := Aside0.mk H
              clear H
              go_upto_region 7 with (fail)
              go_cut [55] (fun v55 wc => ∃ (kq : Nat) (x55_16 : Bool), v55 = .bool x55_16 ∧ Aside0 (dovetailref03_Check.j2 kq (l0_0.length : Int) (l0_1.length : Int) x55_16 l0_0 l0_1 a0_2 l0_3 = some (r1, r2)) ∧ Aside0 (kq ≤ kj9) ∧ Aside0 (wc.heap[gb177]? = some (.cells #[(.slice A0_0 l0_0.length c0_0), (.slice A0_1 l0_1.length c0_1), .int .i64 a0_2, (.slice A0_3 l0_3.length c0_3)] 32 (0, 0))) ∧ Aside0 (Below w.heap.size w wc))
              case first =>
                have H := HC17.out
                clear HC17
                by_cases c18 : (l0_1.length : Int) = 0
                · rw [if_pos c18] at H
                  have c18b0 : ((l0_1.length : Int) == 0) = true := beq_iff_eq.mpr c18
                  have c18b1 : ((l0_1.length : Int) != 0) = false := bne_eq_false_iff_eq.mpr c18
                  clear c18
                  (first | rw [c18b0] | (simp only [i64_w, i32_w]; rw [c18b0]) | skip)
                  have H' := Aside0.mk H
                  clear H
                  go_wp2
                  go_meet
                  case rel => exact ⟨_, (true), (by first | rfl | (simp; done) | (simp [*]; done)), H', ⟨by have := HJ1.out; have := HJ9.out; first | omega | exact Nat.le_refl _⟩, ⟨by (with_reducible repeat (first | refine blk_drewN ?_ _ | refine blk_drew ?_ | refine blk_alloc ?_ _)); exact BK177.out⟩, ⟨by repeat (first | (with_reducible first | exact HB.out | apply below_alloc | apply pw_below_drewN | apply below_drew1 | refine below_set ?_ GE177.out) | exact HB.out)⟩⟩
                · rw [if_neg c18] at H
                  have c18b0 : ((l0_1.length : Int) == 0) = false := beq_eq_false_iff_ne.mpr c18
                  have c18b1 : ((l0_1.length : Int) != 0) = true := bne_iff_ne.mpr c18
                  have c18b2 : ¬ (l0_1 = []) := fun h_ => c18 (by rw [h_]; rfl)
                  (first | rw [c18b0] | (simp only [i64_w, i32_w]; rw [c18b0]) | skip)
                  by_cases c19 : a0_2 < 0
                  · rw [if_pos c19] at H
                    have c19b0 : decide (a0_2 < 0) = true := decide_eq_true c19
                    clear c19
                    have H' := Aside0.mk H
                    clear H
                    have hcz20_0 : wc.cell? ⟨gb177, 0, none⟩ = some (.slice A0_0 l0_0.length c0_0) := (blk_cell BK177.out 0).trans rfl
                    have hcz20_1 : wc.cell? ⟨gb177, 1, none⟩ = some (.slice A0_1 l0_1.length c0_1) := (blk_cell BK177.out 1).trans rfl
                    have hcz20_2 : wc.cell? ⟨gb177, 2, none⟩ = some (.int .i64 a0_2) := (blk_cell BK177.out 2).trans rfl
                    have hcz20_3 : wc.cell? ⟨gb177, 3, none⟩ = some (.slice A0_3 l0_3.length c0_3) := (blk_cell BK177.out 3).trans rfl
                    have hfz20_0 := blk_frozen BK177.out 0
                    have hfz20_1 := blk_frozen BK177.out 1
                    have hfz20_2 := blk_frozen BK177.out 2
                    have hfz20_3 := blk_frozen BK177.out 3
                    go_wp2
                    go_meet
                    case rel => exact ⟨_, (true), (by first | rfl | (simp; done) | (simp [*]; done)), H', ⟨by have := HJ1.out; have := HJ9.out; first | omega | exact Nat.le_refl _⟩, ⟨by (with_reducible repeat (first | refine blk_drewN ?_ _ | refine blk_drew ?_ | refine blk_alloc ?_ _)); exact BK177.out⟩, ⟨by repeat (first | (with_reducible first | exact HB.out | apply below_alloc | apply pw_below_drewN | apply below_drew1 | refine below_set ?_ GE177.out) | exact HB.out)⟩⟩
                  · rw [if_neg c19] at H
                    have c19b0 : decide (a0_2 < 0) = false := decide_eq_false c19
                    clear c19
                    have H' := Aside0.mk H
                    clear H
                    have hcz21_0 : wc.cell? ⟨gb177, 0, none⟩ = some (.slice A0_0 l0_0.length c0_0) := (blk_cell BK177.out 0).trans rfl
                    have hcz21_1 : wc.cell? ⟨gb177, 1, none⟩ = some (.slice A0_1 l0_1.length c0_1) := (blk_cell BK177.out 1).trans rfl
                    have hcz21_2 : wc.cell? ⟨gb177, 2, none⟩ = some (.int .i64 a0_2) := (blk_cell BK177.out 2).trans rfl
                    have hcz21_3 : wc.cell? ⟨gb177, 3, none⟩ = some (.slice A0_3 l0_3.length c0_3) := (blk_cell BK177.out 3).trans rfl
                    have hfz21_0 := blk_frozen BK177.out 0
                    have hfz21_1 := blk_frozen BK177.out 1
                    have hfz21_2 := blk_frozen BK177.out 2
                    have hfz21_3 := blk_frozen BK177.out 3
                    go_wp2
                    go_meet
                    case rel => exact ⟨_, (decide (a0_2 ≥ (l0_1.length : Int))), (by first | rfl | (simp; done) | (simp [*]; done)), H', ⟨by have := HJ1.out; have := HJ9.out; first | omega | exact Nat.le_refl _⟩, ⟨by (with_reducible repeat (first | refine blk_drewN ?_ _ | refine blk_drew ?_ | refine blk_alloc ?_ _)); exact BK177.out⟩, ⟨by repeat (first | (with_reducible first | exact HB.out | apply below_alloc | apply pw_below_drewN | apply below_drew1 | refine below_set ?_ GE177.out) | exact HB.out)⟩⟩
              case rest =>
                clear HC17
                try clear c1
                try clear p2
                try clear c5
                try clear c5b0
                try clear c5b1
                try clear c6
                try clear c6b0
                try clear c6b1
                try clear p6
                try clear c7
                try clear c7b0
                try clear c8
                try clear c9
                try clear c12
                try clear c16
                try clear c18
                try clear c18b0
                try clear c18b1
                try clear c18b2
                try clear c19
                try clear c19b0
                try clear hcz14_0
                try clear hcz14_1
                try clear hcz14_2
                try clear hcz14_3
                try clear hcz15_0
                try clear hcz15_1
                try clear hcz15_2
                try clear hcz15_3
                try clear hcz20_0
                try clear hcz20_1
                try clear hcz20_2
                try clear hcz20_3
                try clear hcz21_0
                try clear hcz21_1
                try clear hcz21_2
                try clear hcz21_3
                try clear hcz4_0
                try clear hcz4_1
                try clear hcz4_2
                try clear hcz4_3
                try clear hcz8_0
                try clear hcz8_1
                try clear hcz8_2
                try clear hcz8_3
                try clear hfz14_0
                try clear hfz14_1
                try clear hfz14_2
                try clear hfz14_3
                try clear hfz15_0
                try clear hfz15_1
                try clear hfz15_2
                try clear hfz15_3
                try clear hfz20_0
                try clear hfz20_1
                try clear hfz20_2
                try clear hfz20_3
                try clear hfz21_0
                try clear hfz21_1
                try clear hfz21_2
                try clear hfz21_3
                try clear hfz4_0
                try clear hfz4_1
                try clear hfz4_2
                try clear hfz4_3
                try clear hfz8_0
                try clear hfz8_1
                try clear hfz8_2
                try clear hfz8_3
                try clear p2
                try clear p6
                obtain ⟨kq, x55_16, rfl, HA, HJ16, BK177, HB⟩ := hcut
                cases kq with
                | zero => exact absurd HA.out (by simp [dovetailref03_Check.j2])
                | succ kj16 =>
                  have H := HA.out
                  clear HA
                  simp only [dovetailref03_Check.j2] at H
                  by_cases c22 : x55_16 = true
                  · subst c22
                    have H1 : (some (1, (-1))) = some (r1, r2) := by rw [if_pos rfl] at H; exact H
                    clear H
                    have H := H1
                    clear H1
                    simp only [Option.some.injEq, Prod.mk.injEq] at H
                    obtain ⟨rfl, rfl⟩ := H
                    go_wp2
                    go_ret2
                    exact ⟨by first | rfl | (simp [errW_none, errW_some] <;> rfl) | (simp [*, errW_none, errW_some] <;> rfl), by repeat (first | (with_reducible first | exact HB.out | apply below_alloc | apply pw_below_drewN | apply below_drew1 | refine below_set ?_ GE177.out) | exact HB.out)⟩
                  · replace c22 := Bool.eq_false_iff.mpr c22
                    subst c22
                    have H1 : (dovetailref03_Check.l0 kj16 (l0_0.length : Int) (l0_1.length : Int) 0 l0_0 l0_1 a0_2 l0_3) = some (r1, r2) := by rw [if_neg (show ¬ (false = true) by decide)] at H; exact H
                    clear H
                    have H := H1
                    clear H1
                    have H' := Aside0.mk H
                    clear H
                    go_wp2
                    go_loopg [6] kj16 (fun kq v6 w' => ∃ (x6_4 : Int), v6 = .int .i64 x6_4 ∧ Aside0 (dovetailref03_Check.l0 kq (l0_0.length : Int) (l0_1.length : Int) x6_4 l0_0 l0_1 a0_2 l0_3 = some (r1, r2)) ∧ Aside0 (kq ≤ kj16) ∧ Aside0 (w'.heap[gb177]? = some (.cells #[(.slice A0_0 l0_0.length c0_0), (.slice A0_1 l0_1.length c0_1), .int .i64 a0_2, (.slice A0_3 l0_3.length c0_3)] 32 (0, 0))) ∧ Aside0 (Below w.heap.size w w'))
                    case atStart => exact ⟨(0), (by first | rfl | (simp; done) | (simp [*]; done)), H', ⟨Nat.le_refl _⟩, ⟨by (with_reducible repeat (first | refine blk_drewN ?_ _ | refine blk_drew ?_ | refine blk_alloc ?_ _)); exact BK177.out⟩, ⟨by repeat (first | (with_reducible first | exact HB.out | apply below_alloc | apply pw_below_drewN | apply below_drew1 | refine below_set ?_ GE177.out) | exact HB.out)⟩⟩
                    case round =>
                      clear H'
                      try clear c1
                      try clear c2
                      try clear p2
                      try clear c5
                      try clear c5b0
                      try clear c5b1
                      try clear c6
                      try clear c6b0
                      try clear c6b1
                      try clear p6
                      try clear c7
                      try clear c7b0
                      try clear c8
                      try clear c9
                      try clear c12
                      try clear c16
                      try clear c18
                      try clear c18b0
                      try clear c18b1
                      try clear c18b2
                      try clear c19
                      try clear c19b0
                      try clear c22
                      try clear hcz14_0
                      try clear hcz14_1
                      try clear hcz14_2
                      try clear hcz14_3
                      try clear hcz15_0
                      try clear hcz15_1
                      try clear hcz15_2
                      try clear hcz15_3
                      try clear hcz20_0
                      try clear hcz20_1
                      try clear hcz20_2
                      try clear hcz20_3
                      try clear hcz21_0
                      try clear hcz21_1
                      try clear hcz21_2
                      try clear hcz21_3
                      try clear hcz4_0
                      try clear hcz4_1
                      try clear hcz4_2
                      try clear hcz4_3
                      try clear hcz8_0
                      try clear hcz8_1
                      try clear hcz8_2
                      try clear hcz8_3
                      try clear hfz14_0
                      try clear hfz14_1
                      try clear hfz14_2
                      try clear hfz14_3
                      try clear hfz15_0
                      try clear hfz15_1
                      try clear hfz15_2
                      try clear hfz15_3
                      try clear hfz20_0
                      try clear hfz20_1
                      try clear hfz20_2
                      try clear hfz20_3
                      try clear hfz21_0
                      try clear hfz21_1
                      try clear hfz21_2
                      try clear hfz21_3
                      try clear hfz4_0
                      try clear hfz4_1
                      try clear hfz4_2
                      try clear hfz4_3
                      try clear hfz8_0
                      try clear hfz8_1
                      try clear hfz8_2
                      try clear hfz8_3
                      try clear p2
                      try clear p6
                      obtain ⟨x6_4, rfl, HA, HK4, BK177, HB⟩ := hrel
                      cases gk with
                      | zero => exact absurd HA.out (by simp [dovetailref03_Check.l0])
                      | succ k4 =>
                        have H := HA.out
                        clear HA
                        simp only [dovetailref03_Check.l0] at H
                        by_cases c23 : x6_4 < (l0_3.length : Int)
                        · rw [if_pos c23] at H
                          have c23b0 : decide (x6_4 < (l0_3.length : Int)) = true := decide_eq_true c23
                          clear c23
                          by_cases c24 : 0 ≤ x6_4
                          · rw [if_pos c24] at H
                            have c24b0 : decide (0 ≤ x6_4) = true := decide_eq_true c24
                            clear c24
                            by_cases c25 : (((rd_T41 l0_3 x6_4).f1).length : Int) > 32
                            · rw [if_pos c25] at H
                              have c25b0 : decide (32 < (((rd_T41 l0_3 x6_4).f1).length : Int)) = true := decide_eq_true c25
                              have c25b1 : decide (32 < ((rd_T41 l0_3 x6_4).f1).length) = true := decide_eq_true (by omega)
                              clear c25
                              simp only [Option.some.injEq, Prod.mk.injEq] at H
                              obtain ⟨rfl, rfl⟩ := H
                              have hcz26_0 : wr.cell? ⟨gb177, 0, none⟩ = some (.slice A0_0 l0_0.length c0_0) := (blk_cell BK177.out 0).trans rfl
                              have hcz26_1 : wr.cell? ⟨gb177, 1, none⟩ = some (.slice A0_1 l0_1.length c0_1) := (blk_cell BK177.out 1).trans rfl
                              have hcz26_2 : wr.cell? ⟨gb177, 2, none⟩ = some (.int .i64 a0_2) := (blk_cell BK177.out 2).trans rfl
                              have hcz26_3 : wr.cell? ⟨gb177, 3, none⟩ = some (.slice A0_3 l0_3.length c0_3) := (blk_cell BK177.out 3).trans rfl
                              have hfz26_0 := blk_frozen BK177.out 0
                              have hfz26_1 := blk_frozen BK177.out 1
                              have hfz26_2 := blk_frozen BK177.out 2
                              have hfz26_3 := blk_frozen BK177.out 3
                              have p180 : 0 ≤ (x6_4 : Int) := of_decide_eq_true (by first | (with_reducible assumption) | assumption)
                              have q180 : x6_4 < (l0_3.length : Int) := of_decide_eq_true (by first | (with_reducible assumption) | assumption)
                              obtain ⟨ad180, A180_1, c180_1, e180, hx180_0, hx180_1, hl180_1, hi180_1⟩ := at_T41 HR0_3.out x6_4 p180 q180
                              cases e180
                              replace hx180_0 := (HB.out.cell (World.block_lt_of_cell? w _ hx180_0)).trans hx180_0
                              replace hx180_1 := (HB.out.cell (World.block_lt_of_cell? w _ hx180_1)).trans hx180_1
                              have HR180_1 := Aside0.mk hi180_1
                              have HC180_1 := Aside0.mk hl180_1
                              clear hi180_1 hl180_1
                              replace p180 := eq_true p180
                              replace q180 := eq_true q180
                              go_wp2_with (first | ((with_reducible refine gate_dst (N := 7) rfl ?_); (try (refine gate_guard (by rfl) ?_; dsimp only)); refine box_event ?hg (N := 7) ?hd (cs := #[.int .i64 0, .slice none 0 0]) (t := 41) ?hr ?_; (case hd => rfl); (case hg => rfl); (case hr => first | (go_simp; done) | (go_simp; rfl)); intro gb181 hg w27 hbox hb; have n0_ := Aside0.mk (blk_below (g := gb177) (o := .cells #[.slice A0_0 l0_0.length c0_0, .slice A0_1 l0_1.length c0_1, .int .i64 a0_2, .slice (some ad180) l0_3.length c0_3] 32 (0, 0)) (by (with_reducible repeat (first | refine blk_drewN ?_ _ | refine blk_drew ?_ | refine blk_alloc ?_ _)); exact BK177.out) hb); have n1_ := Aside0.mk (below_step (by repeat (first | (with_reducible first | exact HB.out | apply below_alloc | apply pw_below_drewN | apply below_drew1 | refine below_set ?_ GE177.out) | exact HB.out)) hb); have n2_ := Aside0.mk (hbox); have n3_ := Aside0.mk ((by rw [hg]; exact (below_size (by repeat (first | (with_reducible first | exact HB.out | apply below_alloc | apply pw_below_drewN | apply below_drew1 | refine below_set ?_ GE177.out) | exact HB.out))) : w.heap.size ≤ gb181)); have n4_ := Aside0.mk ((by rw [hg]; exact (below_size (by repeat (first | (with_reducible first | exact HB.out | apply below_alloc | apply pw_below_drewN | apply below_drew1 | refine below_set ?_ GE177.out) | exact HB.out))) : w.heap.size ≤ gb181)); have n5_ := Aside0.mk ((by rw [hg]; exact Nat.ne_of_lt (blk_lt (g := gb177) (o := .cells #[.slice A0_0 l0_0.length c0_0, .slice A0_1 l0_1.length c0_1, .int .i64 a0_2, .slice (some ad180) l0_3.length c0_3] 32 (0, 0)) (by (with_reducible repeat (first | refine blk_drewN ?_ _ | refine blk_drew ?_ | refine blk_alloc ?_ _)); exact BK177.out)) : gb177 ≠ gb181)); have n6_ := Aside0.mk ((by rw [hg]; exact Nat.ne_of_gt (blk_lt (g := gb177) (o := .cells #[.slice A0_0 l0_0.length c0_0, .slice A0_1 l0_1.length c0_1, .int .i64 a0_2, .slice (some ad180) l0_3.length c0_3] 32 (0, 0)) (by (with_reducible repeat (first | refine blk_drewN ?_ _ | refine blk_drew ?_ | refine blk_alloc ?_ _)); exact BK177.out)) : gb181 ≠ gb177)); clear BK177; clear HB; have BK177 := n0_; have HB := n1_; have BK181 := n2_; have GW181 := n3_; have GE181 := n4_; have NB177_181 := n5_; have NB181_177 := n6_; clear n0_ n1_ n2_ n3_ n4_ n5_ n6_; clear hb hbox hg; have hnb28 := NB181_177.out; have hnc28 := NB177_181.out; have hcz29_0 : w27.cell? ⟨gb181, 0, none⟩ = some (.int .i64 0) := (blk_cell BK181.out 0).trans rfl; have hcz29_1 : w27.cell? ⟨gb181, 1, none⟩ = some (.slice none 0 0) := (blk_cell BK181.out 1).trans rfl; have hfz29_0 := blk_frozen BK181.out 0; have hfz29_1 := blk_frozen BK181.out 1))
                              go_ret2
                              exact ⟨by first | rfl | (simp [errW_none, errW_some] <;> rfl) | (simp [*, errW_none, errW_some] <;> rfl), by repeat (first | (with_reducible first | exact HB.out | apply below_alloc | apply pw_below_drewN | apply below_drew1 | refine below_set ?_ GE177.out | refine below_set ?_ GE181.out) | exact HB.out)⟩
                            · rw [if_neg c25] at H
                              have c25b0 : decide (32 < (((rd_T41 l0_3 x6_4).f1).length : Int)) = false := decide_eq_false c25
                              have c25b1 : decide (32 < ((rd_T41 l0_3 x6_4).f1).length) = false := decide_eq_false (by omega)
                              clear c25
                              have HC30 := Aside0.mk H
                              clear H
                              have hcz31_0 : wr.cell? ⟨gb177, 0, none⟩ = some (.slice A0_0 l0_0.length c0_0) := (blk_cell BK177.out 0).trans rfl
                              have hcz31_1 : wr.cell? ⟨gb177, 1, none⟩ = some (.slice A0_1 l0_1.length c0_1) := (blk_cell BK177.out 1).trans rfl
                              have hcz31_2 : wr.cell? ⟨gb177, 2, none⟩ = some (.int .i64 a0_2) := (blk_cell BK177.out 2).trans rfl
                              have hcz31_3 : wr.cell? ⟨gb177, 3, none⟩ = some (.slice A0_3 l0_3.length c0_3) := (blk_cell BK177.out 3).trans rfl
                              have hfz31_0 := blk_frozen BK177.out 0
                              have hfz31_1 := blk_frozen BK177.out 1
                              have hfz31_2 := blk_frozen BK177.out 2
                              have hfz31_3 := blk_frozen BK177.out 3
                              have p180 : 0 ≤ (x6_4 : Int) := of_decide_eq_true (by first | (with_reducible assumption) | assumption)
                              have q180 : x6_4 < (l0_3.length : Int) := of_decide_eq_true (by first | (with_reducible assumption) | assumption)
                              obtain ⟨ad180, A180_1, c180_1, e180, hx180_0, hx180_1, hl180_1, hi180_1⟩ := at_T41 HR0_3.out x6_4 p180 q180
                              cases e180
                              replace hx180_0 := (HB.out.cell (World.block_lt_of_cell? w _ hx180_0)).trans hx180_0
                              replace hx180_1 := (HB.out.cell (World.block_lt_of_cell? w _ hx180_1)).trans hx180_1
                              have HR180_1 := Aside0.mk hi180_1
                              have HC180_1 := Aside0.mk hl180_1
                              clear hi180_1 hl180_1
                              replace p180 := eq_true p180
                              replace q180 := eq_true q180
                              go_upto_region 15 with (first | ((with_reducible refine gate_dst (N := 7) rfl ?_); (try (refine gate_guard (by rfl) ?_; dsimp only)); refine box_event ?hg (N := 7) ?hd (cs := #[.int .i64 0, .slice none 0 0]) (t := 41) ?hr ?_; (case hd => rfl); (case hg => rfl); (case hr => first | (go_simp; done) | (go_simp; rfl)); intro gb181 hg w32 hbox hb; have n0_ := Aside0.mk (blk_below (g := gb177) (o := .cells #[.slice A0_0 l0_0.length c0_0, .slice A0_1 l0_1.length c0_1, .int .i64 a0_2, .slice (some ad180) l0_3.length c0_3] 32 (0, 0)) (by (with_reducible repeat (first | refine blk_drewN ?_ _ | refine blk_drew ?_ | refine blk_alloc ?_ _)); exact BK177.out) hb); have n1_ := Aside0.mk (below_step (by repeat (first | (with_reducible first | exact HB.out | apply below_alloc | apply pw_below_drewN | apply below_drew1 | refine below_set ?_ GE177.out) | exact HB.out)) hb); have n2_ := Aside0.mk (hbox); have n3_ := Aside0.mk ((by rw [hg]; exact (below_size (by repeat (first | (with_reducible first | exact HB.out | apply below_alloc | apply pw_below_drewN | apply below_drew1 | refine below_set ?_ GE177.out) | exact HB.out))) : w.heap.size ≤ gb181)); have n4_ := Aside0.mk ((by rw [hg]; exact (below_size (by repeat (first | (with_reducible first | exact HB.out | apply below_alloc | apply pw_below_drewN | apply below_drew1 | refine below_set ?_ GE177.out) | exact HB.out))) : w.heap.size ≤ gb181)); have n5_ := Aside0.mk ((by rw [hg]; exact Nat.ne_of_lt (blk_lt (g := gb177) (o := .cells #[.slice A0_0 l0_0.length c0_0, .slice A0_1 l0_1.length c0_1, .int .i64 a0_2, .slice (some ad180) l0_3.length c0_3] 32 (0, 0)) (by (with_reducible repeat (first | refine blk_drewN ?_ _ | refine blk_drew ?_ | refine blk_alloc ?_ _)); exact BK177.out)) : gb177 ≠ gb181)); have n6_ := Aside0.mk ((by rw [hg]; exact Nat.ne_of_gt (blk_lt (g := gb177) (o := .cells #[.slice A0_0 l0_0.length c0_0, .slice A0_1 l0_1.length c0_1, .int .i64 a0_2, .slice (some ad180) l0_3.length c0_3] 32 (0, 0)) (by (with_reducible repeat (first | refine blk_drewN ?_ _ | refine blk_drew ?_ | refine blk_alloc ?_ _)); exact BK177.out)) : gb181 ≠ gb177)); clear BK177; clear HB; have BK177 := n0_; have HB := n1_; have BK181 := n2_; have GW181 := n3_; have GE181 := n4_; have NB177_181 := n5_; have NB181_177 := n6_; clear n0_ n1_ n2_ n3_ n4_ n5_ n6_; clear hb hbox hg; have hnb33 := NB181_177.out; have hnc33 := NB177_181.out; have hcz34_0 : w32.cell? ⟨gb181, 0, none⟩ = some (.int .i64 0) := (blk_cell BK181.out 0).trans rfl; have hcz34_1 : w32.cell? ⟨gb181, 1, none⟩ = some (.slice none 0 0) := (blk_cell BK181.out 1).trans rfl; have hfz34_0 := blk_frozen BK181.out 0; have hfz34_1 := blk_frozen BK181.out 1))
                              (try simp only [Act.put, List.setIfInBounds_toArray, List.set_cons_zero, List.set_cons_succ])
                              go_cut [81] (fun v81 wc => ∃ (kq : Nat) (x81_29 : Bool), v81 = .bool x81_29 ∧ Aside0 (dovetailref03_Check.j4 kq (l0_0.length : Int) (l0_1.length : Int) x6_4 x81_29 l0_0 l0_1 a0_2 l0_3 ((rd_T41 l0_3 x6_4).f0) ((rd_T41 l0_3 x6_4).f1) = some (r1, r2)) ∧ Aside0 (kq ≤ k4) ∧ Aside0 (wc.heap[gb177]? = some (.cells #[(.slice A0_0 l0_0.length c0_0), (.slice A0_1 l0_1.length c0_1), .int .i64 a0_2, (.slice (some ad180) l0_3.length c0_3)] 32 (0, 0))) ∧ Aside0 (wc.heap[gb181]? = some (.cells #[.int .i64 ((rd_T41 l0_3 x6_4).f0), (.slice A180_1 ((rd_T41 l0_3 x6_4).f1).length c180_1)] 41 (0, 0))) ∧ Aside0 (Below w.heap.size w wc))
                              case first =>
                                have H := HC30.out
                                clear HC30
                                by_cases c35 : ((rd_T41 l0_3 x6_4).f0) < 0
                                · rw [if_pos c35] at H
                                  have c35b0 : decide (((rd_T41 l0_3 x6_4).f0) < 0) = true := decide_eq_true c35
                                  clear c35
                                  (first | rw [c35b0] | (simp only [i64_w, i32_w]; rw [c35b0]) | skip)
                                  have H' := Aside0.mk H
                                  clear H
                                  have hnb36 := NB181_177.out
                                  have hnc36 := NB177_181.out
                                  have hcz37_0 : w32.cell? ⟨gb181, 0, none⟩ = some (.int .i64 0) := (blk_cell BK181.out 0).trans rfl
                                  have hcz37_1 : w32.cell? ⟨gb181, 1, none⟩ = some (.slice none 0 0) := (blk_cell BK181.out 1).trans rfl
                                  have hfz37_0 := blk_frozen BK181.out 0
                                  have hfz37_1 := blk_frozen BK181.out 1
                                  go_wp2
                                  go_meet
                                  case rel => exact ⟨_, (true), (by first | rfl | (simp; done) | (simp [*]; done)), H', ⟨by have := HJ1.out; have := HJ9.out; have := HJ16.out; have := HK4.out; first | omega | exact Nat.le_refl _⟩, ⟨by (with_reducible repeat (first | refine blk_drewN ?_ _ | refine blk_drew ?_ | refine blk_alloc ?_ _)); refine blk_far ?_ NB177_181.out _; (with_reducible repeat (first | refine blk_drewN ?_ _ | refine blk_drew ?_ | refine blk_alloc ?_ _)); refine blk_far ?_ NB177_181.out _; (with_reducible repeat (first | refine blk_drewN ?_ _ | refine blk_drew ?_ | refine blk_alloc ?_ _)); exact BK177.out⟩, ⟨by (with_reducible repeat (first | refine blk_drewN ?_ _ | refine blk_drew ?_ | refine blk_alloc ?_ _)); refine blk_put (cs := #[.int .i64 ((rd_T41 l0_3 x6_4).f0), .slice none 0 0]) ?_ 1 _ rfl; (with_reducible repeat (first | refine blk_drewN ?_ _ | refine blk_drew ?_ | refine blk_alloc ?_ _)); refine blk_put (cs := #[.int .i64 0, .slice none 0 0]) ?_ 0 _ rfl; (with_reducible repeat (first | refine blk_drewN ?_ _ | refine blk_drew ?_ | refine blk_alloc ?_ _)); exact BK181.out⟩, ⟨by repeat (first | (with_reducible first | exact HB.out | apply below_alloc | apply pw_below_drewN | apply below_drew1 | refine below_set ?_ GE177.out | refine below_set ?_ GE181.out) | exact HB.out)⟩⟩
                                · rw [if_neg c35] at H
                                  have c35b0 : decide (((rd_T41 l0_3 x6_4).f0) < 0) = false := decide_eq_false c35
                                  clear c35
                                  (first | rw [c35b0] | (simp only [i64_w, i32_w]; rw [c35b0]) | skip)
                                  have H' := Aside0.mk H
                                  clear H
                                  have hnb38 := NB181_177.out
                                  have hnc38 := NB177_181.out
                                  have hcz39_0 : w32.cell? ⟨gb181, 0, none⟩ = some (.int .i64 0) := (blk_cell BK181.out 0).trans rfl
                                  have hcz39_1 : w32.cell? ⟨gb181, 1, none⟩ = some (.slice none 0 0) := (blk_cell BK181.out 1).trans rfl
                                  have hfz39_0 := blk_frozen BK181.out 0
                                  have hfz39_1 := blk_frozen BK181.out 1
                                  go_wp2
                                  go_meet
                                  case rel => exact ⟨_, (decide (((rd_T41 l0_3 x6_4).f0) ≥ (l0_1.length : Int))), (by first | rfl | (simp; done) | (simp [*]; done)), H', ⟨by have := HJ1.out; have := HJ9.out; have := HJ16.out; have := HK4.out; first | omega | exact Nat.le_refl _⟩, ⟨by (with_reducible repeat (first | refine blk_drewN ?_ _ | refine blk_drew ?_ | refine blk_alloc ?_ _)); refine blk_far ?_ NB177_181.out _; (with_reducible repeat (first | refine blk_drewN ?_ _ | refine blk_drew ?_ | refine blk_alloc ?_ _)); refine blk_far ?_ NB177_181.out _; (with_reducible repeat (first | refine blk_drewN ?_ _ | refine blk_drew ?_ | refine blk_alloc ?_ _)); exact BK177.out⟩, ⟨by (with_reducible repeat (first | refine blk_drewN ?_ _ | refine blk_drew ?_ | refine blk_alloc ?_ _)); refine blk_put (cs := #[.int .i64 ((rd_T41 l0_3 x6_4).f0), .slice none 0 0]) ?_ 1 _ rfl; (with_reducible repeat (first | refine blk_drewN ?_ _ | refine blk_drew ?_ | refine blk_alloc ?_ _)); refine blk_put (cs := #[.int .i64 0, .slice none 0 0]) ?_ 0 _ rfl; (with_reducible repeat (first | refine blk_drewN ?_ _ | refine blk_drew ?_ | refine blk_alloc ?_ _)); exact BK181.out⟩, ⟨by repeat (first | (with_reducible first | exact HB.out | apply below_alloc | apply pw_below_drewN | apply below_drew1 | refine below_set ?_ GE177.out | refine below_set ?_ GE181.out) | exact HB.out)⟩⟩
                              case rest =>
                                clear HC30
                                try clear c1
                                try clear p1
                                try clear q1
                                try clear hx1
                                try clear c2
                                try clear p2
                                try clear c3
                                try clear c5
                                try clear c5b0
                                try clear c5b1
                                try clear c6
                                try clear c6b0
                                try clear c6b1
                                try clear p6
                                try clear c7
                                try clear c7b0
                                try clear c8
                                try clear c9
                                try clear c12
                                try clear c16
                                try clear c18
                                try clear c18b0
                                try clear c18b1
                                try clear c18b2
                                try clear p18
                                try clear q18
                                try clear hx18
                                try clear c19
                                try clear c19b0
                                try clear c22
                                try clear c23
                                try clear c23b0
                                try clear c24
                                try clear c24b0
                                try clear c25
                                try clear c25b0
                                try clear c25b1
                                try clear c28
                                try clear c33
                                try clear c35
                                try clear c35b0
                                try clear c36
                                try clear c38
                                try clear hcz14_0
                                try clear hcz14_1
                                try clear hcz14_2
                                try clear hcz14_3
                                try clear hcz15_0
                                try clear hcz15_1
                                try clear hcz15_2
                                try clear hcz15_3
                                try clear hcz20_0
                                try clear hcz20_1
                                try clear hcz20_2
                                try clear hcz20_3
                                try clear hcz21_0
                                try clear hcz21_1
                                try clear hcz21_2
                                try clear hcz21_3
                                try clear hcz26_0
                                try clear hcz26_1
                                try clear hcz26_2
                                try clear hcz26_3
                                try clear hcz29_0
                                try clear hcz29_1
                                try clear hcz31_0
                                try clear hcz31_1
                                try clear hcz31_2
                                try clear hcz31_3
                                try clear hcz34_0
                                try clear hcz34_1
                                try clear hcz37_0
                                try clear hcz37_1
                                try clear hcz39_0
                                try clear hcz39_1
                                try clear hcz4_0
                                try clear hcz4_1
                                try clear hcz4_2
                                try clear hcz4_3
                                try clear hcz8_0
                                try clear hcz8_1
                                try clear hcz8_2
                                try clear hcz8_3
                                try clear hfz14_0
                                try clear hfz14_1
                                try clear hfz14_2
                                try clear hfz14_3
                                try clear hfz15_0
                                try clear hfz15_1
                                try clear hfz15_2
                                try clear hfz15_3
                                try clear hfz20_0
                                try clear hfz20_1
                                try clear hfz20_2
                                try clear hfz20_3
                                try clear hfz21_0
                                try clear hfz21_1
                                try clear hfz21_2
                                try clear hfz21_3
                                try clear hfz26_0
                                try clear hfz26_1
                                try clear hfz26_2
                                try clear hfz26_3
                                try clear hfz29_0
                                try clear hfz29_1
                                try clear hfz31_0
                                try clear hfz31_1
                                try clear hfz31_2
                                try clear hfz31_3
                                try clear hfz34_0
                                try clear hfz34_1
                                try clear hfz37_0
                                try clear hfz37_1
                                try clear hfz39_0
                                try clear hfz39_1
                                try clear hfz4_0
                                try clear hfz4_1
                                try clear hfz4_2
                                try clear hfz4_3
                                try clear hfz8_0
                                try clear hfz8_1
                                try clear hfz8_2
                                try clear hfz8_3
                                try clear hx180_0
                                try clear hx180_1
                                try clear p180
                                try clear p2
                                try clear p6
                                try clear q180
                                obtain ⟨kq, x81_29, rfl, HA, HJ29, BK177, BK181, HB⟩ := hcut
                                cases kq with
                                | zero => exact absurd HA.out (by simp [dovetailref03_Check.j4])
                                | succ kj29 =>
                                  have H := HA.out
                                  clear HA
                                  simp only [dovetailref03_Check.j4] at H
                                  by_cases c40 : x81_29 = true
                                  · subst c40
                                    have H1 : (some (1, x6_4)) = some (r1, r2) := by rw [if_pos rfl] at H; exact H
                                    clear H
                                    have H := H1
                                    clear H1
                                    simp only [Option.some.injEq, Prod.mk.injEq] at H
                                    obtain ⟨rfl, rfl⟩ := H
                                    go_wp2
                                    go_ret2
                                    exact ⟨by first | rfl | (simp [errW_none, errW_some] <;> rfl) | (simp [*, errW_none, errW_some] <;> rfl), by repeat (first | (with_reducible first | exact HB.out | apply below_alloc | apply pw_below_drewN | apply below_drew1 | refine below_set ?_ GE177.out | refine below_set ?_ GE181.out) | exact HB.out)⟩
                                  · replace c40 := Bool.eq_false_iff.mpr c40
                                    subst c40
                                    have H1 : (dovetailref03_Check.l1 kj29 (l0_0.length : Int) (l0_1.length : Int) x6_4 0 l0_0 l0_1 a0_2 l0_3 ((rd_T41 l0_3 x6_4).f0) ((rd_T41 l0_3 x6_4).f1)) = some (r1, r2) := by rw [if_neg (show ¬ (false = true) by decide)] at H; exact H
                                    clear H
                                    have H := H1
                                    clear H1
                                    have H' := Aside0.mk H
                                    clear H
                                    go_wp2
                                    go_loopg [8] kj29 (fun kq v8 w' => ∃ (x8_6 : Int), v8 = .int .i64 x8_6 ∧ Aside0 (dovetailref03_Check.l1 kq (l0_0.length : Int) (l0_1.length : Int) x6_4 x8_6 l0_0 l0_1 a0_2 l0_3 ((rd_T41 l0_3 x6_4).f0) ((rd_T41 l0_3 x6_4).f1) = some (r1, r2)) ∧ Aside0 (kq ≤ kj29) ∧ Aside0 (w'.heap[gb177]? = some (.cells #[(.slice A0_0 l0_0.length c0_0), (.slice A0_1 l0_1.length c0_1), .int .i64 a0_2, (.slice (some ad180) l0_3.length c0_3)] 32 (0, 0))) ∧ Aside0 (w'.heap[gb181]? = some (.cells #[.int .i64 ((rd_T41 l0_3 x6_4).f0), (.slice A180_1 ((rd_T41 l0_3 x6_4).f1).length c180_1)] 41 (0, 0))) ∧ Aside0 (Below w.heap.size w w'))
                                    case atStart => exact ⟨(0), (by first | rfl | (simp; done) | (simp [*]; done)), H', ⟨Nat.le_refl _⟩, ⟨by (with_reducible repeat (first | refine blk_drewN ?_ _ | refine blk_drew ?_ | refine blk_alloc ?_ _)); exact BK177.out⟩, ⟨by (with_reducible repeat (first | refine blk_drewN ?_ _ | refine blk_drew ?_ | refine blk_alloc ?_ _)); exact BK181.out⟩, ⟨by repeat (first | (with_reducible first | exact HB.out | apply below_alloc | apply pw_below_drewN | apply below_drew1 | refine below_set ?_ GE177.out | refine below_set ?_ GE181.out) | exact HB.out)⟩⟩
                                    case round =>
                                      clear H'
                                      try clear c1
                                      try clear p1
                                      try clear q1
                                      try clear hx1
                                      try clear c2
                                      try clear p2
                                      try clear c3
                                      try clear c4
                                      try clear c5
                                      try clear c5b0
                                      try clear c5b1
                                      try clear c6
                                      try clear c6b0
                                      try clear c6b1
                                      try clear p6
                                      try clear c7
                                      try clear c7b0
                                      try clear c8
                                      try clear c9
                                      try clear c12
                                      try clear c16
                                      try clear c18
                                      try clear c18b0
                                      try clear c18b1
                                      try clear c18b2
                                      try clear p18
                                      try clear q18
                                      try clear hx18
                                      try clear c19
                                      try clear c19b0
                                      try clear c22
                                      try clear c23
                                      try clear c23b0
                                      try clear c24
                                      try clear c24b0
                                      try clear c25
                                      try clear c25b0
                                      try clear c25b1
                                      try clear c28
                                      try clear c33
                                      try clear c35
                                      try clear c35b0
                                      try clear c36
                                      try clear c38
                                      try clear c40
                                      try clear hcz14_0
                                      try clear hcz14_1
                                      try clear hcz14_2
                                      try clear hcz14_3
                                      try clear hcz15_0
                                      try clear hcz15_1
                                      try clear hcz15_2
                                      try clear hcz15_3
                                      try clear hcz20_0
                                      try clear hcz20_1
                                      try clear hcz20_2
                                      try clear hcz20_3
                                      try clear hcz21_0
                                      try clear hcz21_1
                                      try clear hcz21_2
                                      try clear hcz21_3
                                      try clear hcz26_0
                                      try clear hcz26_1
                                      try clear hcz26_2
                                      try clear hcz26_3
                                      try clear hcz29_0
                                      try clear hcz29_1
                                      try clear hcz31_0
                                      try clear hcz31_1
                                      try clear hcz31_2
                                      try clear hcz31_3
                                      try clear hcz34_0
                                      try clear hcz34_1
                                      try clear hcz37_0
                                      try clear hcz37_1
                                      try clear hcz39_0
                                      try clear hcz39_1
                                      try clear hcz4_0
                                      try clear hcz4_1
                                      try clear hcz4_2
                                      try clear hcz4_3
                                      try clear hcz8_0
                                      try clear hcz8_1
                                      try clear hcz8_2
                                      try clear hcz8_3
                                      try clear hfz14_0
                                      try clear hfz14_1
                                      try clear hfz14_2
                                      try clear hfz14_3
                                      try clear hfz15_0
                                      try clear hfz15_1
                                      try clear hfz15_2
                                      try clear hfz15_3
                                      try clear hfz20_0
                                      try clear hfz20_1
                                      try clear hfz20_2
                                      try clear hfz20_3
                                      try clear hfz21_0
                                      try clear hfz21_1
                                      try clear hfz21_2
                                      try clear hfz21_3
                                      try clear hfz26_0
                                      try clear hfz26_1
                                      try clear hfz26_2
                                      try clear hfz26_3
                                      try clear hfz29_0
                                      try clear hfz29_1
                                      try clear hfz31_0
                                      try clear hfz31_1
                                      try clear hfz31_2
                                      try clear hfz31_3
                                      try clear hfz34_0
                                      try clear hfz34_1
                                      try clear hfz37_0
                                      try clear hfz37_1
                                      try clear hfz39_0
                                      try clear hfz39_1
                                      try clear hfz4_0
                                      try clear hfz4_1
                                      try clear hfz4_2
                                      try clear hfz4_3
                                      try clear hfz8_0
                                      try clear hfz8_1
                                      try clear hfz8_2
                                      try clear hfz8_3
                                      try clear hx180_0
                                      try clear hx180_1
                                      try clear p1
                                      try clear p18
                                      try clear p180
                                      try clear p2
                                      try clear p6
                                      try clear q1
                                      try clear q18
                                      try clear q180
                                      obtain ⟨x8_6, rfl, HA, HK6, BK177, BK181, HB⟩ := hrel
                                      cases gk with
                                      | zero => exact absurd HA.out (by simp [dovetailref03_Check.l1])
                                      | succ k6 =>
                                        have H := HA.out
                                        clear HA
                                        simp only [dovetailref03_Check.l1] at H
                                        by_cases c41 : x8_6 < (((rd_T41 l0_3 x6_4).f1).length : Int)
                                        · rw [if_pos c41] at H
                                          have c41b0 : decide (x8_6 < (((rd_T41 l0_3 x6_4).f1).length : Int)) = true := decide_eq_true c41
                                          clear c41
                                          by_cases c42 : 0 ≤ x8_6
                                          · rw [if_pos c42] at H
                                            have c42b0 : decide (0 ≤ x8_6) = true := decide_eq_true c42
                                            clear c42
                                            by_cases c43 : (rd ((rd_T41 l0_3 x6_4).f1) x8_6) ≥ (l0_0.length : Int)
                                            · rw [if_pos c43] at H
                                              have c43b0 : decide ((l0_0.length : Int) ≤ (rd ((rd_T41 l0_3 x6_4).f1) x8_6)) = true := decide_eq_true c43
                                              clear c43
                                              simp only [Option.some.injEq, Prod.mk.injEq] at H
                                              obtain ⟨rfl, rfl⟩ := H
                                              have hnb44 := NB181_177.out
                                              have hnc44 := NB177_181.out
                                              have hcz45_0 : wr.cell? ⟨gb181, 0, none⟩ = some (.int .i64 ((rd_T41 l0_3 x6_4).f0)) := (blk_cell BK181.out 0).trans rfl
                                              have hcz45_1 : wr.cell? ⟨gb181, 1, none⟩ = some (.slice A180_1 ((rd_T41 l0_3 x6_4).f1).length c180_1) := (blk_cell BK181.out 1).trans rfl
                                              have hfz45_0 := blk_frozen BK181.out 0
                                              have hfz45_1 := blk_frozen BK181.out 1
                                              have p182 : 0 ≤ (x8_6 : Int) := of_decide_eq_true (by first | (with_reducible assumption) | assumption)
                                              have q182 : x8_6 < (((rd_T41 l0_3 x6_4).f1).length : Int) := of_decide_eq_true (by first | (with_reducible assumption) | assumption)
                                              obtain ⟨ad182, e182, hx182_0⟩ := Kd.at_int HR180_1.out x8_6 p182 q182
                                              cases e182
                                              replace hx182_0 := (HB.out.cell (World.block_lt_of_cell? w _ hx182_0)).trans hx182_0
                                              replace p182 := eq_true p182
                                              replace q182 := eq_true q182
                                              go_wp2
                                              go_ret2
                                              exact ⟨by first | rfl | (simp [errW_none, errW_some] <;> rfl) | (simp [*, errW_none, errW_some] <;> rfl), by repeat (first | (with_reducible first | exact HB.out | apply below_alloc | apply pw_below_drewN | apply below_drew1 | refine below_set ?_ GE177.out | refine below_set ?_ GE181.out) | exact HB.out)⟩
                                            · rw [if_neg c43] at H
                                              have c43b0 : decide ((l0_0.length : Int) ≤ (rd ((rd_T41 l0_3 x6_4).f1) x8_6)) = false := decide_eq_false c43
                                              clear c43
                                              by_cases c46 : (rd ((rd_T41 l0_3 x6_4).f1) x8_6) < (wrap64 (-(l0_1.length : Int)))
                                              · rw [if_pos c46] at H
                                                have c46b0 : decide ((rd ((rd_T41 l0_3 x6_4).f1) x8_6) < (wrap64 (-(l0_1.length : Int)))) = true := decide_eq_true c46
                                                clear c46
                                                simp only [Option.some.injEq, Prod.mk.injEq] at H
                                                obtain ⟨rfl, rfl⟩ := H
                                                have hnb47 := NB181_177.out
                                                have hnc47 := NB177_181.out
                                                have hcz48_0 : wr.cell? ⟨gb181, 0, none⟩ = some (.int .i64 ((rd_T41 l0_3 x6_4).f0)) := (blk_cell BK181.out 0).trans rfl
                                                have hcz48_1 : wr.cell? ⟨gb181, 1, none⟩ = some (.slice A180_1 ((rd_T41 l0_3 x6_4).f1).length c180_1) := (blk_cell BK181.out 1).trans rfl
                                                have hfz48_0 := blk_frozen BK181.out 0
                                                have hfz48_1 := blk_frozen BK181.out 1
                                                have p182 : 0 ≤ (x8_6 : Int) := of_decide_eq_true (by first | (with_reducible assumption) | assumption)
                                                have q182 : x8_6 < (((rd_T41 l0_3 x6_4).f1).length : Int) := of_decide_eq_true (by first | (with_reducible assumption) | assumption)
                                                obtain ⟨ad182, e182, hx182_0⟩ := Kd.at_int HR180_1.out x8_6 p182 q182
                                                cases e182
                                                replace hx182_0 := (HB.out.cell (World.block_lt_of_cell? w _ hx182_0)).trans hx182_0
                                                replace p182 := eq_true p182
                                                replace q182 := eq_true q182
                                                have p183 : 0 ≤ (x8_6 : Int) := of_decide_eq_true (by first | (with_reducible assumption) | assumption)
                                                have q183 : x8_6 < (((rd_T41 l0_3 x6_4).f1).length : Int) := of_decide_eq_true (by first | (with_reducible assumption) | assumption)
                                                obtain ⟨ad183, e183, hx183_0⟩ := Kd.at_int HR180_1.out x8_6 p183 q183
                                                obtain rfl : ad182 = ad183 := (by injection e183)
                                                replace hx183_0 := (HB.out.cell (World.block_lt_of_cell? w _ hx183_0)).trans hx183_0
                                                replace p183 := eq_true p183
                                                replace q183 := eq_true q183
                                                go_wp2
                                                go_ret2
                                                exact ⟨by first | rfl | (simp [errW_none, errW_some] <;> rfl) | (simp [*, errW_none, errW_some] <;> rfl), by repeat (first | (with_reducible first | exact HB.out | apply below_alloc | apply pw_below_drewN | apply below_drew1 | refine below_set ?_ GE177.out | refine below_set ?_ GE181.out) | exact HB.out)⟩
                                              · rw [if_neg c46] at H
                                                have c46b0 : decide ((rd ((rd_T41 l0_3 x6_4).f1) x8_6) < (wrap64 (-(l0_1.length : Int)))) = false := decide_eq_false c46
                                                clear c46
                                                have H' := Aside0.mk H
                                                clear H
                                                have hnb49 := NB181_177.out
                                                have hnc49 := NB177_181.out
                                                have hcz50_0 : wr.cell? ⟨gb181, 0, none⟩ = some (.int .i64 ((rd_T41 l0_3 x6_4).f0)) := (blk_cell BK181.out 0).trans rfl
                                                have hcz50_1 : wr.cell? ⟨gb181, 1, none⟩ = some (.slice A180_1 ((rd_T41 l0_3 x6_4).f1).length c180_1) := (blk_cell BK181.out 1).trans rfl
                                                have hfz50_0 := blk_frozen BK181.out 0
                                                have hfz50_1 := blk_frozen BK181.out 1
                                                have p182 : 0 ≤ (x8_6 : Int) := of_decide_eq_true (by first | (with_reducible assumption) | assumption)
                                                have q182 : x8_6 < (((rd_T41 l0_3 x6_4).f1).length : Int) := of_decide_eq_true (by first | (with_reducible assumption) | assumption)
                                                obtain ⟨ad182, e182, hx182_0⟩ := Kd.at_int HR180_1.out x8_6 p182 q182
                                                cases e182
                                                replace hx182_0 := (HB.out.cell (World.block_lt_of_cell? w _ hx182_0)).trans hx182_0
                                                replace p182 := eq_true p182
                                                replace q182 := eq_true q182
                                                have p183 : 0 ≤ (x8_6 : Int) := of_decide_eq_true (by first | (with_reducible assumption) | assumption)
                                                have q183 : x8_6 < (((rd_T41 l0_3 x6_4).f1).length : Int) := of_decide_eq_true (by first | (with_reducible assumption) | assumption)
                                                obtain ⟨ad183, e183, hx183_0⟩ := Kd.at_int HR180_1.out x8_6 p183 q183
                                                obtain rfl : ad182 = ad183 := (by injection e183)
                                                replace hx183_0 := (HB.out.cell (World.block_lt_of_cell? w _ hx183_0)).trans hx183_0
                                                replace p183 := eq_true p183
                                                replace q183 := eq_true q183
                                                go_wp2
                                                go_roundg k6
                                                case measure => have := HJ1.out; have := HJ9.out; have := HJ16.out; have := HK4.out; have := HJ29.out; have := HK6.out; omega
                                                case rel => exact ⟨(wrap64 (x8_6 + 1)), (by first | rfl | (simp; done) | (simp [*]; done)), H', ⟨by have := HJ1.out; have := HJ9.out; have := HJ16.out; have := HK4.out; have := HJ29.out; have := HK6.out; omega⟩, ⟨by (with_reducible repeat (first | refine blk_drewN ?_ _ | refine blk_drew ?_ | refine blk_alloc ?_ _)); exact BK177.out⟩, ⟨by (with_reducible repeat (first | refine blk_drewN ?_ _ | refine blk_drew ?_ | refine blk_alloc ?_ _)); exact BK181.out⟩, ⟨by repeat (first | (with_reducible first | exact HB.out | apply below_alloc | apply pw_below_drewN | apply below_drew1 | refine below_set ?_ GE177.out | refine below_set ?_ GE181.out) | exact HB.out)⟩⟩
                                          · rw [if_neg c42] at H
                                            exact absurd H (by simp)
                                        · rw [if_neg c41] at H
                                          have c41b0 : decide (x8_6 < (((rd_T41 l0_3 x6_4).f1).length : Int)) = false := decide_eq_false c41
                                          clear c41
                                          have H' := Aside0.mk H
                                          clear H
                                          have hnb51 := NB181_177.out
                                          have hnc51 := NB177_181.out
                                          have hcz52_0 : wr.cell? ⟨gb181, 0, none⟩ = some (.int .i64 ((rd_T41 l0_3 x6_4).f0)) := (blk_cell BK181.out 0).trans rfl
                                          have hcz52_1 : wr.cell? ⟨gb181, 1, none⟩ = some (.slice A180_1 ((rd_T41 l0_3 x6_4).f1).length c180_1) := (blk_cell BK181.out 1).trans rfl
                                          have hfz52_0 := blk_frozen BK181.out 0
                                          have hfz52_1 := blk_frozen BK181.out 1
                                          go_wp2
                                          go_roundg k6
                                          case measure => have := HJ1.out; have := HJ9.out; have := HJ16.out; have := HK4.out; have := HJ29.out; have := HK6.out; omega
                                          case rel => exact ⟨(wrap64 (x6_4 + 1)), (by first | rfl | (simp; done) | (simp [*]; done)), H', ⟨by have := HJ1.out; have := HJ9.out; have := HJ16.out; have := HK4.out; have := HJ29.out; have := HK6.out; omega⟩, ⟨by (with_reducible repeat (first | refine blk_drewN ?_ _ | refine blk_drew ?_ | refine blk_alloc ?_ _)); exact BK177.out⟩, ⟨by repeat (first | (with_reducible first | exact HB.out | apply below_alloc | apply pw_below_drewN | apply below_drew1 | refine below_set ?_ GE177.out | refine below_set ?_ GE181.out) | exact HB.out)⟩⟩
                          · rw [if_neg c24] at H
                            exact absurd H (by simp)
                        · rw [if_neg c23] at H
                          have c23b0 : decide (x6_4 < (l0_3.length : Int)) = false := decide_eq_false c23
                          clear c23
                          simp only [Option.some.injEq, Prod.mk.injEq] at H
                          obtain ⟨rfl, rfl⟩ := H
                          have hcz53_0 : wr.cell? ⟨gb177, 0, none⟩ = some (.slice A0_0 l0_0.length c0_0) := (blk_cell BK177.out 0).trans rfl
                          have hcz53_1 : wr.cell? ⟨gb177, 1, none⟩ = some (.slice A0_1 l0_1.length c0_1) := (blk_cell BK177.out 1).trans rfl
                          have hcz53_2 : wr.cell? ⟨gb177, 2, none⟩ = some (.int .i64 a0_2) := (blk_cell BK177.out 2).trans rfl
                          have hcz53_3 : wr.cell? ⟨gb177, 3, none⟩ = some (.slice A0_3 l0_3.length c0_3) := (blk_cell BK177.out 3).trans rfl
                          have hfz53_0 := blk_frozen BK177.out 0
                          have hfz53_1 := blk_frozen BK177.out 1
                          have hfz53_2 := blk_frozen BK177.out 2
                          have hfz53_3 := blk_frozen BK177.out 3
                          go_wp2
                          go_ret2
                          exact ⟨by first | rfl | (simp [errW_none, errW_some] <;> rfl) | (simp [*, errW_none, errW_some] <;> rfl), by repeat (first | (with_reducible first | exact HB.out | apply below_alloc | apply pw_below_drewN | apply below_drew1 | refine below_set ?_ GE177.out) | exact HB.out)⟩

end Go.Proofs.YtjkifeladmhkoaaDoor.B
/- The document's Check, in plain Lean: what gram.Check tells. -/
set_option linter.unusedVariables false
set_option linter.unusedSimpArgs false
namespace Go.Proofs.YtjkifeladmhkoaaDoor.B
open Go.RowKit Go.Proofs.YtjkifeladmhkoaaDoorW.PrintWords Go.Proofs.YtjkifeladmhkoaaDoorW.PrintLast Go.Proofs.YtjkifeladmhkoaaDoorW.PrintMore

theorem refNamed_in (l : List ByteArray) (hm : l.length ≤ 9223372036854775807) (i : Nat) (hi : i < l.length) (r : Bool) (B : Nat) (hB : ∀ k, B ≤ k → dovetailref03_named.l0 k l ((i + 1 : Nat) : Int) = some r) :
    ∀ (d j k : Nat), i - j = d → j ≤ i → d + B + 1 ≤ k → dovetailref03_named.l1 k l (i : Int) (j : Int) = some (!((l.take i).drop j).any (fun x => decide (l.getD i ByteArray.empty = x)) && r) := by
  intro d
  induction d with
  | zero =>
    intro j k hd hj hk
    obtain ⟨k, rfl⟩ : ∃ m, k = m + 1 := ⟨k - 1, by omega⟩
    have : j = i := by omega
    subst this
    rw [dovetailref03_named.l1, if_neg (by omega), w64 j (by omega), hB k (by omega), List.drop_of_length_le (by rw [List.length_take]; omega)]
    simp
  | succ d ih =>
    intro j k hd hj hk
    obtain ⟨k, rfl⟩ : ∃ m, k = m + 1 := ⟨k - 1, by omega⟩
    have hlt : j < i := by omega
    have hdr : (l.take i).drop j = l[j] :: (l.take i).drop (j + 1) := by
      rw [List.drop_eq_getElem_cons (by rw [List.length_take]; omega), List.getElem_take]
    rw [dovetailref03_named.l1, if_pos (by omega), if_pos (by omega), if_pos (by omega), if_pos (by omega), if_pos (by omega), rdS_D, rdS_D, getD_lt l j _ (by omega), hdr, List.any_cons]
    by_cases c : l[j] = l.getD i ByteArray.empty
    · rw [if_pos ((toL_eq _ _).2 c), decide_eq_true c.symm]; rfl
    · rw [if_neg (fun h => c ((toL_eq _ _).1 h)), w64 j (by omega), ih (j + 1) k (by omega) (by omega) (by omega), decide_eq_false (fun h => c h.symm)]; rfl
theorem refNamed_l (l : List ByteArray) (hm : l.length ≤ 9223372036854775807) : ∀ (d i k : Nat), l.length - i = d → i ≤ l.length → d * (l.length + 3) + 1 ≤ k → dovetailref03_named.l0 k l (i : Int) = some (namesFrom l i) := by
  intro d
  induction d with
  | zero =>
    intro i k hi hle hk
    obtain ⟨k, rfl⟩ : ∃ j, k = j + 1 := ⟨k - 1, by omega⟩
    have : i = l.length := by omega
    subst this
    rw [dovetailref03_named.l0, if_neg (by omega), namesFrom_end]
  | succ d ih =>
    intro i k hi hle hk
    rw [Nat.add_mul, Nat.one_mul] at hk
    obtain ⟨k, rfl⟩ : ∃ j, k = j + 2 := ⟨k - 2, by omega⟩
    have hlt : i < l.length := by omega
    have hin := refNamed_in l hm i hlt _ _ (fun k hk => ih (i + 1) k (by omega) (by omega) hk) i 0 k (by omega) (by omega) (by omega)
    rw [dovetailref03_named.l0, if_pos (by omega), if_pos (by omega), rdS_D, namesFrom_step l i hlt]
    rw [List.drop_zero] at hin
    unfold faultAt
    generalize hs : l.getD i ByteArray.empty = s at hin
    by_cases c1 : s.size = 0
    · rw [if_pos (by omega), dovetailref03_named.j1, if_pos rfl]; simp [c1]
    · rw [if_neg (by omega), dovetailref03_named.j1]
      by_cases c2 : 32 < s.size
      · rw [if_pos (decide_eq_true (by omega))]; simp [c2]
      · have hin' : dovetailref03_named.l1 k l (i : Int) 0 = _ := hin
        rw [if_neg (by simp; omega), hin', decide_eq_false c1, decide_eq_false c2]
        simp
theorem refNamed_f (l : List ByteArray) (k : Nat) (hm : l.length ≤ 9223372036854775807) (hk : l.length * (l.length + 3) + 1 ≤ k) : dovetailref03_named.f k l = some (namesOK l) := by
  unfold dovetailref03_named.f
  have := refNamed_l l hm l.length 0 k (by omega) (by omega) hk
  rw [namesFrom_zero] at this
  exact this
theorem refCheck_in (t n : Nat) (hn : n ≤ 60) (l0 l1 : List ByteArray) (a2 : Int) (R : List S41) (i : Nat) (hi : i < 200) (x0 : Int) (xs : List Int) (hx : xs.length ≤ 32) (r : Int × Int) (B : Nat) (hB : ∀ k, B ≤ k → dovetailref03_Check.l0 k (t : Int) (n : Int) ((i + 1 : Nat) : Int) l0 l1 a2 R = some r) :
    ∀ (d j k : Nat), xs.length - j = d → j ≤ xs.length → d + B + 1 ≤ k → dovetailref03_Check.l1 k (t : Int) (n : Int) (i : Int) (j : Int) l0 l1 a2 R x0 xs = some (if (xs.drop j).any (outS t n) = true then (1, (i : Int)) else r) := by
  intro d
  induction d with
  | zero =>
    intro j k hd hj hk
    obtain ⟨k, rfl⟩ : ∃ m, k = m + 1 := ⟨k - 1, by omega⟩
    have : j = xs.length := by omega
    subst this
    rw [dovetailref03_Check.l1, if_neg (by omega), w64 i (by omega), hB k (by omega), List.drop_length]
    rfl
  | succ d ih =>
    intro j k hd hj hk
    obtain ⟨k, rfl⟩ : ∃ m, k = m + 1 := ⟨k - 1, by omega⟩
    have hlt : j < xs.length := by omega
    have hwn : wrap64 (-(n : Int)) = -(n : Int) := by unfold wrap64; omega
    rw [dovetailref03_Check.l1, if_pos (by omega), if_pos (by omega), rd_D, getD_lt xs j _ hlt, hwn, List.drop_eq_getElem_cons hlt, List.any_cons]
    generalize xs[j] = s
    have ho : outS t n s = (decide ((t : Int) ≤ s) || decide (s < -(n : Int))) := rfl
    rw [ho]
    by_cases c1 : (t : Int) ≤ s
    · rw [if_pos (by omega), decide_eq_true c1]; rfl
    · by_cases c2 : s < -(n : Int)
      · rw [if_neg (by omega), if_pos c2, decide_eq_true c2, Bool.or_true]; rfl
      · rw [if_neg (by omega), if_neg c2, w64 j (by omega), ih (j + 1) k (by omega) (by omega) (by omega), decide_eq_false c1, decide_eq_false c2]; rfl
theorem refCheck_l (t n : Nat) (hn : n ≤ 60) (l0 l1 : List ByteArray) (a2 : Int) (R : List S41) (hR : R.length ≤ 120) : ∀ (d i k : Nat), R.length - i = d → i ≤ R.length → d * 40 + 1 ≤ k → dovetailref03_Check.l0 k (t : Int) (n : Int) (i : Int) l0 l1 a2 R = some (chkRs t n (R.drop i) i) := by
  intro d
  induction d with
  | zero =>
    intro i k hi hle hk
    obtain ⟨k, rfl⟩ : ∃ j, k = j + 1 := ⟨k - 1, by omega⟩
    have : i = R.length := by omega
    subst this
    rw [dovetailref03_Check.l0, if_neg (by omega), List.drop_length]
    rfl
  | succ d ih =>
    intro i k hi hle hk
    obtain ⟨k, rfl⟩ : ∃ j, k = j + 2 := ⟨k - 2, by omega⟩
    have hlt : i < R.length := by omega
    rw [dovetailref03_Check.l0, if_pos (by omega), if_pos (by omega), rdR_D, getD_lt R i _ hlt, chkRs_drop t n R i hlt]
    generalize R[i] = x
    obtain ⟨x0, xs⟩ := x
    dsimp only
    by_cases c0 : 32 < xs.length
    · have e : checkR t n ⟨x0, xs⟩ = 3 := by simp [checkR, c0]
      rw [if_pos (by omega), e, if_neg (by decide)]
    rw [if_neg (by omega)]
    by_cases c1 : x0 < 0
    · have e : checkR t n ⟨x0, xs⟩ = 1 := by simp [checkR, c0, c1]
      rw [if_pos c1, dovetailref03_Check.j4, if_pos rfl, e, if_neg (by decide)]
    rw [if_neg c1, dovetailref03_Check.j4]
    by_cases c2 : (n : Int) ≤ x0
    · have e : checkR t n ⟨x0, xs⟩ = 1 := by simp [checkR, c0, c2]
      rw [if_pos (decide_eq_true (by omega)), e, if_neg (by decide)]
    have hin : dovetailref03_Check.l1 k (t : Int) (n : Int) (i : Int) 0 l0 l1 a2 R x0 xs = _ := refCheck_in t n hn l0 l1 a2 R i (by omega) x0 xs (by omega) _ _ (fun k hk => ih (i + 1) k (by omega) (by omega) hk) xs.length 0 k (by omega) (by omega) (by omega)
    rw [if_neg (by simp; omega), hin, List.drop_zero]
    cases c3 : xs.any (outS t n) with
    | true =>
      have e : checkR t n ⟨x0, xs⟩ = 1 := by simp [checkR, c0, c3]
      rw [if_pos rfl, e, if_neg (by decide)]
    | false =>
      have e : checkR t n ⟨x0, xs⟩ = 0 := by simp [checkR, c0, c1, c2, c3]
      rw [if_neg (by decide), e, if_pos rfl]
/-- The document's Check. -/
theorem refCheck_f (l0 l1 : List ByteArray) (a2 : Int) (R : List S41) (m0 : l0.length ≤ 9223372036854775807) (m1 : l1.length ≤ 9223372036854775807) (k : Nat) (hk : 20000 ≤ k) :
    dovetailref03_Check.f k l0 l1 a2 R = some (chk (namesOK l0) (namesOK l1) l0.length l1.length a2 R) := by
  obtain ⟨k, rfl⟩ : ∃ j, k = j + 4 := ⟨k - 4, by omega⟩
  have hno : ∀ x, dovetailref03_Check.j0 (k + 4) (l0.length : Int) (l1.length : Int) true x l1 a2 R = some (3, -1) := fun x => by rw [dovetailref03_Check.j0, if_pos rfl]
  unfold dovetailref03_Check.f chk
  by_cases c0 : 60 < l0.length
  · rw [if_pos (by omega), hno, if_pos (by omega)]
  rw [if_neg (by omega)]
  by_cases c1 : 60 < l1.length
  · rw [if_pos (by omega), hno, if_pos (by omega)]
  rw [if_neg (by omega)]
  have hw : wrap64 ((l0.length : Int) + (l1.length : Int)) = (l0.length : Int) + (l1.length : Int) := by unfold wrap64; omega
  rw [hw]
  by_cases c2 : 60 < l0.length + l1.length
  · rw [if_pos (by omega), hno, if_pos (by omega)]
  rw [if_neg (by omega), dovetailref03_Check.j0]
  by_cases c3 : 120 < R.length
  · rw [if_pos (decide_eq_true (by omega)), if_pos (by omega)]
  rw [if_neg (by simp; omega), if_neg (by omega)]
  have hb : ∀ n : Nat, n ≤ 60 → n * (n + 3) + 1 ≤ 4000 := fun n hn => by
    have := Nat.mul_le_mul hn (show n + 3 ≤ 63 by omega)
    omega
  have hb0 := hb l0.length (by omega)
  have hb1 := hb l1.length (by omega)
  rw [refNamed_f l0 (k + 3) m0 (by omega), Option.bind_some]
  cases h0 : namesOK l0 with
  | false => rw [if_neg (by decide), dovetailref03_Check.j1, if_pos rfl]; rfl
  | true =>
    rw [if_pos rfl, refNamed_f l1 (k + 3) m1 (by omega), Option.bind_some, dovetailref03_Check.j1]
    cases h1 : namesOK l1 with
    | false => rw [if_pos (by rfl)]; rfl
    | true =>
      rw [if_neg (show ¬ (!true) = true by decide), if_neg (show ¬ (true && true) = false by decide)]
      have hl : dovetailref03_Check.l0 (k + 1) (l0.length : Int) (l1.length : Int) 0 l0 l1 a2 R = _ := refCheck_l l0.length l1.length (by omega) l0 l1 a2 R (by omega) R.length 0 (k + 1) (by omega) (by omega) (by omega)
      rw [List.drop_zero] at hl
      by_cases c4 : l1.length = 0
      · rw [if_pos (by omega), dovetailref03_Check.j2, if_pos rfl, if_pos (by omega)]
      rw [if_neg (by omega)]
      by_cases c5 : a2 < 0
      · rw [if_pos c5, dovetailref03_Check.j2, if_pos rfl, if_pos (.inl c5)]
      rw [if_neg c5, dovetailref03_Check.j2]
      by_cases c6 : (l1.length : Int) ≤ a2
      · rw [if_pos (decide_eq_true (by omega)), if_pos (.inr c6)]
      rw [if_neg (by simp; omega), if_neg (by omega)]
      exact hl
end Go.Proofs.YtjkifeladmhkoaaDoor.B
/- Chapter 8, in plain Lean: what a right side shows, to what it leads; the sets on their way and at their end. -/
set_option linter.unusedVariables false
set_option linter.unusedSimpArgs false
namespace Go.Proofs.YtjkifeladmhkoaaDoor.E8
open Go.RowKit Go.Proofs.YtjkifeladmhkoaaDoorW.PrintWords Go.Proofs.YtjkifeladmhkoaaDoorW.PrintLast Go.Proofs.YtjkifeladmhkoaaDoorW.PrintMore
open Go.Proofs.YtjkifeladmhkoaaDoor.B

/-- The k-th symbol from one of the ends. -/
def rdE (r : Bool) (l : List Int) (k : Nat) : Int := if r = true then l.getD (l.length - 1 - k) 0 else l.getD k 0
theorem rdE_mem {r : Bool} {l : List Int} {k : Nat} (h : k < l.length) : rdE r l k ∈ l := by
  unfold rdE
  split
  · rw [getD_lt _ _ _ (by omega)]; exact List.getElem_mem _
  · rw [getD_lt _ _ _ h]; exact List.getElem_mem _
/-- The terminal that a right side shows. -/
def shw (r : Bool) (l : List Int) : Option Nat :=
  if 0 < l.length ∧ 0 ≤ rdE r l 0 then some (rdE r l 0).toNat else if 1 < l.length ∧ 0 ≤ rdE r l 1 then some (rdE r l 1).toNat else none
/-- The nonterminal to which it leads. -/
def led (r : Bool) (l : List Int) : Option Nat := if 0 < l.length ∧ rdE r l 0 < 0 then some (-1 - rdE r l 0).toNat else none
theorem shw_lt {t n : Nat} {x : S41} (h : okR t n x = true) {r : Bool} {j : Nat} (hj : shw r x.f1 = some j) : j < t := by
  have hs := (okR_sides h).2.2.2
  unfold shw at hj
  split at hj
  · rename_i c
    have := (hs _ (rdE_mem (r := r) c.1)).1
    have := Option.some.inj hj
    omega
  · split at hj
    · rename_i c
      have := (hs _ (rdE_mem (r := r) c.1)).1
      have := Option.some.inj hj
      omega
    · cases hj
theorem led_lt {t n : Nat} {x : S41} (h : okR t n x = true) {r : Bool} {j : Nat} (hj : led r x.f1 = some j) : j < n := by
  have hs := (okR_sides h).2.2.2
  unfold led at hj
  split at hj
  · rename_i c
    have := (hs _ (rdE_mem (r := r) c.1)).2
    have := Option.some.inj hj
    omega
  · cases hj
/-- A terminal with which (or at which) a nonterminal begins. -/
inductive Beg (R : List S41) (r : Bool) : Nat → Nat → Prop
  | show {i t : Nat} {x : S41} : x ∈ R → x.f0 = (i : Int) → shw r x.f1 = some t → Beg R r i t
  | lead {i m t : Nat} {x : S41} : x ∈ R → x.f0 = (i : Int) → led r x.f1 = some m → Beg R r m t → Beg R r i t
/-- A set, a rule's symbols put in. -/
def upd (r : Bool) (S : List Int) (x : S41) : Int :=
  let s1 := match shw r x.f1 with | some t => Go.bits .or .u64 (S.getD x.f0.toNat 0) (shl .u64 1 (t : Int)) | none => S.getD x.f0.toNat 0
  match led r x.f1 with | some m => Go.bits .or .u64 s1 (S.getD m 0) | none => s1
/-- The sets on their way. -/
structure ESets (R : List S41) (r : Bool) (n : Nat) (S : List Int) : Prop where
  len : S.length = n
  u : ∀ i, i < n → U (S.getD i 0)
  sound : ∀ i, i < n → ∀ t, mem (S.getD i 0) t = true → Beg R r i t
/-- The sets at their end. -/
structure EndsIs (R : List S41) (r : Bool) (n : Nat) (S : List Int) : Prop where
  len : S.length = n
  u : ∀ i, i < n → U (S.getD i 0)
  iff : ∀ i, i < n → ∀ t, mem (S.getD i 0) t = true ↔ Beg R r i t
section
variable {R : List S41} {r : Bool} {n t : Nat} {S : List Int} {x : S41}
theorem upd_u (hS : ESets R r n S) (h : okR t n x = true) (ht : t ≤ 60) : U (upd r S x) ∧ S.getD x.f0.toNat 0 ≤ upd r S x ∧ ∀ j, mem (upd r S x) j = true ↔ (mem (S.getD x.f0.toNat 0) j = true ∨ shw r x.f1 = some j ∨ ∃ m, led r x.f1 = some m ∧ mem (S.getD m 0) j = true) := by
  obtain ⟨_, ha0, ha1, _⟩ := okR_sides h
  have ua := hS.u x.f0.toNat (by omega)
  have h1 : ∃ s1, s1 = (match shw r x.f1 with | some t => Go.bits .or .u64 (S.getD x.f0.toNat 0) (shl .u64 1 (t : Int)) | none => S.getD x.f0.toNat 0) ∧ U s1 ∧ S.getD x.f0.toNat 0 ≤ s1 ∧ ∀ j, mem s1 j = true ↔ (mem (S.getD x.f0.toNat 0) j = true ∨ shw r x.f1 = some j) := by
    refine ⟨_, rfl, ?_⟩
    cases hs : shw r x.f1 with
    | none => exact ⟨ua, Int.le_refl _, fun j => by simp⟩
    | some q =>
      have hq := shw_lt h hs
      have uq := U_one q (by omega)
      refine ⟨U_or ua uq, or_ge ua uq, fun j => ?_⟩
      dsimp only
      rw [mem_or ua uq, mem_one q (by omega), Bool.or_eq_true, decide_eq_true_eq, Option.some_inj]
  obtain ⟨s1, e1, u1, g1, m1⟩ := h1
  unfold upd
  simp only [← e1]
  cases hl : led r x.f1 with
  | none => exact ⟨u1, g1, fun j => by rw [m1]; simp⟩
  | some m =>
    have hm := led_lt h hl
    have um := hS.u m hm
    refine ⟨U_or u1 um, Int.le_trans g1 (or_ge u1 um), fun j => ?_⟩
    dsimp only
    rw [mem_or u1 um, Bool.or_eq_true, m1]
    simp [or_assoc]
theorem ESets.set (hS : ESets R r n S) (hx : x ∈ R) (h : okR t n x = true) (ht : t ≤ 60) : ESets R r n (S.set x.f0.toNat (upd r S x)) := by
  obtain ⟨uu, _, mm⟩ := upd_u hS h ht
  obtain ⟨_, ha0, ha1, _⟩ := okR_sides h
  refine ⟨by simp [hS.len], fun i hi => ?_, fun i hi q hq => ?_⟩
  · rw [getD_set]
    split
    · exact uu
    · exact hS.u i hi
  · rw [getD_set] at hq
    split at hq
    · rename_i c
      have hxi : x.f0 = (i : Int) := by omega
      rcases (mm q).1 hq with h1 | h1 | ⟨m, h1, h2⟩
      · rw [c.1] at h1; exact hS.sound i hi q h1
      · exact .show hx hxi h1
      · exact .lead hx hxi h1 (hS.sound m (led_lt h h1) q h2)
    · exact hS.sound i hi q hq
theorem ESets.start (n : Nat) : ESets R r n (List.replicate n 0) := by
  have h0 : ∀ i, (List.replicate n (0 : Int)).getD i 0 = 0 := fun i => by
    rw [List.getD_eq_getElem?_getD, List.getElem?_replicate]; split <;> rfl
  exact ⟨by simp, fun i hi => by rw [h0]; exact U_zero, fun i hi q hq => by rw [h0, mem_zero] at hq; cases hq⟩
theorem ESets.ends (hS : ESets R r n S) (hR : ∀ x ∈ R, okR t n x = true) (ht : t ≤ 60) (hsh : ∀ x ∈ R, upd r S x = S.getD x.f0.toNat 0) : EndsIs R r n S := by
  refine ⟨hS.len, hS.u, fun i hi q => ⟨hS.sound i hi q, fun h => ?_⟩⟩
  clear hi
  induction h with
  | «show» hx h0 hs =>
    have := (upd_u hS (hR _ hx) ht).2.2 _ |>.2 (.inr (.inl hs))
    rw [hsh _ hx, h0, Int.toNat_natCast] at this
    exact this
  | lead hx h0 hl _ ih =>
    have := (upd_u hS (hR _ hx) ht).2.2 _ |>.2 (.inr (.inr ⟨_, hl, ih⟩))
    rw [hsh _ hx, h0, Int.toNat_natCast] at this
    exact this
end
/-! Turned about. -/
theorem Beg.mono {R R' : List S41} {r : Bool} (h : ∀ x ∈ R, x ∈ R') {i t : Nat} (hb : Beg R r i t) : Beg R' r i t := by
  induction hb with
  | «show» hx h0 hs => exact .show (h _ hx) h0 hs
  | lead hx h0 hl _ ih => exact .lead (h _ hx) h0 hl ih
end Go.Proofs.YtjkifeladmhkoaaDoor.E8
/- dovetailref08.turned, Shows, Leads: walked; in the print's form. -/
set_option linter.unusedVariables false
set_option linter.unusedSimpArgs false
namespace Go.Proofs.YtjkifeladmhkoaaDoor.E8
open Go.RowKit Go.Proofs.YtjkifeladmhkoaaDoorW.PrintWords Go.Proofs.YtjkifeladmhkoaaDoorW.PrintLast Go.Proofs.YtjkifeladmhkoaaDoorW.PrintMore
open Go.Proofs.YtjkifeladmhkoaaDoor.B

/-- A right side read from one of its ends. -/
def tl (r : Bool) (l : List Int) : List Int := if r = true then l.reverse else l
theorem tl_length (r : Bool) (l : List Int) : (tl r l).length = l.length := by unfold tl; split <;> simp
theorem tl_at (r : Bool) (l : List Int) (k : Nat) (h : k < l.length) : (tl r l).getD k 0 = rdE r l k := by
  cases r
  · rfl
  · show l.reverse.getD k 0 = l.getD (l.length - 1 - k) 0
    rw [getD_lt _ _ _ (by simpa using h), getD_lt _ _ _ (by omega), List.getElem_reverse]
theorem infoInt8 : (Tryd.prog.info? 3).map (fun i => (i.zero, i.size, i.bytes)) = some (some (.int .i64 0), 1, 8) := by kernel_rfl
theorem rev_step (l : List Int) (k : Nat) (h : k < l.length) : l.reverse.take (k + 1) = l.reverse.take k ++ [l.getD (l.length - 1 - k) 0] := by
  rw [List.take_succ_eq_append_getElem (by simpa using h), List.getElem_reverse, getD_lt _ _ _ (by omega)]
set_option maxHeartbeats 1500000 in
set_option maxRecDepth 100000 in
theorem Turned_calls (A : Option Addr) (c : Nat) (l : List Int) (r : Bool) (w : World) (hr : Kd.C (Kd.int .i64) w A l.length l) (hc : l.length ≤ c) (hl : l.length * 8 ≤ 140737488351232) :
    Calls Tryd.prog 97 #[.slice A l.length c, .bool r] w fun e w' => ∃ A' c', e = .returned (.slice A' l.length c') ∧ Aside0 (l.length ≤ c' ∧ Kd.C (Kd.int .i64) w' A' l.length (tl r l) ∧ Below w.heap.size w w') := by
  have hm := C_max hr
  cases r
  · have HR := Aside0.mk hr
    clear hr
    go_enter Tryd.func97, Tryd.ntmps97
    go_wp2_with fail
    go_ret
    exact ⟨A, c, rfl, ⟨hc, HR.out, Below.refl _ w⟩⟩
  · have HR := Aside0.mk hr
    have HL := Lib.hid hl
    clear hr hl
    go_enter Tryd.func97, Tryd.ntmps97
    go_wp2_with fail
    go_loopw [5, 6] (fun o i wr => ∃ k : Nat, k ≤ l.length ∧ i = .int .i64 ((l.length : Int) - 1 - (k : Int)) ∧ Aside0 (Below w.heap.size w wr ∧ Kd.R (Kd.int .i64) 3 wr w.heap.size (fun _ => True) o (l.reverse.take k))) (fun _ i _ => ((intOf i) + 1).toNat)
    case atStart => exact ⟨0, Nat.zero_le _, by simp, ⟨Below.refl _ w, Kd.R_nil _ _ _ _ _⟩⟩
    case round =>
      obtain ⟨k, hk, rfl, tr⟩ := hrel
      by_cases hlt : k < l.length
      · obtain ⟨ad, rfl, hx⟩ := Kd.at_int (Kd.C_below HR.out tr.out.1) ((l.length - 1 - k : Nat) : Int) (by omega) (by omega)
        rw [Int.toNat_natCast, rd_D] at hx
        have e0 : (l.length : Int) - 1 - (k : Int) = ((l.length - 1 - k : Nat) : Int) := by omega
        have hst := rev_step l k hlt
        generalize hv : l.getD (l.length - 1 - k) 0 = v at hx hst
        have HST := Lib.hid hst
        have HLEN := Lib.hid (show (l.reverse.take k).length = k by rw [List.length_take, List.length_reverse]; omega)
        clear hst hv
        rw [e0]
        have hq1 : l.length - 1 - k < l.length := by omega
        have hq2 : (0 : Int) ≤ ((l.length - 1 - k : Nat) : Int) := by omega
        have E0 := Lib.hid e0
        clear e0
        generalize hj : l.length - 1 - k = j at *
        go_wp2_with ((with_reducible refine gate_builtin (b := .append) (xs := #[.tmp 17, .tmp 22]) rfl ?_); at_builtin; go_loud (refine Kd.R_append (Kd.int .i64) (w0 := w) w.heap.size rfl (.tmp 17) (.tmp 22) 24 3 (.int .i64 0) 8 rfl Tryd.underlying24 infoInt8 rfl (by decide) (by decide) u5 (l.reverse.take k) v [.int .i64 v] (fun _ => True) (fun _ => False) rfl rfl rfl (fun _ hk => hk.elim) (fun _ _ => trivial) tr.out.2 tr.out.1 (below_size tr.out.1) ?aL ?_; (case aL => have := HL.out; have := HLEN.out; omega); intro v1 w5 hR hB hg hat'; have T5 := Aside0.mk (And.intro hB hR); clear hR hB hg hat'))
        go_roundw
        case measure => first | (simp [intOf]; done) | (simp [intOf]; omega)
        case rel => exact ⟨k + 1, hlt, by congr 1; omega, ⟨T5.out.1, by rw [HST.out]; exact T5.out.2⟩⟩
      · have hkn : k = l.length := by omega
        subst hkn
        have hlen : (l.reverse.take l.length).length = l.length := by rw [List.length_take, List.length_reverse]; omega
        obtain ⟨A', c', hv⟩ := Kd.R_slice tr.out.2
        rw [hlen] at hv
        subst hv
        obtain ⟨_, h1, h2⟩ := Kd.R_reads' tr.out.2
        have HC := Aside0.mk (show l.length ≤ c' ∧ Kd.C (Kd.int .i64) wr A' l.length (tl true l) from ⟨h1, by rw [hlen] at h2; rw [List.take_of_length_le (by simp)] at h2; exact h2⟩)
        have e0 : (l.length : Int) - 1 - (l.length : Int) = -1 := by omega
        rw [e0]
        clear h1 h2 hlen hk hlt e0
        go_wp2_with fail
        go_ret
        exact ⟨A', c', rfl, ⟨HC.out.1, HC.out.2, tr.out.1⟩⟩
theorem tl_cells {r : Bool} {l : List Int} {W : World} {A : Option Addr} (h : Kd.C (Kd.int .i64) W A l.length (tl r l)) (h0 : 0 < l.length) : ∃ a, A = some a ∧ W.cell? a = some (.int .i64 (rdE r l 0)) ∧ (1 < l.length → W.cell? (a.add 1) = some (.int .i64 (rdE r l 1))) := by
  have h' := h
  rw [← tl_length r l] at h'
  obtain ⟨a, e, hx⟩ := Kd.at_int h' 0 (Int.le_refl _) (by rw [tl_length]; omega)
  refine ⟨a, e, ?_, fun h1 => ?_⟩
  · have e0 : rd (tl r l) 0 = rdE r l 0 := by rw [← tl_at r l 0 h0]; rfl
    rw [e0] at hx
    have ea : a.add (Int.toNat 0) = a := rfl
    rwa [ea] at hx
  · obtain ⟨a', e', hx'⟩ := Kd.at_int h' 1 (by decide) (by rw [tl_length]; omega)
    obtain rfl := Option.some.inj (e.symm.trans e')
    have e0 : rd (tl r l) 1 = rdE r l 1 := by rw [← tl_at r l 1 h1]; rfl
    rw [e0] at hx'
    exact hx'
/-- What Shows tells. -/
def showsB (r : Bool) (l : List Int) (tm : Int) : Bool := if 0 < l.length ∧ 0 ≤ rdE r l 0 then decide (rdE r l 0 = tm) else decide (1 < l.length) && decide (rdE r l 1 = tm)
/-- What Leads tells. -/
def leadsB (r : Bool) (l : List Int) : Int := if 0 < l.length ∧ rdE r l 0 < 0 then -1 - rdE r l 0 else -1
set_option maxHeartbeats 1500000 in
set_option maxRecDepth 100000 in
theorem ShowsR_calls (x0 : Int) (A : Option Addr) (c : Nat) (l : List Int) (tm : Int) (r : Bool) (w : World) (hr : Kd.C (Kd.int .i64) w A l.length l) (hc : l.length ≤ c) (hl : l.length * 8 ≤ 140737488351232) :
    Calls Tryd.prog 70 #[.agg #[.int .i64 x0, .slice A l.length c], .int .i64 tm, .bool r] w fun e w' => e = .returned (.bool (showsB r l tm)) ∧ Below w.heap.size w w' := by
  have hb : Below w.heap.size w (w.alloc (.cells #[.int .i64 x0, .slice A l.length c] 41)) := (Below.refl _ w).alloc (Nat.le_refl _) _
  have KT := Aside0.mk (Turned_calls A c l r _ (Kd.C_below hr hb) hc hl)
  have HB := Aside0.mk hb
  have HL := Lib.hid hl
  clear hr hb hl
  by_cases h0 : 0 < l.length
  · have d0 : decide ((0 : Int) < (l.length : Int)) = true := decide_eq_true (by omega)
    have d0' : decide (0 < l.length) = true := decide_eq_true h0
    by_cases h1 : 0 ≤ rdE r l 0
    · have hq : showsB r l tm = decide (rdE r l 0 = tm) := if_pos ⟨h0, h1⟩
      rw [hq]
      clear hq
      have KC : Aside0 (∀ {W A'}, Kd.C (Kd.int .i64) W A' l.length (tl r l) → ∃ a, A' = some a ∧ W.cell? a = some (.int .i64 (rdE r l 0))) := ⟨fun h => by obtain ⟨a, e, g, _⟩ := tl_cells h h0; exact ⟨a, e, g⟩⟩
      generalize rdE r l 0 = v0 at h1 KC
      have d1 : decide ((0 : Int) ≤ v0) = true := decide_eq_true h1
      go_enter Tryd.func70, Tryd.ntmps70
      go_wp2_with (go_at_call 97; (with_reducible refine KT.out.mono ?_); rintro e w1 ⟨A', c', rfl, t1⟩; obtain ⟨a, rfl, g0⟩ := KC.out t1.out.2.1)
      go_ret
      exact ⟨rfl, HB.out.trans (t1.out.2.2.mono HB.out.size)⟩
    · have hq : showsB r l tm = (decide (1 < l.length) && decide (rdE r l 1 = tm)) := if_neg (fun h => h1 h.2)
      rw [hq]
      clear hq
      by_cases h2 : 1 < l.length
      · have KC : Aside0 (∀ {W A'}, Kd.C (Kd.int .i64) W A' l.length (tl r l) → ∃ a, A' = some a ∧ W.cell? a = some (.int .i64 (rdE r l 0)) ∧ W.cell? (a.add 1) = some (.int .i64 (rdE r l 1))) := ⟨fun h => by obtain ⟨a, e, g, g1⟩ := tl_cells h h0; exact ⟨a, e, g, g1 h2⟩⟩
        rw [decide_eq_true h2, Bool.true_and]
        generalize rdE r l 0 = v0 at h1 KC
        generalize rdE r l 1 = v1 at KC
        have d1 : decide ((0 : Int) ≤ v0) = false := decide_eq_false h1
        have d2 : decide ((1 : Int) < (l.length : Int)) = true := decide_eq_true (by omega)
        have d2' : decide (1 < l.length) = true := decide_eq_true h2
        have H1 := Lib.hid h1
        clear h1
        go_enter Tryd.func70, Tryd.ntmps70
        go_wp2_with (go_at_call 97; (with_reducible refine KT.out.mono ?_); rintro e w1 ⟨A', c', rfl, t1⟩; obtain ⟨a, rfl, g0, g1⟩ := KC.out t1.out.2.1; have g1 : w1.cell? { block := a.block, off := a.off + 1 } = some (.int .i64 v1) := g1)
        go_ret
        exact ⟨rfl, HB.out.trans (t1.out.2.2.mono HB.out.size)⟩
      · have KC : Aside0 (∀ {W A'}, Kd.C (Kd.int .i64) W A' l.length (tl r l) → ∃ a, A' = some a ∧ W.cell? a = some (.int .i64 (rdE r l 0))) := ⟨fun h => by obtain ⟨a, e, g, g1⟩ := tl_cells h h0; exact ⟨a, e, g⟩⟩
        rw [decide_eq_false h2, Bool.false_and]
        generalize rdE r l 0 = v0 at h1 KC
        have d1 : decide ((0 : Int) ≤ v0) = false := decide_eq_false h1
        have d2 : decide ((1 : Int) < (l.length : Int)) = false := decide_eq_false (by omega)
        have d2' : decide (1 < l.length) = false := decide_eq_false h2
        have H1 := Lib.hid h1
        have H2 := Lib.hid h2
        clear h1 h2
        go_enter Tryd.func70, Tryd.ntmps70
        go_wp2_with (go_at_call 97; (with_reducible refine KT.out.mono ?_); rintro e w1 ⟨A', c', rfl, t1⟩; obtain ⟨a, rfl, g0⟩ := KC.out t1.out.2.1)
        go_ret
        exact ⟨rfl, HB.out.trans (t1.out.2.2.mono HB.out.size)⟩
  · have hq : showsB r l tm = false := by unfold showsB; rw [if_neg (fun h => h0 h.1), decide_eq_false (by omega)]; rfl
    rw [hq]
    have d0 : decide ((0 : Int) < (l.length : Int)) = false := decide_eq_false (by omega)
    have d0' : decide (0 < l.length) = false := decide_eq_false h0
    have d2 : decide ((1 : Int) < (l.length : Int)) = false := decide_eq_false (by omega)
    have d2' : decide (1 < l.length) = false := decide_eq_false (by omega)
    have H0 := Lib.hid h0
    clear hq h0
    go_enter Tryd.func70, Tryd.ntmps70
    go_wp2_with (go_at_call 97; (with_reducible refine KT.out.mono ?_); rintro e w1 ⟨A', c', rfl, t1⟩)
    go_ret
    exact ⟨rfl, HB.out.trans (t1.out.2.2.mono HB.out.size)⟩
set_option maxHeartbeats 1500000 in
set_option maxRecDepth 100000 in
theorem LeadsR_calls (x0 : Int) (A : Option Addr) (c : Nat) (l : List Int) (r : Bool) (w : World) (hr : Kd.C (Kd.int .i64) w A l.length l) (hc : l.length ≤ c) (hl : l.length * 8 ≤ 140737488351232) (hlo : ∀ s ∈ l, (-9223372036854775808 : Int) ≤ s) :
    Calls Tryd.prog 72 #[.agg #[.int .i64 x0, .slice A l.length c], .bool r] w fun e w' => e = .returned (.int .i64 (leadsB r l)) ∧ Below w.heap.size w w' := by
  have hb : Below w.heap.size w (w.alloc (.cells #[.int .i64 x0, .slice A l.length c] 41)) := (Below.refl _ w).alloc (Nat.le_refl _) _
  have KT := Aside0.mk (Turned_calls A c l r _ (Kd.C_below hr hb) hc hl)
  have HB := Aside0.mk hb
  have HL := Lib.hid hl
  clear hr hb hl
  by_cases h0 : 0 < l.length
  · have d0 : decide ((0 : Int) < (l.length : Int)) = true := decide_eq_true (by omega)
    have d0' : decide (0 < l.length) = true := decide_eq_true h0
    have hv := hlo _ (rdE_mem (r := r) h0)
    have KC : Aside0 (∀ {W A'}, Kd.C (Kd.int .i64) W A' l.length (tl r l) → ∃ a, A' = some a ∧ W.cell? a = some (.int .i64 (rdE r l 0))) := ⟨fun h => by obtain ⟨a, e, g, g1⟩ := tl_cells h h0; exact ⟨a, e, g⟩⟩
    by_cases h1 : rdE r l 0 < 0
    · have hq : leadsB r l = -1 - rdE r l 0 := if_pos ⟨h0, h1⟩
      rw [hq]
      clear hq hlo
      generalize rdE r l 0 = v0 at h1 KC hv
      have d1 : decide (v0 < 0) = true := decide_eq_true h1
      go_enter Tryd.func72, Tryd.ntmps72
      go_wp2_with (go_at_call 97; (with_reducible refine KT.out.mono ?_); rintro e w1 ⟨A', c', rfl, t1⟩; obtain ⟨a, rfl, g0⟩ := KC.out t1.out.2.1)
      go_ret
      exact ⟨rfl, HB.out.trans (t1.out.2.2.mono HB.out.size)⟩
    · have hq : leadsB r l = -1 := if_neg (fun h => h1 h.2)
      rw [hq]
      clear hq hlo
      generalize rdE r l 0 = v0 at h1 KC hv
      have d1 : decide (v0 < 0) = false := decide_eq_false h1
      have H1 := Lib.hid h1
      clear h1
      go_enter Tryd.func72, Tryd.ntmps72
      go_wp2_with (go_at_call 97; (with_reducible refine KT.out.mono ?_); rintro e w1 ⟨A', c', rfl, t1⟩; obtain ⟨a, rfl, g0⟩ := KC.out t1.out.2.1)
      go_ret
      exact ⟨rfl, HB.out.trans (t1.out.2.2.mono HB.out.size)⟩
  · have hq : leadsB r l = -1 := if_neg (fun h => h0 h.1)
    rw [hq]
    have d0 : decide ((0 : Int) < (l.length : Int)) = false := decide_eq_false (by omega)
    have d0' : decide (0 < l.length) = false := decide_eq_false h0
    have H0 := Lib.hid h0
    clear hq h0 hlo
    go_enter Tryd.func72, Tryd.ntmps72
    go_wp2_with (go_at_call 97; (with_reducible refine KT.out.mono ?_); rintro e w1 ⟨A', c', rfl, t1⟩)
    go_ret
    exact ⟨rfl, HB.out.trans (t1.out.2.2.mono HB.out.size)⟩
def dovetailref08_Shows.f (a0_0 : Int) (l0_1 : List Int) (a1 : Int) (a2 : Bool) : Option Bool := if l0_1.length * 8 ≤ 140737488351232 then some (showsB a2 l0_1 a1) else none
theorem dovetailref08_Shows.calls (a0_0 : Int) (A0_1 : Option Addr) (c0_1 : Nat) (l0_1 : List Int) (a1 : Int) (a2 : Bool) (r : Bool) (w : World) (hr0_1 : Kd.C (Kd.int .i64) w A0_1 l0_1.length l0_1) (hc0_1 : l0_1.length ≤ c0_1) (h : dovetailref08_Shows.f a0_0 l0_1 a1 a2 = some r) :
    Calls Tryd.prog 70 #[.agg #[.int .i64 a0_0, .slice A0_1 l0_1.length c0_1], .int .i64 a1, .bool a2] w fun e w' => e = .returned (.bool r) ∧ Below w.heap.size w w' := by
  unfold dovetailref08_Shows.f at h
  split at h
  · rename_i hl
    obtain rfl := Option.some.inj h
    exact ShowsR_calls a0_0 A0_1 c0_1 l0_1 a1 a2 w hr0_1 hc0_1 hl
  · cases h
def dovetailref08_Leads.f (a0_0 : Int) (l0_1 : List Int) (a1 : Bool) : Option Int := if l0_1.length * 8 ≤ 140737488351232 ∧ l0_1.all (fun s => decide ((-9223372036854775808 : Int) ≤ s)) = true then some (leadsB a1 l0_1) else none
theorem dovetailref08_Leads.calls (a0_0 : Int) (A0_1 : Option Addr) (c0_1 : Nat) (l0_1 : List Int) (a1 : Bool) (r : Int) (w : World) (hr0_1 : Kd.C (Kd.int .i64) w A0_1 l0_1.length l0_1) (hc0_1 : l0_1.length ≤ c0_1) (h : dovetailref08_Leads.f a0_0 l0_1 a1 = some r) :
    Calls Tryd.prog 72 #[.agg #[.int .i64 a0_0, .slice A0_1 l0_1.length c0_1], .bool a1] w fun e w' => e = .returned (.int .i64 r) ∧ Below w.heap.size w w' := by
  unfold dovetailref08_Leads.f at h
  split at h
  · rename_i hl
    obtain rfl := Option.some.inj h
    exact LeadsR_calls a0_0 A0_1 c0_1 l0_1 a1 w hr0_1 hc0_1 hl.1 (fun s hs => of_decide_eq_true (List.all_eq_true.1 hl.2 s hs))
  · cases h
end Go.Proofs.YtjkifeladmhkoaaDoor.E8
namespace Go.Proofs.YtjkifeladmhkoaaDoor.Er
open Go.Proofs.YtjkifeladmhkoaaDoor.B (S41 z41 k41 k41_open k41_openM k41_mk k41_mkM rd_T41 at_T41 dovetailref03_Check.f dovetailref03_Check.calls dovetailref03_Check.mono)
open Go.RowKit Go.Proofs.YtjkifeladmhkoaaDoorW.PrintWords Go.Proofs.YtjkifeladmhkoaaDoorW.PrintLast Go.Proofs.YtjkifeladmhkoaaDoorW.PrintMore
attribute [local go_sem] max2_int min2_int max_two min_two max_three min_three max_four min_four   -- for this text's walks alone
set_option linter.unusedVariables false
set_option linter.unusedSimpArgs false



def errW : Option Int → Value
  | none => .nilIface
  | some c => .iface 0 (.int .i64 c)
theorem errW_none : errW none = .nilIface := rfl
theorem errW_some (c : Int) : errW (some c) = .iface 0 (.int .i64 c) := rfl

theorem info3 : (Tryd.prog.info? 3).map (fun i => (i.zero, i.size, i.bytes)) = some (some (.int .i64 0), 1, 8) := by kernel_rfl
theorem info4 : (Tryd.prog.info? 4).map (fun i => (i.zero, i.size, i.bytes)) = some (some (.bool false), 1, 1) := by kernel_rfl
theorem info45 : (Tryd.prog.info? 45).map (fun i => (i.zero, i.size, i.bytes)) = some (some (.int .u64 0), 1, 8) := by kernel_rfl
/-! #### struct type 41 -/

/-! #### struct type 32 -/
structure S32 where
  f0 : (List ByteArray)
  f1 : (List ByteArray)
  f2 : Int
  f3 : (List S41)
def k32 : Kd S32 := Kd.iso (Kd.pair (Kd.slice 9 Kd.string) (Kd.pair (Kd.slice 9 Kd.string) (Kd.pair (Kd.int .i64) (Kd.slice 41 k41)))) (fun x : S32 => (x.f0, x.f1, x.f2, x.f3))
theorem k32_open {w : World} {x : S32} {cs : List Value} (h : k32.K w x cs) : ∃ A0 c0 A1 c1 A3 c3, cs = [.slice A0 x.f0.length c0, .slice A1 x.f1.length c1, .int .i64 x.f2, .slice A3 x.f3.length c3] ∧ x.f0.length ≤ c0 ∧ Kd.string.C w A0 x.f0.length x.f0 ∧ x.f1.length ≤ c1 ∧ Kd.string.C w A1 x.f1.length x.f1 ∧ x.f3.length ≤ c3 ∧ k41.C w A3 x.f3.length x.f3 := by
  obtain ⟨_, _, rfl, ⟨A0, c0, rfl, l0, g0⟩, ⟨_, _, rfl, ⟨A1, c1, rfl, l1, g1⟩, ⟨_, _, rfl, rfl, ⟨A3, c3, rfl, l3, g3⟩⟩⟩⟩ := h
  exact ⟨A0, c0, A1, c1, A3, c3, rfl, l0, g0, l1, g1, l3, g3⟩
end Go.Proofs.YtjkifeladmhkoaaDoor.Er
