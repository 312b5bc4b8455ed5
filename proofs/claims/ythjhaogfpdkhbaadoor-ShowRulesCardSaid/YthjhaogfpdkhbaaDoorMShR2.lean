/-
 dovetaillaw05.ShowRules: whatever is handed in, the call answers true, and each argument reads as it did.
 Conditions: those of the given statement ShowRulesCardSaid alone.
-/
import Derived.Test.YthjhaogfpdkhbaaDoorMShR1
import Derived.StillTailTactics
import Derived.Lib.AppendStr
import Derived.Test.YthjhaogfpdkhbaaDoorProg
import Derived.Below
import Derived.Deep.Draws
import Derived.Deep.AppendLies
import Derived.Maps.AppendAt
import Derived.OwnWalk
import Derived.Laws.BytesArg
import Derived.Laws.MakeOwn
import Derived.Laws.OwnMore
import Derived.Deep.OwnRows
import Derived.Tactics
import Derived.Lib.ConvBytes
import Derived.Laws.Slices
import Derived.WalkKit
import Derived.KernelRfl
import Derived.RowKit3
import Derived.Deep.LoopGhost
import Derived.Deep.QuietTactic
import Derived.BigQuiet
import Derived.WideLaws
import Derived.Deep.DeepCutAuto
import Derived.Deep.CutBlock
import Derived.Deep.RegionHeld3
import Derived.Laws.Rows
import Derived.ArgAppend
import Derived.Laws.IdiomCopy
import Derived.OrdersHeld
import Derived.Laws.BitsLemmas
import Derived.RowKit
import Derived.Lib.Bytealg
import Derived.Test.YthjhaogfpdkhbaaDoorCards
import Derived.Test.YthjhaogfpdkhbaaDoorTie
import Derived.LaidLaws
import Derived.LaidHandle
import Derived.Lib.LaidTab
import Derived.Lib.LaidIn
import Derived.SevenTiedAt
import Derived.WideShapes
import Derived.JoinedCond
import Derived.ChangeMaps5
import Derived.SizedLaws
import Derived.Deep.DeepHandedRow
import Derived.Deep.DeepWitnessRowRef
/- gram.Check: what it answers, whatever the grammar. -/
set_option linter.unusedVariables false
set_option linter.unusedSimpArgs false
namespace Go.Proofs.YthjhaogfpdkhbaaDoor.B
open Go.RowKit YthjhaogfpdkhbaaDoorW.PrintWords YthjhaogfpdkhbaaDoorW.PrintLast YthjhaogfpdkhbaaDoorW.PrintMore

def Sents (ad : Int → Addr) (w : World) : Prop := w.cell? ⟨3, 0, none⟩ = some (.iface 178 (.pointer (some (ad 3)))) ∧ w.cell? ⟨10, 0, none⟩ = some (.iface 178 (.pointer (some (ad 10)))) ∧ w.cell? ⟨1, 0, none⟩ = some (.iface 178 (.pointer (some (ad 1))))
theorem Sents.below {ad : Int → Addr} {w w' : World} (h : Sents ad w) (hb : Below w.heap.size w w') : Sents ad w' :=
 ⟨(hb.cell (World.block_lt_of_cell? w _ h.1)).trans h.1, (hb.cell (World.block_lt_of_cell? w _ h.2.1)).trans h.2.1, (hb.cell (World.block_lt_of_cell? w _ h.2.2)).trans h.2.2⟩
def checkR (t n : Nat) (x : S52) : Int := if 32 < x.f1.length then 3 else if x.f0 < 0 ∨ (n : Int) ≤ x.f0 ∨ x.f1.any (outS t n) = true then 1 else 0
def chkRs (t n : Nat) : List S52 → Nat → Int × Int
 | [], _ => (0, -1)
 | x :: l, j => if checkR t n x = 0 then chkRs t n l (j + 1) else (checkR t n x, (j : Int))
theorem chkRs_drop (t n : Nat) (R : List S52) (j : Nat) (h : j < R.length) : chkRs t n (R.drop j) j = if checkR t n R[j] = 0 then chkRs t n (R.drop (j + 1)) (j + 1) else (checkR t n R[j], (j : Int)) := by
 rw [List.drop_eq_getElem_cons h, chkRs]
def chk (b0 b1 : Bool) (l0 l1 : Nat) (a2 : Int) (R : List S52) : Int × Int :=
 if 60 < l0 + l1 ∨ 120 < R.length then (3, -1) else if (b0 && b1) = false then (10, -1) else if a2 < 0 ∨ (l1 : Int) ≤ a2 then (1, -1) else chkRs l0 l1 R 0
theorem checkR_cases (t n : Nat) (x : S52) : checkR t n x = 0 ∧ okR t n x = true ∨ (checkR t n x = 3 ∨ checkR t n x = 1) ∧ okR t n x = false := by
 unfold checkR okR
 by_cases c1 : 32 < x.f1.length
 · rw [if_pos c1]; right; simp; omega
 · rw [if_neg c1]
   by_cases c2 : x.f0 < 0 ∨ (n : Int) ≤ x.f0 ∨ x.f1.any (outS t n) = true
   · rw [if_pos c2]; right
     refine ⟨.inr rfl, ?_⟩
     rcases c2 with c | c | c
     · simp [show ¬ (0 ≤ x.f0) from by omega]
     · simp [show ¬ (x.f0 < (n : Int)) from by omega]
     · simp [c]
   · rw [if_neg c2]; left
     simp only [not_or, Bool.not_eq_true] at c2
     refine ⟨rfl, ?_⟩
     simp [c2.2.2, show x.f1.length ≤ 32 from by omega, show 0 ≤ x.f0 from by omega, show x.f0 < (n : Int) from by omega]
def ErrV (ad : Int → Addr) (w : World) (v : Value) (p : Int × Int) : Prop :=
 (p.1 = 0 ∧ p.2 = -1 ∧ v = .nilIface) ∨ ((p.1 = 3 ∨ p.1 = 10 ∨ p.1 = 1) ∧ p.2 = -1 ∧ v = .iface 178 (.pointer (some (ad p.1)))) ∨
 ((p.1 = 3 ∨ p.1 = 1) ∧ 0 ≤ p.2 ∧ p.2 < 120 ∧ ∃ b, v = .iface 126 (.pointer (some ⟨b, 0, none⟩)) ∧ w.heap[b]? = some (.cells #[.int .i64 p.2, .iface 178 (.pointer (some (ad p.1)))] 128 (0, 0)))
def CheckPost (ad : Int → Addr) (w : World) (p : Int × Int) (e : Ending) (w' : World) : Prop := (∃ v, e = .returned v ∧ ErrV ad w' v p) ∧ Below w.heap.size w w'
theorem ErrV.nil {ad : Int → Addr} {w : World} {v : Value} {p : Int × Int} (h : ErrV ad w v p) (h0 : p.1 = 0) : v = .nilIface := by
 rcases h with h | h | h
 · exact h.2.2
 · rcases h.1 with h | h | h <;> omega
 · rcases h.1 with h | h <;> omega
theorem ErrV.some {ad : Int → Addr} {w : World} {v : Value} {p : Int × Int} (h : ErrV ad w v p) (h0 : p.1 ≠ 0) : ∃ t u, v = .iface t u := by
 rcases h with h | h | h
 · exact absurd h.1 h0
 · exact ⟨_, _, h.2.2⟩
 · obtain ⟨_, _, _, b, h, _⟩ := h; exact ⟨_, _, h⟩
theorem ErrV.below {ad : Int → Addr} {w w' : World} {v : Value} {p : Int × Int} (h : ErrV ad w v p) (hb : Below w.heap.size w w') : ErrV ad w' v p := by
 rcases h with h | h | ⟨h1, h2, h3, b, hv, hx⟩
 · exact .inl h
 · exact .inr (.inl h)
 · exact .inr (.inr ⟨h1, h2, h3, b, hv, Box.below (W := w) (W' := w') hx hb⟩)
def ruleV (ad : Int → Addr) (c : Int) : Value := if c = 0 then .nilIface else .iface 178 (.pointer (some (ad c)))

set_option maxHeartbeats 1000000 in
set_option maxRecDepth 100000 in
theorem Rule_full (ad : Int → Addr) (A0 : Option Addr) (c0 t : Nat) (A1 : Option Addr) (c1 n : Nat) (a2 : Int) (v3 : Value) (x : S52) (A : Option Addr) (c : Nat) (w : World) (hg : Sents ad w) (ht : t ≤ 60) (hn : n ≤ 60) (hr : Kd.C (Kd.int .i64) w A x.f1.length x.f1) (hc : x.f1.length ≤ c) :
 Calls Tryd.prog 82 #[.agg #[.slice A0 t c0, .slice A1 n c1, .int .i64 a2, v3], .agg #[.int .i64 x.f0, .slice A x.f1.length c]] w fun e w' => e = .returned (ruleV ad (checkR t n x)) ∧ Below w.heap.size w w' := by
 obtain ⟨x0, x1⟩ := x
 dsimp only at hr hc ⊢
 have hB1 := (Box.new w #[.slice A0 t c0, .slice A1 n c1, .int .i64 a2, v3] 25).alloc (.cells #[.int .i64 x0, .slice A x1.length c] 52)
 have hb : Below w.heap.size w ((w.alloc (.cells #[.slice A0 t c0, .slice A1 n c1, .int .i64 a2, v3] 25)).alloc (.cells #[.int .i64 x0, .slice A x1.length c] 52)) := ((Below.refl _ w).alloc (Nat.le_refl _) _).alloc (by simp) _
 have hcall := ContS_calls A x1 c w.heap.size t n c0 c1 A0 A1 _ ht hn (hB1.cell 0 _ rfl) (hB1.cell 1 _ rfl) (Kd.C_below hr hb) hc
 obtain ⟨h0, h1, h2⟩ := hg.below hb
 have HB := Aside0.mk hb
 have H0 : ∀ w', Below ((w.alloc (.cells #[.slice A0 t c0, .slice A1 n c1, .int .i64 a2, v3] 25)).alloc (.cells #[.int .i64 x0, .slice A x1.length c] 52)).heap.size ((w.alloc (.cells #[.slice A0 t c0, .slice A1 n c1, .int .i64 a2, v3] 25)).alloc (.cells #[.int .i64 x0, .slice A x1.length c] 52)) w' → w'.cell? ⟨1, 0, none⟩ = some (.iface 178 (.pointer (some (ad 1)))) := fun w' hb' => (hb'.cell (World.block_lt_of_cell? _ _ h2)).trans h2
 by_cases k1 : x1.length ≤ 32
 · have b1 : decide ((32 : Int) < x1.length) = false := decide_eq_false (by omega)
   have b1' : decide (32 < x1.length) = false := decide_eq_false (by omega)
   by_cases k2 : x0 < 0
   · have b2 : decide (x0 < 0) = true := decide_eq_true k2
     have HE := Lib.hid (show ruleV ad (checkR t n ⟨x0, x1⟩) = .iface 178 (.pointer (some (ad 1))) by simp [ruleV, checkR, show ¬ 32 < x1.length from by omega, k2])
     clear hr hcall hB1 hb H0
     go_enter Tryd.func82, Tryd.ntmps82
     go_wp2_with fail
     go_ret
     exact ⟨by rw [HE.out]; rfl, HB.out⟩
   · have b2 : decide (x0 < 0) = false := decide_eq_false k2
     by_cases k3 : (n : Int) ≤ x0
     · have b3 : decide ((n : Int) ≤ x0) = true := decide_eq_true k3
       have HE := Lib.hid (show ruleV ad (checkR t n ⟨x0, x1⟩) = .iface 178 (.pointer (some (ad 1))) by simp [ruleV, checkR, show ¬ 32 < x1.length from by omega, k3])
       clear hr hcall hB1 hb H0
       go_enter Tryd.func82, Tryd.ntmps82
       go_wp2_with fail
       go_ret
       exact ⟨by rw [HE.out]; rfl, HB.out⟩
     · have b3 : decide ((n : Int) ≤ x0) = false := decide_eq_false k3
       cases hany : x1.any (outS t n) with
       | true =>
        rw [hany] at hcall
        have HE := Lib.hid (show ruleV ad (checkR t n ⟨x0, x1⟩) = .iface 178 (.pointer (some (ad 1))) by simp [ruleV, checkR, hany, show ¬ 32 < x1.length from by omega])
        have HC := Aside0.mk hcall
        have HH := Aside0.mk H0
        clear hr hcall hB1 hb hany H0
        go_enter Tryd.func82, Tryd.ntmps82
        go_wp2_with (go_at_call 99; (with_reducible refine HC.out.mono ?_); rintro e w' ⟨rfl, hb'⟩; have q2 := HH.out _ hb')
        go_ret
        exact ⟨by rw [HE.out]; rfl, HB.out.trans (hb'.mono HB.out.size)⟩
       | false =>
        rw [hany] at hcall
        have HE := Lib.hid (show ruleV ad (checkR t n ⟨x0, x1⟩) = .nilIface by simp [ruleV, checkR, hany, show ¬ 32 < x1.length from by omega, k2, k3])
        have HC := Aside0.mk hcall
        clear hr hcall hB1 hb hany H0
        go_enter Tryd.func82, Tryd.ntmps82
        go_wp2_with (go_at_call 99; (with_reducible refine HC.out.mono ?_); rintro e w' ⟨rfl, hb'⟩)
        go_ret
        exact ⟨by rw [HE.out]; rfl, HB.out.trans (hb'.mono HB.out.size)⟩
 · have b1 : decide ((32 : Int) < x1.length) = true := decide_eq_true (by omega)
   have b1' : decide (32 < x1.length) = true := decide_eq_true (by omega)
   have HE := Lib.hid (show ruleV ad (checkR t n ⟨x0, x1⟩) = .iface 178 (.pointer (some (ad 3))) by simp [ruleV, checkR, show 32 < x1.length from by omega])
   clear hr hcall hB1 hb H0
   go_enter Tryd.func82, Tryd.ntmps82
   go_wp2_with fail
   go_ret
   exact ⟨by rw [HE.out]; rfl, HB.out⟩
set_option maxHeartbeats 1500000 in
set_option maxRecDepth 100000 in
theorem Check_full (ad : Int → Addr) (k : Nat) (A0 : Option Addr) (c0 : Nat) (l0 : List ByteArray) (A1 : Option Addr) (c1 : Nat) (l1 : List ByteArray) (a2 : Int) (A3 : Option Addr) (c3 : Nat) (l3 : List S52) (b0 b1 : Bool) (w : World) (hG : Sents ad w) (hr0 : Kd.C Kd.string w A0 l0.length l0) (hc0 : l0.length ≤ c0) (hr1 : Kd.C Kd.string w A1 l1.length l1) (hc1 : l1.length ≤ c1) (hr3 : Kd.C k52 w A3 l3.length l3) (hc3 : l3.length ≤ c3)
 (hn0 : gram_names.f k l0 = some b0) (hn1 : gram_names.f k l1 = some b1) :
 Calls Tryd.prog 51 #[.agg #[.slice A0 l0.length c0, .slice A1 l1.length c1, .int .i64 a2, .slice A3 l3.length c3]] w (CheckPost ad w (chk b0 b1 l0.length l1.length a2 l3)) := by
 obtain ⟨x0, x1, x2⟩ := id hG
 obtain ⟨Tw, hT⟩ : ∃ Tw : World → Prop, ∀ W, Tw W ↔ (Below w.heap.size w W ∧ Box w.heap.size #[.slice A0 l0.length c0, .slice A1 l1.length c1, .int .i64 a2, .slice A3 l3.length c3] 25 W) := ⟨_, fun _ => Iff.rfl⟩
 have start : Tw (w.alloc (.cells #[.slice A0 l0.length c0, .slice A1 l1.length c1, .int .i64 a2, .slice A3 l3.length c3] 25)) := (hT _).2 ⟨(Below.refl _ w).alloc (Nat.le_refl _) _, Box.new w _ _⟩
 have cells : ∀ W, Tw W → W.cell? ⟨w.heap.size, 0, none⟩ = some (.slice A0 l0.length c0) ∧ W.cell? ⟨w.heap.size, 1, none⟩ = some (.slice A1 l1.length c1) ∧ W.cell? ⟨w.heap.size, 2, none⟩ = some (.int .i64 a2) ∧ W.cell? ⟨w.heap.size, 3, none⟩ = some (.slice A3 l3.length c3) ∧ W.cell? ⟨3, 0, none⟩ = some (.iface 178 (.pointer (some (ad 3)))) ∧ W.cell? ⟨10, 0, none⟩ = some (.iface 178 (.pointer (some (ad 10)))) ∧ W.cell? ⟨1, 0, none⟩ = some (.iface 178 (.pointer (some (ad 1)))) := by
  intro W hW
  have hb := ((hT W).1 hW).1
  have h3' := ((hT W).1 hW).2
  exact ⟨h3'.cell 0 _ rfl, h3'.cell 1 _ rfl, h3'.cell 2 _ rfl, h3'.cell 3 _ rfl, (hb.cell (World.block_lt_of_cell? w _ x0)).trans x0, (hb.cell (World.block_lt_of_cell? w _ x1)).trans x1, (hb.cell (World.block_lt_of_cell? w _ x2)).trans x2⟩
 have more : ∀ W W', Tw W → Below W.heap.size W W' → Tw W' := fun W W' h hb => (hT W').2 ⟨((hT W).1 h).1.trans (hb.mono ((hT W).1 h).1.size), ((hT W).1 h).2.below hb⟩
 have last : ∀ W, Tw W → Below w.heap.size w W := fun W h => ((hT W).1 h).1
 clear hT
 have key0 : ∀ W, Tw W → Calls Tryd.prog 81 #[.slice A0 l0.length c0] W fun e W => e = .returned (.bool b0) ∧ Aside0 (Tw W) ∧ W.cell? ⟨w.heap.size, 0, none⟩ = some (.slice A0 l0.length c0) ∧ W.cell? ⟨w.heap.size, 1, none⟩ = some (.slice A1 l1.length c1) ∧ W.cell? ⟨w.heap.size, 2, none⟩ = some (.int .i64 a2) ∧ W.cell? ⟨w.heap.size, 3, none⟩ = some (.slice A3 l3.length c3) ∧ W.cell? ⟨3, 0, none⟩ = some (.iface 178 (.pointer (some (ad 3)))) ∧ W.cell? ⟨10, 0, none⟩ = some (.iface 178 (.pointer (some (ad 10)))) ∧ W.cell? ⟨1, 0, none⟩ = some (.iface 178 (.pointer (some (ad 1)))) := by
  intro W hW
  refine (gram_names.calls k A0 c0 l0 b0 W (Kd.C_below hr0 (last W hW)) hc0 hn0).mono ?_
  rintro e w' ⟨he, hd⟩
  have := more W w' hW hd.below
  exact ⟨he, ⟨this⟩, cells _ this⟩
 have key1 : ∀ W, Tw W → Calls Tryd.prog 81 #[.slice A1 l1.length c1] W fun e W => e = .returned (.bool b1) ∧ Aside0 (Tw W) ∧ W.cell? ⟨w.heap.size, 0, none⟩ = some (.slice A0 l0.length c0) ∧ W.cell? ⟨w.heap.size, 1, none⟩ = some (.slice A1 l1.length c1) ∧ W.cell? ⟨w.heap.size, 2, none⟩ = some (.int .i64 a2) ∧ W.cell? ⟨w.heap.size, 3, none⟩ = some (.slice A3 l3.length c3) ∧ W.cell? ⟨3, 0, none⟩ = some (.iface 178 (.pointer (some (ad 3)))) ∧ W.cell? ⟨10, 0, none⟩ = some (.iface 178 (.pointer (some (ad 10)))) ∧ W.cell? ⟨1, 0, none⟩ = some (.iface 178 (.pointer (some (ad 1)))) := by
  intro W hW
  refine (gram_names.calls k A1 c1 l1 b1 W (Kd.C_below hr1 (last W hW)) hc1 hn1).mono ?_
  rintro e w' ⟨he, hd⟩
  have := more W w' hW hd.below
  exact ⟨he, ⟨this⟩, cells _ this⟩
 obtain ⟨s0, s1, s2, s3, s4, s5, s6⟩ := cells _ start
 have HR3 := Aside0.mk hr3
 have ST := Aside0.mk start
 have CE := Aside0.mk cells
 have MO := Aside0.mk more
 have LA := Aside0.mk last
 clear hr0 hr1 hr3 start cells more last hn0 hn1
 by_cases d1 : l0.length ≤ 60
 rotate_left
 · have e1 : decide ((60 : Int) < l0.length) = true := decide_eq_true (by omega)
   have e1' : decide (60 < l0.length) = true := decide_eq_true (by omega)
   clear key0 key1
   have HE := Lib.hid (show chk b0 b1 l0.length l1.length a2 l3 = (3, -1) by simp [chk, show 60 < l0.length + l1.length from by omega])
   go_enter Tryd.func51, Tryd.ntmps51
   go_wp2_with fail
   go_ret
   exact ⟨⟨_, rfl, by rw [HE.out]; exact .inr (.inl ⟨by simp, rfl, rfl⟩)⟩, LA.out _ ST.out⟩
 have e1 : decide ((60 : Int) < l0.length) = false := decide_eq_false (by omega)
 have e1' : decide (60 < l0.length) = false := decide_eq_false (by omega)
 by_cases d2 : l0.length + l1.length ≤ 60
 rotate_left
 · have e2 : decide ((60 : Int) - l0.length < l1.length) = true := decide_eq_true (by omega)
   clear key0 key1
   have HE := Lib.hid (show chk b0 b1 l0.length l1.length a2 l3 = (3, -1) by simp [chk, show 60 < l0.length + l1.length from by omega])
   go_enter Tryd.func51, Tryd.ntmps51
   go_wp2_with fail
   go_ret
   exact ⟨⟨_, rfl, by rw [HE.out]; exact .inr (.inl ⟨by simp, rfl, rfl⟩)⟩, LA.out _ ST.out⟩
 have e2 : decide ((60 : Int) - l0.length < l1.length) = false := decide_eq_false (by omega)
 by_cases d3 : l3.length ≤ 120
 rotate_left
 · have e3 : decide ((120 : Int) < l3.length) = true := decide_eq_true (by omega)
   have e3' : decide (120 < l3.length) = true := decide_eq_true (by omega)
   clear key0 key1
   have HE := Lib.hid (show chk b0 b1 l0.length l1.length a2 l3 = (3, -1) by simp [chk, show 120 < l3.length from by omega])
   go_enter Tryd.func51, Tryd.ntmps51
   go_wp2_with fail
   go_ret
   exact ⟨⟨_, rfl, by rw [HE.out]; exact .inr (.inl ⟨by simp, rfl, rfl⟩)⟩, LA.out _ ST.out⟩
 have e3 : decide ((120 : Int) < l3.length) = false := decide_eq_false (by omega)
 have e3' : decide (120 < l3.length) = false := decide_eq_false (by omega)
 have K0 := Aside0.mk key0
 have K1 := Aside0.mk key1
 clear key0 key1
 cases b0
 · skip
   have HE := Lib.hid (show chk false b1 l0.length l1.length a2 l3 = (10, -1) by simp [chk, show ¬ 60 < l0.length + l1.length from by omega, show ¬ 120 < l3.length from by omega])
   go_enter Tryd.func51, Tryd.ntmps51
   go_wp2_with (first | (go_at_call 81; (with_reducible refine (K0.out _ ST.out).mono ?_); rintro e w1 ⟨rfl, z1, f0, f1, f2, f3, f4, f5, f6⟩))
   go_ret
   exact ⟨⟨_, rfl, by rw [HE.out]; exact .inr (.inl ⟨by simp, rfl, rfl⟩)⟩, LA.out _ z1.out⟩
 cases b1
 · skip
   have HE := Lib.hid (show chk true false l0.length l1.length a2 l3 = (10, -1) by simp [chk, show ¬ 60 < l0.length + l1.length from by omega, show ¬ 120 < l3.length from by omega])
   go_enter Tryd.func51, Tryd.ntmps51
   go_wp2_with (first | (go_at_call 81; (with_reducible refine (K0.out _ ST.out).mono ?_); rintro e w1 ⟨rfl, z1, f0, f1, f2, f3, f4, f5, f6⟩) | (go_at_call 81; (with_reducible refine (K1.out _ z1.out).mono ?_); rintro e w2 ⟨rfl, z2, g0, g1, g2, g3, g4, g5, g6⟩))
   go_ret
   exact ⟨⟨_, rfl, by rw [HE.out]; exact .inr (.inl ⟨by simp, rfl, rfl⟩)⟩, LA.out _ z2.out⟩
 by_cases d4 : a2 < 0
 · have e4 : decide (a2 < 0) = true := decide_eq_true d4
   have HE := Lib.hid (show chk true true l0.length l1.length a2 l3 = (1, -1) by simp [chk, show ¬ 60 < l0.length + l1.length from by omega, show ¬ 120 < l3.length from by omega, d4])
   go_enter Tryd.func51, Tryd.ntmps51
   go_wp2_with (first | (go_at_call 81; (with_reducible refine (K0.out _ ST.out).mono ?_); rintro e w1 ⟨rfl, z1, f0, f1, f2, f3, f4, f5, f6⟩) | (go_at_call 81; (with_reducible refine (K1.out _ z1.out).mono ?_); rintro e w2 ⟨rfl, z2, g0, g1, g2, g3, g4, g5, g6⟩))
   go_ret
   exact ⟨⟨_, rfl, by rw [HE.out]; exact .inr (.inl ⟨by simp, rfl, rfl⟩)⟩, LA.out _ z2.out⟩
 have e4 : decide (a2 < 0) = false := decide_eq_false d4
 by_cases d5 : (l1.length : Int) ≤ a2
 · have e5 : decide ((l1.length : Int) ≤ a2) = true := decide_eq_true d5
   have HE := Lib.hid (show chk true true l0.length l1.length a2 l3 = (1, -1) by simp [chk, show ¬ 60 < l0.length + l1.length from by omega, show ¬ 120 < l3.length from by omega, d5])
   go_enter Tryd.func51, Tryd.ntmps51
   go_wp2_with (first | (go_at_call 81; (with_reducible refine (K0.out _ ST.out).mono ?_); rintro e w1 ⟨rfl, z1, f0, f1, f2, f3, f4, f5, f6⟩) | (go_at_call 81; (with_reducible refine (K1.out _ z1.out).mono ?_); rintro e w2 ⟨rfl, z2, g0, g1, g2, g3, g4, g5, g6⟩))
   go_ret
   exact ⟨⟨_, rfl, by rw [HE.out]; exact .inr (.inl ⟨by simp, rfl, rfl⟩)⟩, LA.out _ z2.out⟩
 have e5 : decide ((l1.length : Int) ≤ a2) = false := decide_eq_false d5
 have HE := Lib.hid (show chk true true l0.length l1.length a2 l3 = chkRs l0.length l1.length l3 0 by simp [chk, show ¬ 60 < l0.length + l1.length from by omega, show ¬ 120 < l3.length from by omega, d4, d5])
 go_enter Tryd.func51, Tryd.ntmps51
 go_wp2_with (first | (go_at_call 81; (with_reducible refine (K0.out _ ST.out).mono ?_); rintro e w1 ⟨rfl, z1, f0, f1, f2, f3, f4, f5, f6⟩) | (go_at_call 81; (with_reducible refine (K1.out _ z1.out).mono ?_); rintro e w2 ⟨rfl, z2, g0, g1, g2, g3, g4, g5, g6⟩))
 go_loopw [3, 4, 5, 53] (fun _ _ _ i wr => ∃ j : Nat, j ≤ l3.length ∧ i = .int .i64 j ∧ Aside0 (Tw wr) ∧ Hid (chkRs l0.length l1.length (l3.drop j) j = chkRs l0.length l1.length l3 0)) (fun _ _ _ i _ => l3.length - (intOf i).toNat)
 case atStart => exact ⟨0, Nat.zero_le _, rfl, z2, Lib.hid rfl⟩
 case round =>
  obtain ⟨j, hj, rfl, htw, hok⟩ := hrel
  clear f0 f1 f2 f3 f4 f5 f6 g0 g1 g2 g3 g4 g5 g6 s0 s1 s2 s3 s4 s5 s6
  by_cases hlt : j < l3.length
  · obtain ⟨f0, f1, f2, f3, f4, f5, f6⟩ := CE.out wr htw.out
    obtain ⟨ad', A, cc, rfl, h0, h1, h2, h3⟩ := at_T52 (Kd.C_below HR3.out (LA.out wr htw.out)) (j : Int) (by omega) (by omega)
    have q0 : rd_T52 l3 (j : Int) = l3[j] := by simp [rd_T52, List.getD_eq_getElem?_getD, List.getElem?_eq_getElem hlt]
    have hn := chkRs_drop l0.length l1.length l3 j hlt
    rw [Int.toNat_natCast] at h0 h1
    rw [q0] at h0 h1 h2 h3
    generalize l3[j] = x at h0 h1 h2 h3 hn
    have hGr : Sents ad wr := ⟨f4, f5, f6⟩
    have f0a := fun o => Lib.cell?_alloc_some o f0
    have f1a := fun o => Lib.cell?_alloc_some o f1
    have f2a := fun o => Lib.cell?_alloc_some o f2
    have f3a := fun o => Lib.cell?_alloc_some o f3
    have hcall : ∀ W, Below wr.heap.size wr W → Calls Tryd.prog 82 #[.agg #[.slice A0 l0.length c0, .slice A1 l1.length c1, .int .i64 a2, .slice (some ad') l3.length c3], .agg #[.int .i64 x.f0, .slice A x.f1.length cc]] W fun e w' => e = .returned (ruleV ad (checkR l0.length l1.length x)) ∧ Aside0 (Tw w') := by
     intro W hW
     refine (Rule_full ad A0 c0 l0.length A1 c1 l1.length a2 _ x A cc W (hGr.below hW) (by omega) (by omega) (Kd.C_below h3 hW) h2).mono ?_
     rintro e w' ⟨he, hb⟩
     exact ⟨he, ⟨MO.out _ _ (MO.out _ _ htw.out hW) hb⟩⟩
    by_cases hq : checkR l0.length l1.length x = 0
    · rw [if_pos hq] at hn
      rw [hq, show ruleV ad 0 = .nilIface from rfl] at hcall
      have HC := Aside0.mk hcall
      have HN := Lib.hid hn
      clear hcall h3 q0 hq hn hGr
      go_wp2_with (go_at_call 82; (with_reducible refine (HC.out _ ((Below.refl _ wr).alloc (Nat.le_refl _) _)).mono ?_); rintro e w' ⟨rfl, t3⟩)
      go_roundw
      case measure => simp [intOf]; omega
      case rel => exact ⟨j + 1, by omega, rfl, t3, Lib.hid (HN.out.symm.trans hok.out)⟩
    · rw [if_neg hq] at hn
      have hc : checkR l0.length l1.length x = 3 ∨ checkR l0.length l1.length x = 1 := (checkR_cases l0.length l1.length x).elim (fun h => absurd h.1 hq) (fun h => h.1)
      rw [show ruleV ad (checkR l0.length l1.length x) = .iface 178 (.pointer (some (ad (checkR l0.length l1.length x)))) from if_neg hq] at hcall
      generalize checkR l0.length l1.length x = c at hcall hn hc
      have HC := Aside0.mk hcall
      have HN := Lib.hid (hn.symm.trans hok.out)
      have HCC := Aside0.mk hc
      clear hcall h3 q0 hq hn hGr hc
      go_wp2_with (go_at_call 82; (with_reducible refine (HC.out _ ((Below.refl _ wr).alloc (Nat.le_refl _) _)).mono ?_); rintro e w' ⟨rfl, t3⟩)
      go_ret
      exact ⟨⟨_, rfl, by rw [HE.out, ← HN.out]; exact .inr (.inr ⟨HCC.out, by simp, by simp; omega, _, rfl, heap_alloc_new _ _⟩)⟩, (LA.out _ t3.out).alloc (LA.out _ t3.out).size _⟩
  · have hjn : j = l3.length := by omega
    subst hjn
    have HN := Lib.hid (show chkRs l0.length l1.length l3 0 = (0, -1) by have := hok.out; rw [List.drop_length] at this; exact this.symm)
    go_wp2_with fail
    go_ret
    exact ⟨⟨_, rfl, by rw [HE.out, HN.out]; exact .inl ⟨rfl, rfl, rfl⟩⟩, LA.out _ htw.out⟩
theorem chkRs_ok (t n : Nat) : ∀ (R : List S52) (j : Nat), (chkRs t n R j).1 = 0 → ∀ x ∈ R, okR t n x = true
 | [], _, _, x, hx => by cases hx
 | y :: R, j, h, x, hx => by
  unfold chkRs at h
  rcases checkR_cases t n y with ⟨h0, hok⟩ | ⟨h0, _⟩
  · rw [if_pos h0] at h
    rcases List.mem_cons.1 hx with rfl | hx
    · exact hok
    · exact chkRs_ok t n R (j + 1) h x hx
  · rw [if_neg (by rcases h0 with h0 | h0 <;> omega)] at h
    rcases h0 with h0 | h0 <;> (dsimp only at h; omega)
theorem chk_ok {b0 b1 : Bool} {n0 n1 : Nat} {a2 : Int} {R : List S52} (h : (chk b0 b1 n0 n1 a2 R).1 = 0) : n0 + n1 ≤ 60 ∧ R.length ≤ 120 ∧ b0 = true ∧ b1 = true ∧ 0 ≤ a2 ∧ a2 < (n1 : Int) ∧ ∀ x ∈ R, okR n0 n1 x = true := by
 unfold chk at h
 split at h
 · simp at h
 · split at h
   · simp at h
   · split at h
     · simp at h
     · rename_i h1 h2 h3
       simp only [Bool.and_eq_false_iff, not_or, Bool.not_eq_false] at h2
       exact ⟨by omega, by omega, h2.1, h2.2, by omega, by omega, chkRs_ok _ _ R 0 h⟩
end Go.Proofs.YthjhaogfpdkhbaaDoor.B
/- The document's Check, in plain Lean: what gram.Check tells. -/
namespace Go.Proofs.YthjhaogfpdkhbaaDoor.B
open Go.RowKit YthjhaogfpdkhbaaDoorW.PrintWords YthjhaogfpdkhbaaDoorW.PrintLast YthjhaogfpdkhbaaDoorW.PrintMore

end Go.Proofs.YthjhaogfpdkhbaaDoor.B
/- Chapter 5: what the printed functions answer, in plain Lean. -/
namespace Go.Proofs.YthjhaogfpdkhbaaDoor.Sh
open Go.RowKit YthjhaogfpdkhbaaDoorW.PrintWords YthjhaogfpdkhbaaDoorW.PrintLast YthjhaogfpdkhbaaDoorW.PrintMore
open B H

theorem w64m (s : Int) (h : -9223372036854775808 ≤ s) (h' : s < 9223372036854775808) : wrap64 ((-1) - s) = -1 - s := by unfold wrap64; omega
theorem ba_eq {a b : ByteArray} (h : a.data.toList = b.data.toList) : a = b := by
 cases a; cases b
 have := Array.ext' h
 simp only at this
 rw [this]
theorem free_of (a : ByteArray) (k : Nat) (f : Nat → ByteArray → Option Bool) (h : f k a = some (P.plainL a.data.toList)) :
 ((f k a).bind fun t => (if t = true then (if a.toList = ([58] : List UInt8) then (some false) else (some (a.toList != ([124] : List UInt8)))) else (some false))) = some (P.freeL a.data.toList) := by
 rw [h, Option.bind_some, P.toList_data]
 unfold P.freeL
 cases P.plainL a.data.toList with
 | false => rfl
 | true =>
  rw [if_pos rfl]
  by_cases c : a.data.toList = [58]
  · rw [if_pos c, c]; rfl
  · rw [if_neg c]
    have : (a.data.toList == [58]) = false := by simpa using c
    rw [this]
    rfl
theorem free_f (a : ByteArray) (hs : a.size ≤ 140737488355328) (k : Nat) (hk : a.size < k) : show_free.f k a = some (P.freeL a.data.toList) := by
 have hp : words_Plain.f k a = some (P.plainL a.data.toList) := at_rounds (g := fun k => words_Plain.f k a) (fun k => words_Plain.mono a k) (show a.size + 1 ≤ k by omega) (Plain_f a hs)
 exact free_of a k words_Plain.f hp
theorem rdS (l : List ByteArray) (i : Int) : rdOf ByteArray.empty l i = l.getD i.toNat ByteArray.empty := rfl
section
variable {l0 l1 : List ByteArray} {a2 : Int} {R : List S52} {m : Nat}
theorem getD_size {l : List ByteArray} (h : ∀ x ∈ l, x.size ≤ m) (i : Nat) : (l.getD i ByteArray.empty).size ≤ m := by
 rcases Nat.lt_or_ge i l.length with hi | hi
 · rw [getD_lt _ _ _ hi]
   exact h _ (List.getElem_mem hi)
 · rw [List.getD_eq_getElem?_getD, List.getElem?_eq_none hi]
   exact Nat.zero_le _
def nameA (l0 l1 : List ByteArray) (s : Int) : ByteArray × Bool :=
 if s < 0 then (if -1 - s < (l1.length : Int) then (l1.getD (-1 - s).toNat ByteArray.empty, true) else (⟨#[]⟩, false))
 else (if s < (l0.length : Int) then (l0.getD s.toNat ByteArray.empty, true) else (⟨#[]⟩, false))
theorem name_f (s : Int) (h0 : -9223372036854775808 ≤ s) (h1 : s < 9223372036854775808) : gram_Name.f l0 l1 a2 R s = some (nameA l0 l1 s) := by
 unfold gram_Name.f nameA
 by_cases c : s < 0
 · rw [if_pos c, if_pos c, w64m s h0 h1]
   by_cases d : -1 - s < (l1.length : Int)
   · rw [if_neg (by omega), if_pos (by omega), if_pos d, if_pos d]; rfl
   · rw [if_pos (by omega), if_neg d]
 · rw [if_neg c, if_neg c]
   by_cases d : s < (l0.length : Int)
   · rw [if_neg (by omega), if_pos (by omega), if_pos d, if_pos d]; rfl
   · rw [if_pos (by omega), if_neg d]
theorem nonterm_f (name : ByteArray) (k : Nat) (hm : l1.length ≤ 9223372036854775807) (hk : l1.length < k) : ∃ i, gram_Nonterm.f k l0 l1 a2 R name = some (i, decide (name ∈ l1)) := by
 unfold gram_Nonterm.f gram_find.f
 rw [Index_f l1 name k hm hk, Option.bind_some, Option.bind_some]
 have := place_nonneg l1 name
 exact ⟨mx (place l1 name 0) 0, by rw [show decide (place l1 name 0 ≥ 0) = decide (name ∈ l1) from decide_eq_decide.2 this]⟩
end
end Go.Proofs.YthjhaogfpdkhbaaDoor.Sh
/- show.Symbol, show.Symbols, the document's Symbols: walked. -/
namespace Go.Proofs.YthjhaogfpdkhbaaDoor.Sh
open Go.RowKit YthjhaogfpdkhbaaDoorW.PrintWords YthjhaogfpdkhbaaDoorW.PrintLast YthjhaogfpdkhbaaDoorW.PrintMore
open B H

def GS (w : World) (cs : Array Value) (W : World) : Prop := Below w.heap.size w W ∧ Box w.heap.size cs 25 W
theorem GS.start (w : World) (cs : Array Value) : GS w cs (w.alloc (.cells cs 25)) := ⟨(Below.refl _ w).alloc (Nat.le_refl _) _, Box.new w _ _⟩
theorem GS.low {w : World} {cs : Array Value} {W : World} (h : GS w cs W) : Below w.heap.size w W := h.1
theorem GS.more {w : World} {cs : Array Value} {W W' : World} (h : GS w cs W) (hb : Below W.heap.size W W') : GS w cs W' := ⟨h.1.trans (hb.mono h.1.size), h.2.below hb⟩
theorem GS.cells {w W : World} {v0 v1 v2 v3 : Value} (h : GS w #[v0, v1, v2, v3] W) : W.cell? ⟨w.heap.size, 0, none⟩ = some v0 ∧ W.cell? ⟨w.heap.size, 1, none⟩ = some v1 ∧ W.cell? ⟨w.heap.size, 2, none⟩ = some v2 ∧ W.cell? ⟨w.heap.size, 3, none⟩ = some v3 :=
 ⟨h.2.cell 0 _ rfl, h.2.cell 1 _ rfl, h.2.cell 2 _ rfl, h.2.cell 3 _ rfl⟩
theorem GS.base {w : World} {cs : Array Value} {W W' : World} (h : GS w cs W) (base : Nat) (hb : Below base W W') (h0 : w.heap.size < base) : GS w cs W' := ⟨h.1.trans (hb.mono (by omega)), (hb.block _ h0).trans h.2⟩
set_option maxHeartbeats 4000000 in
set_option maxRecDepth 100000 in
theorem Symbol_calls (A0 : Option Addr) (c0 : Nat) (l0 : List ByteArray) (A1 : Option Addr) (c1 : Nat) (l1 : List ByteArray) (a2 : Int) (A3 : Option Addr) (c3 : Nat) (R : List S52) (s : Int) (m : Nat) (w : World) (hr0 : Kd.C Kd.string w A0 l0.length l0) (hc0 : l0.length ≤ c0) (hr1 : Kd.C Kd.string w A1 l1.length l1) (hc1 : l1.length ≤ c1) (hr3 : Kd.C k52 w A3 R.length R) (hc3 : R.length ≤ c3) (hm : m ≤ 35184372088000) (z0 : ∀ x ∈ l0, x.size ≤ m) (z1 : ∀ x ∈ l1, x.size ≤ m) (s0 : -9223372036854775808 ≤ s) (s1 : s < 9223372036854775808) :
 Calls Tryd.prog 19 #[.agg #[.slice A0 l0.length c0, .slice A1 l1.length c1, .int .i64 a2, .slice A3 R.length c3], .int .i64 s] w fun e w' => e = .returned (.string ⟨(P.symL l0 l1 s).toArray⟩) ∧ Below w.heap.size w w' := by
 have m1 := C_max hr1
 obtain ⟨cs, hcs⟩ : ∃ cs : Array Value, cs = #[.slice A0 l0.length c0, .slice A1 l1.length c1, .int .i64 a2, .slice A3 R.length c3] := ⟨_, rfl⟩
 have st : GS w cs (w.alloc (.cells #[.slice A0 l0.length c0, .slice A1 l1.length c1, .int .i64 a2, .slice A3 R.length c3] 25)) := by subst hcs; exact GS.start w _
 have ce : ∀ W, GS w cs W → W.cell? ⟨w.heap.size, 0, none⟩ = some (.slice A0 l0.length c0) ∧ W.cell? ⟨w.heap.size, 1, none⟩ = some (.slice A1 l1.length c1) ∧ W.cell? ⟨w.heap.size, 2, none⟩ = some (.int .i64 a2) ∧ W.cell? ⟨w.heap.size, 3, none⟩ = some (.slice A3 R.length c3) := by
  intro W hW; subst hcs; exact hW.cells
 have hn := name_f (l0 := l0) (l1 := l1) (a2 := a2) (R := R) s s0 s1
 have hsz : (nameA l0 l1 s).1.size ≤ m := by
  unfold nameA
  split
  · split
    · exact getD_size z1 _
    · exact Nat.zero_le _
  · split
    · exact getD_size z0 _
    · exact Nat.zero_le _
 have hsym : P.symL l0 l1 s = (if s = (l0.length : Int) then [36] else if (nameA l0 l1 s).2 = false then [63] else if s < 0 then (if P.freeL (nameA l0 l1 s).1.data.toList = true then (nameA l0 l1 s).1.data.toList else 60 :: P.quoteL (nameA l0 l1 s).1.data.toList ++ [62]) else if (nameA l0 l1 s).1 ∈ l1 ∨ P.freeL (nameA l0 l1 s).1.data.toList = false then P.quoteL (nameA l0 l1 s).1.data.toList else (nameA l0 l1 s).1.data.toList) := by
  unfold P.symL nameA
  by_cases d0 : s = (l0.length : Int)
  · rw [if_pos d0, if_pos d0]
  rw [if_neg d0, if_neg d0]
  by_cases d1 : s < 0
  · rw [if_neg (show ¬ 0 ≤ s by omega), if_pos d1]
    by_cases d2 : -1 - s < (l1.length : Int)
    · rw [if_pos d2, if_pos d2]; dsimp only; rw [if_neg (show ¬ (true = false) by decide), if_pos d1]
    · rw [if_neg d2, if_neg d2]; dsimp only; rw [if_pos (show false = false from rfl)]
  · rw [if_pos (show 0 ≤ s by omega), if_neg d1]
    by_cases d2 : s < (l0.length : Int)
    · rw [if_pos d2, if_pos d2]; dsimp only; rw [if_neg (show ¬ (true = false) by decide), if_neg d1]
    · rw [if_neg d2, if_neg d2]; dsimp only; rw [if_pos (show false = false from rfl)]
 generalize nameA l0 l1 s = nk at hn hsz hsym
 obtain ⟨nm, ok⟩ := nk
 dsimp only at hsz hsym
 obtain ⟨ix, hix⟩ := nonterm_f (l0 := l0) (l1 := l1) (a2 := a2) (R := R) nm (l1.length + 1) m1 (by omega)
 have kN : ∀ W, GS w cs W → Calls Tryd.prog 45 #[.agg #[.slice A0 l0.length c0, .slice A1 l1.length c1, .int .i64 a2, .slice A3 R.length c3], .int .i64 s] W fun e w' => e = .returned (.tuple #[.string nm, .bool ok]) ∧ Aside0 (GS w cs w') := fun W hW =>
  (gram_Name.calls A0 c0 l0 A1 c1 l1 a2 A3 c3 R s nm ok W (Kd.C_below hr0 hW.low) hc0 (Kd.C_below hr1 hW.low) hc1 (Kd.C_below hr3 hW.low) hc3 hn).mono fun _ _ ⟨he, hb⟩ => ⟨he, ⟨hW.more hb⟩⟩
 have kT : ∀ W, GS w cs W → Calls Tryd.prog 44 #[.agg #[.slice A0 l0.length c0, .slice A1 l1.length c1, .int .i64 a2, .slice A3 R.length c3], .string nm] W fun e w' => e = .returned (.tuple #[.int .i64 ix, .bool (decide (nm ∈ l1))]) ∧ Aside0 (GS w cs w') := fun W hW =>
  (gram_Nonterm.calls _ A0 c0 l0 A1 c1 l1 a2 A3 c3 R nm ix _ W (Kd.C_below hr0 hW.low) hc0 (Kd.C_below hr1 hW.low) hc1 (Kd.C_below hr3 hW.low) hc3 hix).mono fun _ _ ⟨he, hb⟩ => ⟨he, ⟨hW.more hb⟩⟩
 have kF : ∀ W, GS w cs W → Calls Tryd.prog 59 #[.string nm] W fun e w' => e = .returned (.bool (P.freeL nm.data.toList)) ∧ Aside0 (GS w cs w') := fun W hW =>
  (show_free.calls (nm.size + 1) nm _ W (free_f nm (by omega) _ (by omega))).mono fun _ _ ⟨he, hd⟩ => ⟨he, ⟨hW.more hd.below⟩⟩
 have kQ : ∀ W, GS w cs W → Calls Tryd.prog 60 #[.string nm] W fun e w' => e = .returned (.string ⟨(P.quoteL nm.data.toList).toArray⟩) ∧ Aside0 (GS w cs w') := fun W hW =>
  (Quote_calls nm W (by omega)).mono fun _ _ ⟨he, hb⟩ => ⟨he, ⟨hW.more hb⟩⟩
 have hql : (P.quoteL nm.data.toList).length ≤ 4 * nm.size + 2 := by
  have := P.quoteL_length nm.data.toList
  have e : nm.data.toList.length = nm.size := by simp
  omega
 have hqs : (⟨(P.quoteL nm.data.toList).toArray⟩ : ByteArray).size ≤ 4 * nm.size + 2 := by rw [P.size_lit]; exact hql
 have hdg : ∀ a q z : ByteArray, ((a ++ q) ++ z).data.toList = a.data.toList ++ q.data.toList ++ z.data.toList := fun a q z => by rw [P.data_append, P.data_append]
 have hD : (⟨(60 :: P.quoteL nm.data.toList ++ [62]).toArray⟩ : ByteArray) = (⟨#[60]⟩ : ByteArray) ++ (⟨(P.quoteL nm.data.toList).toArray⟩ : ByteArray) ++ (⟨#[62]⟩ : ByteArray) := by
  refine ba_eq ?_
  rw [hdg]
  rfl
 have hnm0 : (⟨nm.data.toList.toArray⟩ : ByteArray) = nm := ba_eq rfl
 have KN := Aside0.mk kN
 have KT := Aside0.mk kT
 have KF := Aside0.mk kF
 have KQ := Aside0.mk kQ
 have CE := Aside0.mk ce
 have T := Aside0.mk st
 have HCS := Lib.hid hcs
 clear hr0 hr1 hr3 kN kT kF kQ ce st hn hix z0 z1 hcs
 by_cases d0 : s = (l0.length : Int)
 · have hfin : (⟨(P.symL l0 l1 s).toArray⟩ : ByteArray) = ⟨#[36]⟩ := by rw [hsym, if_pos d0]
   clear hsym hD hnm0 hql hqs hdg
   subst d0
   go_enter Tryd.func19, Tryd.ntmps19
   go_wp2_with (first
    | (go_at_call 45; (with_reducible refine (KN.out _ T.out).mono ?_); rintro e w1 ⟨rfl, t1⟩; (try clear f0 f1 f2 f3); clear T; have T := t1; clear t1; obtain ⟨f0, f1, f2, f3⟩ := CE.out _ T.out)
    | (go_at_call 59; (with_reducible refine (KF.out _ T.out).mono ?_); rintro e w2 ⟨rfl, t2⟩; (try clear f0 f1 f2 f3); clear T; have T := t2; clear t2; obtain ⟨f0, f1, f2, f3⟩ := CE.out _ T.out)
    | (go_at_call 44; (with_reducible refine (KT.out _ T.out).mono ?_); rintro e w3 ⟨rfl, t3⟩; (try clear f0 f1 f2 f3); clear T; have T := t3; clear t3; obtain ⟨f0, f1, f2, f3⟩ := CE.out _ T.out)
    | (go_at_call 60; (with_reducible refine (KQ.out _ T.out).mono ?_); rintro e w4 ⟨rfl, t4⟩; (try clear f0 f1 f2 f3); clear T; have T := t4; clear t4; obtain ⟨f0, f1, f2, f3⟩ := CE.out _ T.out))
   go_ret
   exact ⟨by rw [hfin]; rfl, T.out.low⟩
 have e0 : decide (s = (l0.length : Int)) = false := decide_eq_false d0
 have e0b : (s == (l0.length : Int)) = false := by simpa using d0
 rw [if_neg d0] at hsym
 clear d0
 cases ok with
 | false =>
  have hfin : (⟨(P.symL l0 l1 s).toArray⟩ : ByteArray) = ⟨#[63]⟩ := by rw [hsym, if_pos rfl]
  clear hsym hD hnm0 hql hqs hdg
  go_enter Tryd.func19, Tryd.ntmps19
  go_wp2_with (first
   | (go_at_call 45; (with_reducible refine (KN.out _ T.out).mono ?_); rintro e w1 ⟨rfl, t1⟩; (try clear f0 f1 f2 f3); clear T; have T := t1; clear t1; obtain ⟨f0, f1, f2, f3⟩ := CE.out _ T.out)
   | (go_at_call 59; (with_reducible refine (KF.out _ T.out).mono ?_); rintro e w2 ⟨rfl, t2⟩; (try clear f0 f1 f2 f3); clear T; have T := t2; clear t2; obtain ⟨f0, f1, f2, f3⟩ := CE.out _ T.out)
   | (go_at_call 44; (with_reducible refine (KT.out _ T.out).mono ?_); rintro e w3 ⟨rfl, t3⟩; (try clear f0 f1 f2 f3); clear T; have T := t3; clear t3; obtain ⟨f0, f1, f2, f3⟩ := CE.out _ T.out)
   | (go_at_call 60; (with_reducible refine (KQ.out _ T.out).mono ?_); rintro e w4 ⟨rfl, t4⟩; (try clear f0 f1 f2 f3); clear T; have T := t4; clear t4; obtain ⟨f0, f1, f2, f3⟩ := CE.out _ T.out))
  go_ret
  exact ⟨by rw [hfin]; rfl, T.out.low⟩
 | true =>
  rw [if_neg (by decide)] at hsym
  by_cases d1 : s < 0
  · rw [if_pos d1] at hsym
    have e1 : decide (s < 0) = true := decide_eq_true d1
    clear d1
    cases hfr : P.freeL nm.data.toList with
    | true =>
     have hfin : (⟨(P.symL l0 l1 s).toArray⟩ : ByteArray) = nm := by rw [hsym, if_pos hfr, hnm0]
     rw [hfr] at KF
     clear hsym hD hnm0 hql hqs hdg hfr
     go_enter Tryd.func19, Tryd.ntmps19
     go_wp2_with (first
      | (go_at_call 45; (with_reducible refine (KN.out _ T.out).mono ?_); rintro e w1 ⟨rfl, t1⟩; (try clear f0 f1 f2 f3); clear T; have T := t1; clear t1; obtain ⟨f0, f1, f2, f3⟩ := CE.out _ T.out)
      | (go_at_call 59; (with_reducible refine (KF.out _ T.out).mono ?_); rintro e w2 ⟨rfl, t2⟩; (try clear f0 f1 f2 f3); clear T; have T := t2; clear t2; obtain ⟨f0, f1, f2, f3⟩ := CE.out _ T.out)
      | (go_at_call 44; (with_reducible refine (KT.out _ T.out).mono ?_); rintro e w3 ⟨rfl, t3⟩; (try clear f0 f1 f2 f3); clear T; have T := t3; clear t3; obtain ⟨f0, f1, f2, f3⟩ := CE.out _ T.out)
      | (go_at_call 60; (with_reducible refine (KQ.out _ T.out).mono ?_); rintro e w4 ⟨rfl, t4⟩; (try clear f0 f1 f2 f3); clear T; have T := t4; clear t4; obtain ⟨f0, f1, f2, f3⟩ := CE.out _ T.out))
     go_ret
     exact ⟨by rw [hfin]; rfl, T.out.low⟩
    | false =>
     have hfin : (⟨(P.symL l0 l1 s).toArray⟩ : ByteArray) = (⟨#[60]⟩ : ByteArray) ++ (⟨(P.quoteL nm.data.toList).toArray⟩ : ByteArray) ++ (⟨#[62]⟩ : ByteArray) := by rw [hsym, hfr, if_neg (by decide), hD]
     rw [hfr] at KF
     clear hsym hD hnm0 hql hdg hfr
     generalize (⟨(P.quoteL nm.data.toList).toArray⟩ : ByteArray) = q at hfin KQ hqs
     have b1 : ¬ 9223372036854775807 < 1 + q.size := by omega
     have b2 : ¬ 9223372036854775807 < 1 + q.size + 1 := by omega
     have b3 : ¬ 9223372036854775807 < ((⟨#[60]⟩ : ByteArray) ++ q).size + 1 := by rw [P.size_append]; show ¬ _ < 1 + q.size + 1; omega
     go_enter Tryd.func19, Tryd.ntmps19
     go_wp2_with (first
      | (go_at_call 45; (with_reducible refine (KN.out _ T.out).mono ?_); rintro e w1 ⟨rfl, t1⟩; (try clear f0 f1 f2 f3); clear T; have T := t1; clear t1; obtain ⟨f0, f1, f2, f3⟩ := CE.out _ T.out)
      | (go_at_call 59; (with_reducible refine (KF.out _ T.out).mono ?_); rintro e w2 ⟨rfl, t2⟩; (try clear f0 f1 f2 f3); clear T; have T := t2; clear t2; obtain ⟨f0, f1, f2, f3⟩ := CE.out _ T.out)
      | (go_at_call 44; (with_reducible refine (KT.out _ T.out).mono ?_); rintro e w3 ⟨rfl, t3⟩; (try clear f0 f1 f2 f3); clear T; have T := t3; clear t3; obtain ⟨f0, f1, f2, f3⟩ := CE.out _ T.out)
      | (go_at_call 60; (with_reducible refine (KQ.out _ T.out).mono ?_); rintro e w4 ⟨rfl, t4⟩; (try clear f0 f1 f2 f3); clear T; have T := t4; clear t4; obtain ⟨f0, f1, f2, f3⟩ := CE.out _ T.out))
     go_ret
     exact ⟨by rw [hfin]; rfl, T.out.low⟩
  · rw [if_neg d1] at hsym
    have e1 : decide (s < 0) = false := decide_eq_false d1
    clear d1
    by_cases d2 : nm ∈ l1
    · rw [if_pos (.inl d2)] at hsym
      have hfin : (⟨(P.symL l0 l1 s).toArray⟩ : ByteArray) = ⟨(P.quoteL nm.data.toList).toArray⟩ := by rw [hsym]
      rw [decide_eq_true d2] at KT
      clear hsym hD hnm0 hql hqs hdg d2
      go_enter Tryd.func19, Tryd.ntmps19
      go_wp2_with (first
       | (go_at_call 45; (with_reducible refine (KN.out _ T.out).mono ?_); rintro e w1 ⟨rfl, t1⟩; (try clear f0 f1 f2 f3); clear T; have T := t1; clear t1; obtain ⟨f0, f1, f2, f3⟩ := CE.out _ T.out)
       | (go_at_call 59; (with_reducible refine (KF.out _ T.out).mono ?_); rintro e w2 ⟨rfl, t2⟩; (try clear f0 f1 f2 f3); clear T; have T := t2; clear t2; obtain ⟨f0, f1, f2, f3⟩ := CE.out _ T.out)
       | (go_at_call 44; (with_reducible refine (KT.out _ T.out).mono ?_); rintro e w3 ⟨rfl, t3⟩; (try clear f0 f1 f2 f3); clear T; have T := t3; clear t3; obtain ⟨f0, f1, f2, f3⟩ := CE.out _ T.out)
       | (go_at_call 60; (with_reducible refine (KQ.out _ T.out).mono ?_); rintro e w4 ⟨rfl, t4⟩; (try clear f0 f1 f2 f3); clear T; have T := t4; clear t4; obtain ⟨f0, f1, f2, f3⟩ := CE.out _ T.out))
      go_ret
      exact ⟨by rw [hfin]; rfl, T.out.low⟩
    · cases hfr : P.freeL nm.data.toList with
      | false =>
       rw [if_pos (.inr hfr)] at hsym
       have hfin : (⟨(P.symL l0 l1 s).toArray⟩ : ByteArray) = ⟨(P.quoteL nm.data.toList).toArray⟩ := by rw [hsym]
       rw [decide_eq_false d2] at KT
       rw [hfr] at KF
       clear hsym hD hnm0 hql hqs hdg d2 hfr
       go_enter Tryd.func19, Tryd.ntmps19
       go_wp2_with (first
        | (go_at_call 45; (with_reducible refine (KN.out _ T.out).mono ?_); rintro e w1 ⟨rfl, t1⟩; (try clear f0 f1 f2 f3); clear T; have T := t1; clear t1; obtain ⟨f0, f1, f2, f3⟩ := CE.out _ T.out)
        | (go_at_call 59; (with_reducible refine (KF.out _ T.out).mono ?_); rintro e w2 ⟨rfl, t2⟩; (try clear f0 f1 f2 f3); clear T; have T := t2; clear t2; obtain ⟨f0, f1, f2, f3⟩ := CE.out _ T.out)
        | (go_at_call 44; (with_reducible refine (KT.out _ T.out).mono ?_); rintro e w3 ⟨rfl, t3⟩; (try clear f0 f1 f2 f3); clear T; have T := t3; clear t3; obtain ⟨f0, f1, f2, f3⟩ := CE.out _ T.out)
        | (go_at_call 60; (with_reducible refine (KQ.out _ T.out).mono ?_); rintro e w4 ⟨rfl, t4⟩; (try clear f0 f1 f2 f3); clear T; have T := t4; clear t4; obtain ⟨f0, f1, f2, f3⟩ := CE.out _ T.out))
       go_ret
       exact ⟨by rw [hfin]; rfl, T.out.low⟩
      | true =>
       rw [if_neg (fun h => h.elim d2 (fun h => by rw [hfr] at h; cases h))] at hsym
       have hfin : (⟨(P.symL l0 l1 s).toArray⟩ : ByteArray) = nm := by rw [hsym, hnm0]
       rw [decide_eq_false d2] at KT
       rw [hfr] at KF
       clear hsym hD hnm0 hql hqs hdg d2 hfr
       go_enter Tryd.func19, Tryd.ntmps19
       go_wp2_with (first
        | (go_at_call 45; (with_reducible refine (KN.out _ T.out).mono ?_); rintro e w1 ⟨rfl, t1⟩; (try clear f0 f1 f2 f3); clear T; have T := t1; clear t1; obtain ⟨f0, f1, f2, f3⟩ := CE.out _ T.out)
        | (go_at_call 59; (with_reducible refine (KF.out _ T.out).mono ?_); rintro e w2 ⟨rfl, t2⟩; (try clear f0 f1 f2 f3); clear T; have T := t2; clear t2; obtain ⟨f0, f1, f2, f3⟩ := CE.out _ T.out)
        | (go_at_call 44; (with_reducible refine (KT.out _ T.out).mono ?_); rintro e w3 ⟨rfl, t3⟩; (try clear f0 f1 f2 f3); clear T; have T := t3; clear t3; obtain ⟨f0, f1, f2, f3⟩ := CE.out _ T.out)
        | (go_at_call 60; (with_reducible refine (KQ.out _ T.out).mono ?_); rintro e w4 ⟨rfl, t4⟩; (try clear f0 f1 f2 f3); clear T; have T := t4; clear t4; obtain ⟨f0, f1, f2, f3⟩ := CE.out _ T.out))
       go_ret
       exact ⟨by rw [hfin]; rfl, T.out.low⟩

set_option maxHeartbeats 4000000 in
set_option maxRecDepth 100000 in
theorem Symbols_calls (A0 : Option Addr) (c0 : Nat) (l0 : List ByteArray) (A1 : Option Addr) (c1 : Nat) (l1 : List ByteArray) (a2 : Int) (A3 : Option Addr) (c3 : Nat) (R : List S52) (A : Option Addr) (c : Nat) (l : List Int) (m : Nat) (w : World) (hr0 : Kd.C Kd.string w A0 l0.length l0) (hc0 : l0.length ≤ c0) (hr1 : Kd.C Kd.string w A1 l1.length l1) (hc1 : l1.length ≤ c1) (hr3 : Kd.C k52 w A3 R.length R) (hc3 : R.length ≤ c3) (hr : Kd.C (Kd.int .i64) w A l.length l) (hc : l.length ≤ c) (hm : m ≤ 35184372088000) (z0 : ∀ x ∈ l0, x.size ≤ m) (z1 : ∀ x ∈ l1, x.size ≤ m) (hb : (4 * m + 5) * l.length ≤ 140737488355328) (hs : ∀ s ∈ l, -9223372036854775808 ≤ s ∧ s < 9223372036854775808) :
 Calls Tryd.prog 21 #[.agg #[.slice A0 l0.length c0, .slice A1 l1.length c1, .int .i64 a2, .slice A3 R.length c3], .slice A l.length c] w fun e w' => e = .returned (.string ⟨(P.symsL l0 l1 l).toArray⟩) ∧ Below w.heap.size w w' := by
 have hll : l.length ≤ 140737488355328 := Nat.le_trans (Nat.le_mul_of_pos_left _ (by omega)) hb
 obtain ⟨cs, hcs⟩ : ∃ cs : Array Value, cs = #[.slice A0 l0.length c0, .slice A1 l1.length c1, .int .i64 a2, .slice A3 R.length c3] := ⟨_, rfl⟩
 have st : GS w cs (w.alloc (.cells #[.slice A0 l0.length c0, .slice A1 l1.length c1, .int .i64 a2, .slice A3 R.length c3] 25)) := by subst hcs; exact GS.start w _
 have ce : ∀ W, GS w cs W → W.cell? ⟨w.heap.size, 0, none⟩ = some (.slice A0 l0.length c0) ∧ W.cell? ⟨w.heap.size, 1, none⟩ = some (.slice A1 l1.length c1) ∧ W.cell? ⟨w.heap.size, 2, none⟩ = some (.int .i64 a2) ∧ W.cell? ⟨w.heap.size, 3, none⟩ = some (.slice A3 R.length c3) := by
  intro W hW; subst hcs; exact hW.cells
 have h1 : BU (w.heap.size + 1) (w.heap.size + 1) [] ((w.alloc (.cells #[.slice A0 l0.length c0, .slice A1 l1.length c1, .int .i64 a2, .slice A3 R.length c3] 25)).alloc (.cells #[.pointer none, .slice none 0 0] 103)) := by
  have := BU_new (w.alloc (.cells #[.slice A0 l0.length c0, .slice A1 l1.length c1, .int .i64 a2, .slice A3 R.length c3] 25))
  rwa [World.size_alloc] at this
 have st1 : GS w cs ((w.alloc (.cells #[.slice A0 l0.length c0, .slice A1 l1.length c1, .int .i64 a2, .slice A3 R.length c3] 25)).alloc (.cells #[.pointer none, .slice none 0 0] 103)) := st.more ((Below.refl _ _).alloc (Nat.le_refl _) _)
 have kS : ∀ s ∈ l, ∀ W, GS w cs W → Calls Tryd.prog 19 #[.agg #[.slice A0 l0.length c0, .slice A1 l1.length c1, .int .i64 a2, .slice A3 R.length c3], .int .i64 s] W fun e w' => e = .returned (.string ⟨(P.symL l0 l1 s).toArray⟩) ∧ Below W.heap.size W w' := fun s hsl W hW =>
  Symbol_calls A0 c0 l0 A1 c1 l1 a2 A3 c3 R s m W (Kd.C_below hr0 hW.low) hc0 (Kd.C_below hr1 hW.low) hc1 (Kd.C_below hr3 hW.low) hc3 hm z0 z1 (hs s hsl).1 (hs s hsl).2
 have hlen : ∀ k, (P.symsL l0 l1 (l.take k)).length ≤ (4 * m + 5) * l.length := fun k => Nat.le_trans (P.symsL_length z0 z1 (l.take k)) (Nat.mul_le_mul_left _ (List.length_take_le' _ _))
 have hsl : ∀ s, (P.symL l0 l1 s).length ≤ 4 * m + 4 := fun s => P.symL_length z0 z1 s
 have KS := Aside0.mk kS
 have CE := Aside0.mk ce
 have HR := Aside0.mk hr
 have HL := Aside0.mk hlen
 have HSL := Aside0.mk hsl
 have ST1 := Aside0.mk st1
 have HB0 := Aside0.mk h1
 have HCS := Lib.hid hcs
 have HBB := Aside0.mk hb
 clear hr0 hr1 hr3 hr kS ce st st1 h1 z0 z1 hlen hsl hcs hs hb
 go_enter Tryd.func21, Tryd.ntmps21
 go_wp2_with fail
 go_loopw [6, 7, 10] (fun _ _ i wr => ∃ k : Nat, k ≤ l.length ∧ i = .int .i64 k ∧ Aside0 (BU (w.heap.size + 1) (w.heap.size + 1) (P.symsL l0 l1 (l.take k)) wr ∧ GS w cs wr)) (fun _ _ i _ => l.length - (intOf i).toNat)
 case atStart => exact ⟨0, Nat.zero_le _, rfl, ⟨HB0.out, ST1.out⟩⟩
 case round =>
  clear HB0 ST1
  obtain ⟨k, hk, rfl, tr⟩ := hrel
  by_cases hlt : k < l.length
  · have hbw : w.heap.size + 1 ≤ wr.heap.size := by have := BU_lt tr.out.1; omega
    obtain ⟨ad, rfl, hx⟩ := Kd.at_int (Kd.C_below HR.out tr.out.2.low) (k : Int) (by omega) (by omega)
    rw [Int.toNat_natCast, rd_D, getD_lt _ _ _ hlt] at hx
    have hmem := List.getElem_mem hlt
    have hsn : P.symsL l0 l1 (l.take (k + 1)) = P.symsL l0 l1 (l.take k) ++ (if l.take k = [] then [] else [32]) ++ P.symL l0 l1 l[k] := by
     rw [List.take_succ_eq_append_getElem hlt, P.symsL_snoc]
    have hln := HL.out (k + 1)
    rw [hsn, List.length_append, List.length_append] at hln
    have hbb := HBB.out
    have hcall := KS.out l[k] hmem
    generalize l[k] = x at hx hsn hln hcall
    have HSN := Lib.hid hsn
    have hln2 : (P.symsL l0 l1 (l.take k)).length + (if l.take k = [] then ([] : List UInt8) else [32]).length + (P.symL l0 l1 x).length ≤ 140737488355328 := by omega
    have HC := Aside0.mk hcall
    clear hsn hmem hln hcall hbb
    by_cases hk0 : k = 0
    · have hpre : l.take k = [] := by rw [hk0]; rfl
      rw [if_pos hpre, hpre] at hln2
      have hkd : decide (0 < (k : Int)) = false := decide_eq_false (by omega)
      have hkd' : decide (0 < k) = false := decide_eq_false (by omega)
      have HPRE := Lib.hid hpre
      clear hpre hk0
      obtain ⟨f0, f1, f2, f3⟩ := CE.out _ tr.out.2
      go_wp2_with (first
       | (go_at_call 19; (with_reducible refine (HC.out _ tr.out.2).mono ?_); rintro e w2 ⟨rfl, hb2⟩; have t2 : Aside0 (BU (w.heap.size + 1) (w.heap.size + 1) (P.symsL l0 l1 (l.take k)) w2 ∧ GS w cs w2) := ⟨BU_below tr.out.1 hb2, tr.out.2.more hb2⟩; have hsz2 := hb2.size; clear hb2)
       | (go_at_call 64; refine Aside0.out ?_))
      refine Aside0.mk ?_
      refine (wStr (w.heap.size + 1) (w.heap.size + 1) _ _ _ t2.out.1 (by rw [P.size_lit, HPRE.out]; exact hln2) (by omega)).mono ?_
      rintro e w4 ⟨rfl, hb4, hw4, _⟩
      have t4 : Aside0 (BU (w.heap.size + 1) (w.heap.size + 1) (P.symsL l0 l1 (l.take (k + 1))) w4 ∧ GS w cs w4) := ⟨by rw [HSN.out, if_pos HPRE.out, List.append_nil]; exact hb4, t2.out.2.base _ hw4 (by omega)⟩
      clear hb4 hw4
      go_wp2_with fail
      go_roundw
      case measure => simp [intOf]; omega
      case rel => exact ⟨k + 1, by omega, by go_num, t4⟩
    · have hpre : ¬ l.take k = [] := by
       intro h
       have := congrArg List.length h
       rw [List.length_take, List.length_nil] at this
       omega
      have hkp : 0 < k := by omega
      have hkd : decide (0 < (k : Int)) = true := decide_eq_true (by omega)
      have hkd' : decide (0 < k) = true := decide_eq_true hkp
      rw [if_neg hpre, List.length_singleton] at hln2
      have HPRE := Lib.hid hpre
      clear hpre
      go_wp2_with fail
      refine (wByteN (w.heap.size + 1) (w.heap.size + 1) _ 32 (by omega) _ tr.out.1 (by omega) (by omega)).mono ?_
      rintro e w1 ⟨rfl, hb1, hw1, _⟩
      have t1 : Aside0 (BU (w.heap.size + 1) (w.heap.size + 1) (P.symsL l0 l1 (l.take k) ++ [32]) w1 ∧ GS w cs w1) := ⟨hb1, tr.out.2.base _ hw1 (by omega)⟩
      have hsz1 := hw1.size
      clear hb1 hw1
      obtain ⟨f0, f1, f2, f3⟩ := CE.out _ t1.out.2
      go_wp2_with (first
       | (go_at_call 19; (with_reducible refine (HC.out _ t1.out.2).mono ?_); rintro e w2 ⟨rfl, hb2⟩; have t2 : Aside0 (BU (w.heap.size + 1) (w.heap.size + 1) (P.symsL l0 l1 (l.take k) ++ [32]) w2 ∧ GS w cs w2) := ⟨BU_below t1.out.1 hb2, t1.out.2.more hb2⟩; have hsz2 := hb2.size; clear hb2)
       | (go_at_call 64; refine Aside0.out ?_))
      refine Aside0.mk ?_
      refine (wStr (w.heap.size + 1) (w.heap.size + 1) _ _ _ t2.out.1 (by rw [P.size_lit, List.length_append, List.length_singleton]; omega) (by omega)).mono ?_
      rintro e w4 ⟨rfl, hb4, hw4, _⟩
      have t4 : Aside0 (BU (w.heap.size + 1) (w.heap.size + 1) (P.symsL l0 l1 (l.take (k + 1))) w4 ∧ GS w cs w4) := ⟨by rw [HSN.out, if_neg HPRE.out]; exact hb4, t2.out.2.base _ hw4 (by omega)⟩
      clear hb4 hw4
      go_wp2_with fail
      go_roundw
      case measure => simp [intOf]; omega
      case rel => exact ⟨k + 1, by omega, by go_num, t4⟩
  · have hkl : k = l.length := by omega
    have hbw : w.heap.size + 1 ≤ wr.heap.size := by have := BU_lt tr.out.1; omega
    go_wp2_with fail
    refine (wText (w.heap.size + 1) (w.heap.size + 1) _ _ tr.out.1 hbw).mono ?_
    rintro e w3 ⟨rfl, hw3⟩
    go_wp2
    go_ret
    subst hkl
    refine ⟨?_, (tr.out.2.base _ hw3 (by omega)).low⟩
    first | rfl | (rw [List.take_length]; rfl)
end Go.Proofs.YthjhaogfpdkhbaaDoor.Sh
/- append([]byte, s...), s a string, as one step of a region that draws its order. -/
namespace Go.Proofs.YthjhaogfpdkhbaaDoorW.PrintLast
open Go.RowKit YthjhaogfpdkhbaaDoorW.PrintWords

end Go.Proofs.YthjhaogfpdkhbaaDoorW.PrintLast
namespace Go.Proofs.YthjhaogfpdkhbaaDoor.D
open B (S52 z52 k52 k52_open k52_mk rd_T52 at_T52)
open Go.RowKit YthjhaogfpdkhbaaDoorW.PrintWords YthjhaogfpdkhbaaDoorW.PrintLast YthjhaogfpdkhbaaDoorW.PrintMore
attribute [local go_sem] max2_int min2_int max_two min_two max_three min_three max_four min_four   -- for this text's walks alone
set_option linter.unusedVariables false
set_option linter.unusedSimpArgs false




end Go.Proofs.YthjhaogfpdkhbaaDoor.D
namespace Go.Proofs.YthjhaogfpdkhbaaDoor.D
open B (S52 z52 k52 k52_open k52_mk rd_T52 at_T52)
open Go.RowKit YthjhaogfpdkhbaaDoorW.PrintWords YthjhaogfpdkhbaaDoorW.PrintLast YthjhaogfpdkhbaaDoorW.PrintMore
attribute [local go_sem] max2_int min2_int max_two min_two max_three min_three max_four min_four   -- for this text's walks alone
set_option linter.unusedVariables false
set_option linter.unusedSimpArgs false

end Go.Proofs.YthjhaogfpdkhbaaDoor.D
namespace Go.Proofs.YthjhaogfpdkhbaaDoor.D
open B (S52 z52 k52 k52_open k52_mk rd_T52 at_T52)
open Go.RowKit YthjhaogfpdkhbaaDoorW.PrintWords YthjhaogfpdkhbaaDoorW.PrintLast YthjhaogfpdkhbaaDoorW.PrintMore
attribute [local go_sem] max2_int min2_int max_two min_two max_three min_three max_four min_four   -- for this text's walks alone
set_option linter.unusedVariables false
set_option linter.unusedSimpArgs false

end Go.Proofs.YthjhaogfpdkhbaaDoor.D
namespace Go.Proofs.YthjhaogfpdkhbaaDoor.D
open B (S52 z52 k52 k52_open k52_mk rd_T52 at_T52)
open Go.RowKit YthjhaogfpdkhbaaDoorW.PrintWords YthjhaogfpdkhbaaDoorW.PrintLast YthjhaogfpdkhbaaDoorW.PrintMore
attribute [local go_sem] max2_int min2_int max_two min_two max_three min_three max_four min_four   -- for this text's walks alone
set_option linter.unusedVariables false
set_option linter.unusedSimpArgs false

end Go.Proofs.YthjhaogfpdkhbaaDoor.D
/- Chapter 5: the document's Symbols, Rule, Readable, Text answer what the definitions say. -/
namespace Go.Proofs.YthjhaogfpdkhbaaDoor.Sh
open Go.RowKit YthjhaogfpdkhbaaDoorW.PrintWords YthjhaogfpdkhbaaDoorW.PrintLast YthjhaogfpdkhbaaDoorW.PrintMore
open B H D

section
variable {l0 l1 : List ByteArray} {a2 : Int} {R : List S52} {m : Nat}
def readK (l0 l1 : List ByteArray) (a2 : Int) (R : List S52) : Int :=
 if (chk (namesOK l0) (namesOK l1) l0.length l1.length a2 R).1 = 0 then
  if P.namesFree l1 = true then if P.formB l0 l1 a2 R = true then 0 else 13 else 10
 else (chk (namesOK l0) (namesOK l1) l0.length l1.length a2 R).1
theorem names_small {l : List ByteArray} (h : namesOK l = true) : ∀ x ∈ l, x.size ≤ 32 := by
 intro x hx
 obtain ⟨i, hi, rfl⟩ := List.getElem_of_mem hx
 unfold namesOK at h
 have := List.all_eq_true.1 h i (by simpa using hi)
 simp only [faultAt, Bool.not_eq_true', Bool.or_eq_false_iff, getD_lt _ _ _ hi, decide_eq_false_iff_not] at this
 omega
def ruleP (l0 l1 : List ByteArray) (a2 : Int) (R : List S52) (n : Int) : List UInt8 × (Int × Int) :=
 if (chk (namesOK l0) (namesOK l1) l0.length l1.length a2 R).1 = 0 then
  if n < 0 ∨ (R.length : Int) ≤ n then ([], (1, -1)) else (P.ruleL l0 l1 (R.getD n.toNat ⟨0, []⟩), (0, -1))
 else ([], chk (namesOK l0) (namesOK l1) l0.length l1.length a2 R)
def textP (l0 l1 : List ByteArray) (a2 : Int) (R : List S52) : List UInt8 × Int :=
 if readK l0 l1 a2 R = 0 then if 1048576 < (P.textL l0 l1 R).length then ([], 12) else (P.textL l0 l1 R, 0) else ([], readK l0 l1 a2 R)
structure Rd (l0 l1 : List ByteArray) (a2 : Int) (R : List S52) : Prop where
 z0 : ∀ x ∈ l0, x.size ≤ 32
 z1 : ∀ x ∈ l1, x.size ≤ 32
 len : l0.length + l1.length ≤ 60
 rules : R.length ≤ 120
 ok : ∀ x ∈ R, okR l0.length l1.length x = true
 fr : ∀ x ∈ l1, P.freeL x.data.toList = true
 form : P.formB l0 l1 a2 R = true
 names0 : namesOK l0 = true
 names1 : namesOK l1 = true
 ax0 : 0 ≤ a2
 ax1 : a2 < (l1.length : Int)
theorem read_ok (h : readK l0 l1 a2 R = 0) : Rd l0 l1 a2 R := by
 unfold readK at h
 by_cases hc : (chk (namesOK l0) (namesOK l1) l0.length l1.length a2 R).1 = 0
 · rw [if_pos hc] at h
   obtain ⟨q1, q2, q3, q4, q5, q6, q7⟩ := chk_ok hc
   by_cases hf : P.namesFree l1 = true
   · rw [if_pos hf] at h
     by_cases hg : P.formB l0 l1 a2 R = true
     · exact ⟨names_small q3, names_small q4, q1, q2, q7, fun x hx => by
        unfold P.namesFree at hf
        exact List.all_eq_true.1 hf x hx, hg, q3, q4, q5, q6⟩
     · rw [if_neg hg] at h; exact absurd h (by decide)
   · rw [if_neg hf] at h; exact absurd h (by decide)
 · rw [if_neg hc] at h; exact absurd h hc
theorem alt_len (h : Rd l0 l1 a2 R) : ∀ (Q : List S52) (p : Option Int), (∀ x ∈ Q, x ∈ R) → (P.altsL l0 l1 p Q).length ≤ 4455 * Q.length
 | [], _, _ => by simp [P.altsL]
 | x :: Q, p, hq => by
  have h1 := alt_len h Q (some x.f0) (fun y hy => hq y (List.mem_cons_of_mem _ hy))
  have h2 := P.altL_length h.z0 h.z1 p x
  have h3 := (okR_sides (h.ok x (hq x List.mem_cons_self))).1
  have h4 : (4 * 32 + 7) * (x.f1.length + 1) ≤ (4 * 32 + 7) * 33 := Nat.mul_le_mul_left _ (by omega)
  unfold P.altsL
  rw [List.length_append, List.length_cons]
  omega
end
end Go.Proofs.YthjhaogfpdkhbaaDoor.Sh
/- errors.Is at a rule error, after the kit's worked example. -/
namespace Go.Proofs.YthjhaogfpdkhbaaDoor.E
open Go.RowKit Go.Extern.Stop Go.Stop Go.Extern
theorem noIsWR (v : Value) (xT : TypeId) (w : World) : (Instr.typeAssert (.iface 126 v) xT 152 true).run Tryd.prog w = .ok (.tuple #[.nilIface, .bool false]) w := run_typeAssert_lacksB Tryd.underlying152 (by kernel_rfl) (by kernel_rfl) v xT w
theorem hasUnwrapWR (v : Value) (xT : TypeId) (w : World) : (Instr.typeAssert (.iface 126 v) xT 155 true).run Tryd.prog w = .ok (.tuple #[.iface 126 v, .bool true]) w := run_typeAssert_hasB Tryd.underlying155 (by kernel_rfl) v xT w
theorem methodUnwrapR (v : Value) (w : World) : (Go.method 309 126 v "Unwrap").run Tryd.prog w = .ok (133, v) w := by kernel_rfl

theorem isR_same (pb po : Nat) (b : Addr) (w : World) (h1 : w.cell? ⟨pb, po + 1, none⟩ = some (.iface 178 (.pointer (some b)))) :
 Calls Tryd.prog 55 #[.iface 126 (.pointer (some ⟨pb, po, none⟩)), .iface 178 (.pointer (some b))] w fun e w' => e = .returned (.bool true) ∧ w = w' := by
 obtain ⟨i, hi, hcmp⟩ := Option.map_eq_some_iff.1 isComp
 obtain ⟨j, hj, hjs⟩ := Option.map_eq_some_iff.1 isSize
 have h8 := @run_callFunc_extern Tryd.prog 86 _ Extern.ReflectliteType.typeOf Tryd.func86 (by kernel_rfl) (by kernel_rfl) (by kernel_rfl) (by kernel_rfl)
 have h32 := @run_callFunc_extern Tryd.prog 136 _ compF Tryd.func136 (by kernel_rfl) (by kernel_rfl) (by kernel_rfl) (by kernel_rfl)
 have tT := isTypeOf
 have cT := isComparable
 have mR := isMethodComparable
 have nE := noIsE
 have uE := noUnwrapE
 have vE := noUnwrapsE
 have nW := noIsWR
 have uW := hasUnwrapWR
 have mU := methodUnwrapR
 have heq := run_eql_iface_ptr_same (P := Tryd.prog) w b Tryd.underlying30 Tryd.underlying178 hi hcmp hj
 have hty := run_eql_iface_types (P := Tryd.prog) 126 178 (.pointer (some ⟨pb, po, none⟩)) (.pointer (some b)) Tryd.underlying30 (by decide) w
 go_enter Tryd.func55, Tryd.ntmps55
 go_wp2
 refine wp_loop_rounds 2 ?_
 rw [rounds_succ]
 go_wp2
 rw [rounds_succ]
 go_wp2
 go_ret
 exact ⟨rfl, rfl⟩

theorem isR_other (pb po : Nat) (b a : Addr) (ca cb : Array Value) (ta tb : TypeId) (w : World) (h1 : w.cell? ⟨pb, po + 1, none⟩ = some (.iface 178 (.pointer (some a)))) (hne : a ≠ b) (ha : w.heap[a.block]? = some (.cells ca ta (0, 0))) (hb : w.heap[b.block]? = some (.cells cb tb (0, 0))) :
 Calls Tryd.prog 55 #[.iface 126 (.pointer (some ⟨pb, po, none⟩)), .iface 178 (.pointer (some b))] w fun e w' => e = .returned (.bool false) ∧ w = w' := by
 obtain ⟨i, hi, hcmp⟩ := Option.map_eq_some_iff.1 isComp
 obtain ⟨j, hj, hjs⟩ := Option.map_eq_some_iff.1 isSize
 have h8 := @run_callFunc_extern Tryd.prog 86 _ Extern.ReflectliteType.typeOf Tryd.func86 (by kernel_rfl) (by kernel_rfl) (by kernel_rfl) (by kernel_rfl)
 have h32 := @run_callFunc_extern Tryd.prog 136 _ compF Tryd.func136 (by kernel_rfl) (by kernel_rfl) (by kernel_rfl) (by kernel_rfl)
 have tT := isTypeOf
 have cT := isComparable
 have mR := isMethodComparable
 have nE := noIsE
 have uE := noUnwrapE
 have vE := noUnwrapsE
 have nW := noIsWR
 have uW := hasUnwrapWR
 have mU := methodUnwrapR
 have heq := run_eql_iface_ptr_other (P := Tryd.prog) w Tryd.underlying30 Tryd.underlying178 hi hcmp hj (by rw [hjs]; decide) hne ha hb
 have hty := run_eql_iface_types (P := Tryd.prog) 126 178 (.pointer (some ⟨pb, po, none⟩)) (.pointer (some b)) Tryd.underlying30 (by decide) w
 go_enter Tryd.func55, Tryd.ntmps55
 go_wp2
 refine wp_loop_rounds 2 ?_
 rw [rounds_succ]
 go_wp2
 rw [rounds_succ]
 go_wp2
 go_ret
 exact ⟨rfl, rfl⟩
end Go.Proofs.YthjhaogfpdkhbaaDoor.E
/- errors.As at a rule error, after the kit's worked example. -/
namespace Go.Proofs.YthjhaogfpdkhbaaDoor.E
open Go.RowKit Go.Extern.Stop Go.Stop Go.Extern

end Go.Proofs.YthjhaogfpdkhbaaDoor.E
/- kit.Kind and kit.Rule of what gram.Check answers. -/
namespace Go.Proofs.YthjhaogfpdkhbaaDoor.B
open Go.RowKit YthjhaogfpdkhbaaDoorW.PrintWords YthjhaogfpdkhbaaDoorW.PrintLast YthjhaogfpdkhbaaDoorW.PrintMore E

theorem IsK.rule {ad : Int → Addr} {w : World} (hs : SentsK ad w) (k : Int) (h1 : 1 ≤ k) (h2 : k ≤ 15) (b : Nat) (hc : w.cell? ⟨b, 1, none⟩ = some (.iface 178 (.pointer (some (ad k))))) : IsK ad w (.iface 126 (.pointer (some ⟨b, 0, none⟩))) k := by
 intro j hj1 hj2 W hW
 have hc' : W.cell? ⟨b, 0 + 1, none⟩ = some (.iface 178 (.pointer (some (ad k)))) := (hW.cell (World.block_lt_of_cell? w _ hc)).trans hc
 by_cases h : j = k
 · subst h
   rw [decide_eq_true rfl]
   exact isR_same b 0 (ad j) W hc'
 · rw [decide_eq_false h]
   obtain ⟨ca, ta, hca⟩ := (hs.below hW).box k h1 h2
   obtain ⟨cb, tb, hcb⟩ := (hs.below hW).box j hj1 hj2
   exact isR_other b 0 (ad j) (ad k) ca cb ta tb W hc' (hs.ne k j h1 h2 hj1 hj2 (fun e => h e.symm)) hca hcb
def Handle (w : World) : Prop := w.cell? ⟨15, 0, none⟩ = some (.iface 150 (.agg #[.pointer (some ⟨16, 30, none⟩)]))
theorem Handle.below {w w' : World} (h : Handle w) (hb : Below w.heap.size w w') : Handle w' := (hb.cell (World.block_lt_of_cell? w _ h)).trans h

end Go.Proofs.YthjhaogfpdkhbaaDoor.B
/- Errors of all kinds: none, a sentinel, a rule's; kit.Kind and kit.Rule of them; told by a number (kind + 16 * (rule + 1)). -/
namespace Go.Proofs.YthjhaogfpdkhbaaDoor.F
open Go.RowKit YthjhaogfpdkhbaaDoorW.PrintWords YthjhaogfpdkhbaaDoorW.PrintLast YthjhaogfpdkhbaaDoorW.PrintMore
open B E

def ErrW (ad : Int → Addr) (w : World) (v : Value) (p : Int × Int) : Prop :=
 (p.1 = 0 ∧ p.2 = -1 ∧ v = .nilIface) ∨ ((1 ≤ p.1 ∧ p.1 ≤ 15) ∧ p.2 = -1 ∧ v = .iface 178 (.pointer (some (ad p.1)))) ∨
 ((1 ≤ p.1 ∧ p.1 ≤ 15) ∧ 0 ≤ p.2 ∧ p.2 < 1000 ∧ ∃ b, v = .iface 126 (.pointer (some ⟨b, 0, none⟩)) ∧ w.heap[b]? = some (.cells #[.int .i64 p.2, .iface 178 (.pointer (some (ad p.1)))] 128 (0, 0)))
theorem ErrW.of {ad : Int → Addr} {w : World} {v : Value} {p : Int × Int} (h : ErrV ad w v p) : ErrW ad w v p := by
 rcases h with h | ⟨h1, h2, h3⟩ | ⟨h1, h2, h3, h4⟩
 · exact .inl h
 · exact .inr (.inl ⟨by omega, h2, h3⟩)
 · exact .inr (.inr ⟨by omega, h2, by omega, h4⟩)
theorem ErrW.below {ad : Int → Addr} {w w' : World} {v : Value} {p : Int × Int} (h : ErrW ad w v p) (hb : Below w.heap.size w w') : ErrW ad w' v p := by
 rcases h with h | h | ⟨h1, h2, h3, b, hv, hx⟩
 · exact .inl h
 · exact .inr (.inl h)
 · exact .inr (.inr ⟨h1, h2, h3, b, hv, Box.below (W := w) (W' := w') hx hb⟩)
theorem ErrW.nil {ad : Int → Addr} {w : World} {v : Value} {p : Int × Int} (h : ErrW ad w v p) (h0 : p.1 = 0) : v = .nilIface := by
 rcases h with h | h | h
 · exact h.2.2
 · have := h.1; omega
 · have := h.1; omega
theorem ErrW.any {ad : Int → Addr} {w : World} {v : Value} {p : Int × Int} (h : ErrW ad w v p) (h0 : p.1 ≠ 0) : ∃ t u, v = .iface t u := by
 rcases h with h | h | h
 · exact absurd h.1 h0
 · exact ⟨_, _, h.2.2⟩
 · obtain ⟨_, _, _, b, h, _⟩ := h; exact ⟨_, _, h⟩
theorem ErrW.sent {ad : Int → Addr} {w : World} {k : Int} (h1 : 1 ≤ k) (h2 : k ≤ 15) : ErrW ad w (.iface 178 (.pointer (some (ad k)))) (k, -1) := .inr (.inl ⟨⟨h1, h2⟩, rfl, rfl⟩)
theorem Kind_w {ad : Int → Addr} {w : World} (hs : SentsK ad w) {v : Value} {p : Int × Int} (hv : ErrW ad w v p) : Calls Tryd.prog 14 #[v] w fun e w' => e = .returned (.int .i64 p.1) ∧ Below w.heap.size w w' := by
 rcases hv with ⟨h0, _, rfl⟩ | ⟨h1, _, rfl⟩ | ⟨h1, _, _, b, rfl, hx⟩
 · rw [h0]; exact Kind_nil w
 · exact Kind_any ad _ _ p.1 h1.1 h1.2 w hs (IsK.sent hs p.1 h1.1 h1.2)
 · exact Kind_any ad _ _ p.1 h1.1 h1.2 w hs (IsK.rule hs p.1 h1.1 h1.2 b (Box.cell (W := w) hx 1 _ rfl))
def encE (p : Int × Int) : Option Int := if p.1 = 0 then none else some (p.1 + 16 * (p.2 + 1))
def kindE : Option Int → Int
 | none => 0
 | some c => c % 16
def ruleE : Option Int → Int
 | none => -1
 | some c => c / 16 - 1
def ErrF (ad : Int → Addr) (w : World) (v : Value) (r : Option Int) : Prop := ∃ p, ErrW ad w v p ∧ r = encE p
theorem ErrF.below {ad : Int → Addr} {w w' : World} {v : Value} {r : Option Int} (h : ErrF ad w v r) (hb : Below w.heap.size w w') : ErrF ad w' v r := by
 obtain ⟨p, h1, h2⟩ := h
 exact ⟨p, h1.below hb, h2⟩
theorem SentsK.three {ad : Int → Addr} {w : World} (h : SentsK ad w) : Go.Proofs.YthjhaogfpdkhbaaDoor.B.Sents ad w := by
 obtain ⟨⟨h1, h2, h3, h4, h5, h6, h7, h8, h9, h10, h11, h12, h13, h14, h15⟩, _, _⟩ := h
 exact ⟨h3, h10, h1⟩
theorem SentsK.arg {ad : Int → Addr} {w : World} (h : SentsK ad w) : w.cell? ⟨1, 0, none⟩ = some (.iface 178 (.pointer (some (ad 1)))) := by
 obtain ⟨⟨h1, h2, h3, h4, h5, h6, h7, h8, h9, h10, h11, h12, h13, h14, h15⟩, _, _⟩ := h
 exact h1
theorem Check_any (ad : Int → Addr) (A0 : Option Addr) (c0 : Nat) (l0 : List ByteArray) (A1 : Option Addr) (c1 : Nat) (l1 : List ByteArray) (a2 : Int) (A3 : Option Addr) (c3 : Nat) (l3 : List S52) (w : World) (hs : SentsK ad w) (hr0 : Kd.C Kd.string w A0 l0.length l0) (hc0 : l0.length ≤ c0) (hr1 : Kd.C Kd.string w A1 l1.length l1) (hc1 : l1.length ≤ c1) (hr3 : Kd.C k52 w A3 l3.length l3) (hc3 : l3.length ≤ c3) :
 Calls Tryd.prog 51 #[.agg #[.slice A0 l0.length c0, .slice A1 l1.length c1, .int .i64 a2, .slice A3 l3.length c3]] w fun e w' => (∃ v, e = .returned v ∧ ErrV ad w' v (chk (namesOK l0) (namesOK l1) l0.length l1.length a2 l3)) ∧ Below w.heap.size w w' := by
 have m0 := C_max hr0
 have m1 := C_max hr1
 exact Check_full ad _ A0 c0 l0 A1 c1 l1 a2 A3 c3 l3 _ _ w (SentsK.three hs) hr0 hc0 hr1 hc1 hr3 hc3 (Names_f l0 (l0.length + l0.length + l1.length + l1.length + 2) m0 (by omega)) (Names_f l1 (l0.length + l0.length + l1.length + l1.length + 2) m1 (by omega))
def dovetailkit_Kind.f (a0 : Option Int) : Option Int := some (kindE a0)
def dovetailkit_Rule.f (a0 : Option Int) : Option Int := some (ruleE a0)
end Go.Proofs.YthjhaogfpdkhbaaDoor.F
/- show.Rule, show.Readable: walked. -/
namespace Go.Proofs.YthjhaogfpdkhbaaDoor.Sh
open Go.RowKit YthjhaogfpdkhbaaDoorW.PrintWords YthjhaogfpdkhbaaDoorW.PrintLast YthjhaogfpdkhbaaDoorW.PrintMore
open B H F

theorem sent_name {ad : Int → Addr} {w : World} (h : SentsK ad w) : w.cell? ⟨10, 0, none⟩ = some (.iface 178 (.pointer (some (ad 10)))) := by
 obtain ⟨⟨h1, h2, h3, h4, h5, h6, h7, h8, h9, h10, h11, h12, h13, h14, h15⟩, _, _⟩ := h
 exact h10
theorem sent_form {ad : Int → Addr} {w : World} (h : SentsK ad w) : w.cell? ⟨12, 0, none⟩ = some (.iface 178 (.pointer (some (ad 13)))) := by
 obtain ⟨⟨h1, h2, h3, h4, h5, h6, h7, h8, h9, h10, h11, h12, h13, h14, h15⟩, _, _⟩ := h
 exact h13
theorem sent_long {ad : Int → Addr} {w : World} (h : SentsK ad w) : w.cell? ⟨0, 0, none⟩ = some (.iface 178 (.pointer (some (ad 12)))) := by
 obtain ⟨⟨h1, h2, h3, h4, h5, h6, h7, h8, h9, h10, h11, h12, h13, h14, h15⟩, _, _⟩ := h
 exact h12
theorem GS.alloc {w W : World} {cs : Array Value} (h : GS w cs W) (o : Obj) : GS w cs (W.alloc o) := h.more ((Below.refl _ W).alloc (Nat.le_refl _) o)
theorem GS.lt {w W : World} {cs : Array Value} (h : GS w cs W) : w.heap.size < W.heap.size := by
 have h2 : W.heap[w.heap.size]? = some (.cells cs 25 (0, 0)) := h.2
 rcases Nat.lt_or_ge w.heap.size W.heap.size with h1 | h1
 · exact h1
 · rw [Array.getElem?_eq_none h1] at h2; cases h2
set_option maxHeartbeats 4000000 in
set_option maxRecDepth 100000 in
theorem Rule_calls (ad : Int → Addr) (A0 : Option Addr) (c0 : Nat) (l0 : List ByteArray) (A1 : Option Addr) (c1 : Nat) (l1 : List ByteArray) (a2 : Int) (A3 : Option Addr) (c3 : Nat) (R : List S52) (n : Int) (w : World) (hs : SentsK ad w) (hr0 : Kd.C Kd.string w A0 l0.length l0) (hc0 : l0.length ≤ c0) (hr1 : Kd.C Kd.string w A1 l1.length l1) (hc1 : l1.length ≤ c1) (hr3 : Kd.C k52 w A3 R.length R) (hc3 : R.length ≤ c3) :
 Calls Tryd.prog 17 #[.agg #[.slice A0 l0.length c0, .slice A1 l1.length c1, .int .i64 a2, .slice A3 R.length c3], .int .i64 n] w fun e w' => ∃ E, e = .returned (.tuple #[.string ⟨(ruleP l0 l1 a2 R n).1.toArray⟩, E]) ∧ ErrW ad w' E (ruleP l0 l1 a2 R n).2 ∧ Below w.heap.size w w' := by
 have m0 := C_max hr0
 have m1 := C_max hr1
 obtain ⟨cs, hcs⟩ : ∃ cs : Array Value, cs = #[.slice A0 l0.length c0, .slice A1 l1.length c1, .int .i64 a2, .slice A3 R.length c3] := ⟨_, rfl⟩
 have st : GS w cs (w.alloc (.cells #[.slice A0 l0.length c0, .slice A1 l1.length c1, .int .i64 a2, .slice A3 R.length c3] 25)) := by subst hcs; exact GS.start w _
 have ce : ∀ W, GS w cs W → W.cell? ⟨w.heap.size, 0, none⟩ = some (.slice A0 l0.length c0) ∧ W.cell? ⟨w.heap.size, 1, none⟩ = some (.slice A1 l1.length c1) ∧ W.cell? ⟨w.heap.size, 2, none⟩ = some (.int .i64 a2) ∧ W.cell? ⟨w.heap.size, 3, none⟩ = some (.slice A3 R.length c3) := by
  intro W hW; subst hcs; exact hW.cells
 have kC : ∀ W, GS w cs W → Calls Tryd.prog 51 #[.agg #[.slice A0 l0.length c0, .slice A1 l1.length c1, .int .i64 a2, .slice A3 R.length c3]] W fun e w' => (∃ v, e = .returned v ∧ ErrW ad w' v (chk (namesOK l0) (namesOK l1) l0.length l1.length a2 R)) ∧ Aside0 (GS w cs w') := fun W hW =>
  (Check_any ad A0 c0 l0 A1 c1 l1 a2 A3 c3 R W (hs.below hW.low) (Kd.C_below hr0 hW.low) hc0 (Kd.C_below hr1 hW.low) hc1 (Kd.C_below hr3 hW.low) hc3).mono fun _ _ ⟨⟨v, he, hv⟩, hb⟩ => ⟨⟨v, he, ErrW.of hv⟩, ⟨hW.more hb⟩⟩
 have ST := Aside0.mk st
 have CE := Aside0.mk ce
 have HCS := Lib.hid hcs
 unfold ruleP
 by_cases hp : (chk (namesOK l0) (namesOK l1) l0.length l1.length a2 R).1 = 0
 rotate_left
 · rw [if_neg hp]
   have KC : Aside0 (∀ W, GS w cs W → Calls Tryd.prog 51 #[.agg #[.slice A0 l0.length c0, .slice A1 l1.length c1, .int .i64 a2, .slice A3 R.length c3]] W fun e w' => ∃ t u, e = .returned (.iface t u) ∧ Aside0 (ErrW ad w' (.iface t u) (chk (namesOK l0) (namesOK l1) l0.length l1.length a2 R) ∧ GS w cs w')) := ⟨fun W hW => (kC W hW).mono fun e w' ⟨⟨v, he, hv⟩, hg⟩ => by
    obtain ⟨t, u, rfl⟩ := hv.any hp
    exact ⟨t, u, he, ⟨hv, hg.out⟩⟩⟩
   have HS := Aside0.mk hs
   clear kC st ce hcs hr0 hr1 hr3 hp hs
   generalize chk (namesOK l0) (namesOK l1) l0.length l1.length a2 R = pr at KC ⊢
   go_enter Tryd.func17, Tryd.ntmps17
   go_wp2_with (first
    | (go_at_call 51; (with_reducible refine (KC.out _ ST.out).mono ?_); rintro e w1 ⟨t, u, rfl, t1⟩))
   (try rw [Exit.noGoto_ret])
   exact bodyPost_ret (v := .tuple #[.string ⟨#[]⟩, .iface t u]) (by simp [results, Tryd.results17, go_sem]) rfl ⟨_, rfl, t1.out.1, t1.out.2.low⟩
 · rw [if_pos hp]
   obtain ⟨q1, q2, q3, q4, q5, q6, q7⟩ := chk_ok hp
   have KC : Aside0 (∀ W, GS w cs W → Calls Tryd.prog 51 #[.agg #[.slice A0 l0.length c0, .slice A1 l1.length c1, .int .i64 a2, .slice A3 R.length c3]] W fun e w' => e = .returned .nilIface ∧ Aside0 (GS w cs w')) := ⟨fun W hW => (kC W hW).mono fun e w' ⟨⟨v, he, hv⟩, hg⟩ => ⟨by rw [he, hv.nil hp], hg⟩⟩
   have HS := Aside0.mk hs
   have hR120 : ¬ 120 < R.length := by omega
   by_cases ho : n < 0 ∨ (R.length : Int) ≤ n
   · rw [if_pos ho]
     have HE : Aside0 (∀ W, GS w cs W → W.cell? ⟨1, 0, none⟩ = some (.iface 178 (.pointer (some (ad 1))))) := ⟨fun W hW => SentsK.arg (hs.below hW.low)⟩
     have hcase : n < 0 ∨ (¬ n < 0 ∧ (R.length : Int) ≤ n) := by omega
     clear kC st ce hcs hr0 hr1 hr3 hp hs ho
     rcases hcase with b1 | ⟨b1, b2⟩
     · have d1 := decide_eq_true b1
       have HB1 := Lib.hid b1
       clear b1
       go_enter Tryd.func17, Tryd.ntmps17
       go_wp2_with (first
        | (go_at_call 51; (with_reducible refine (KC.out _ ST.out).mono ?_); rintro e w1 ⟨rfl, t1⟩; obtain ⟨f0, f1, f2, f3⟩ := CE.out _ t1.out; have he := HE.out _ t1.out))
       go_quiet (fail)
       go_wp2_with fail
       (try rw [Exit.noGoto_ret])
       exact bodyPost_ret (v := .tuple #[.string ⟨#[]⟩, .iface 178 (.pointer (some (ad 1)))]) (by simp [results, Tryd.results17, go_sem]) rfl ⟨_, rfl, ErrW.sent (by decide) (by decide), pw_below_drewN t1.out.low _⟩
     · have d1 := decide_eq_false b1
       have d2 := decide_eq_true b2
       have HB1 := Lib.hid b1
       have HB2 := Lib.hid b2
       clear b1 b2
       go_enter Tryd.func17, Tryd.ntmps17
       go_wp2_with (first
        | (go_at_call 51; (with_reducible refine (KC.out _ ST.out).mono ?_); rintro e w1 ⟨rfl, t1⟩; obtain ⟨f0, f1, f2, f3⟩ := CE.out _ t1.out; have he := HE.out _ t1.out))
       go_quiet (fail)
       go_wp2_with fail
       (try rw [Exit.noGoto_ret])
       exact bodyPost_ret (v := .tuple #[.string ⟨#[]⟩, .iface 178 (.pointer (some (ad 1)))]) (by simp [results, Tryd.results17, go_sem]) rfl ⟨_, rfl, ErrW.sent (by decide) (by decide), pw_below_drewN t1.out.low _⟩
   · rw [if_neg ho]
     obtain ⟨n, rfl⟩ : ∃ j : Nat, n = j := ⟨n.toNat, by omega⟩
     have hn : n < R.length := by omega
     have z0 := names_small q3
     have z1 := names_small q4
     have hxo := okR_sides (q7 R[n] (List.getElem_mem hn))
     rw [Int.toNat_natCast, getD_lt R n _ hn]
     have hrd : rd_T52 R (n : Int) = R[n] := by rw [rdR_D, getD_lt R n _ hn]
     have kX : ∀ W, GS w cs W → ∃ ad3 A1' c1', A3 = some ad3 ∧ W.cell? (ad3.add (n * 2)) = some (.int .i64 R[n].f0) ∧ W.cell? ⟨(ad3.add (n * 2)).block, (ad3.add (n * 2)).off + 1, none⟩ = some (.slice A1' R[n].f1.length c1') ∧ R[n].f1.length ≤ c1' ∧ Kd.C (Kd.int .i64) W A1' R[n].f1.length R[n].f1 := by
      intro W hW
      obtain ⟨ad3, A', c', e1, e2, e3, e4, e5⟩ := at_T52 (Kd.C_below hr3 hW.low) (n : Int) (by omega) (by omega)
      rw [Int.toNat_natCast, hrd] at e2 e3
      rw [hrd] at e4 e5
      exact ⟨ad3, A', c', e1, e2, e3, e4, e5⟩
     generalize R[n] = x at hxo kX
     have hsl := P.symL_length z0 z1 (-1 - x.f0)
     have htl := P.symsL_length z0 z1 x.f1
     have htl2 : (4 * 32 + 5) * x.f1.length ≤ (4 * 32 + 5) * 32 := Nat.mul_le_mul_left _ hxo.1
     have hw1 : wrap64 ((-1) - x.f0) = -1 - x.f0 := w64m x.f0 (by omega) (by omega)
     have kS : ∀ W, GS w cs W → Calls Tryd.prog 19 #[.agg #[.slice A0 l0.length c0, .slice A1 l1.length c1, .int .i64 a2, .slice A3 R.length c3], .int .i64 (-1 - x.f0)] W fun e w' => e = .returned (.string ⟨(P.symL l0 l1 (-1 - x.f0)).toArray⟩) ∧ Below W.heap.size W w' := fun W hW =>
      Symbol_calls A0 c0 l0 A1 c1 l1 a2 A3 c3 R _ 32 W (Kd.C_below hr0 hW.low) hc0 (Kd.C_below hr1 hW.low) hc1 (Kd.C_below hr3 hW.low) hc3 (by omega) z0 z1 (by omega) (by omega)
     have kY : ∀ A' c' W, GS w cs W → Kd.C (Kd.int .i64) W A' x.f1.length x.f1 → x.f1.length ≤ c' → Calls Tryd.prog 21 #[.agg #[.slice A0 l0.length c0, .slice A1 l1.length c1, .int .i64 a2, .slice A3 R.length c3], .slice A' x.f1.length c'] W fun e w' => e = .returned (.string ⟨(P.symsL l0 l1 x.f1).toArray⟩) ∧ Below W.heap.size W w' := fun A' c' W hW h1 h2 =>
      Symbols_calls A0 c0 l0 A1 c1 l1 a2 A3 c3 R A' c' x.f1 32 W (Kd.C_below hr0 hW.low) hc0 (Kd.C_below hr1 hW.low) hc1 (Kd.C_below hr3 hW.low) hc3 h1 h2 (by omega) z0 z1 (by omega) (fun s hs => by have := hxo.2.2.2 s hs; omega)
     have hS1 : (⟨(P.symL l0 l1 (-1 - x.f0)).toArray⟩ : ByteArray).size ≤ 132 := by rw [P.size_lit]; omega
     have hY1 : (⟨(P.symsL l0 l1 x.f1).toArray⟩ : ByteArray).size ≤ 4256 := by rw [P.size_lit]; omega
     have hfin1 : x.f1 = [] → (⟨(P.ruleL l0 l1 x).toArray⟩ : ByteArray) = (⟨(P.symL l0 l1 (-1 - x.f0)).toArray⟩ : ByteArray) ++ (⟨#[32, 58]⟩ : ByteArray) := by
      intro h
      refine ba_eq ?_
      rw [P.data_append]
      unfold P.ruleL
      rw [h]
      simp [P.tlL]
     have hfin2 : x.f1 ≠ [] → (⟨(P.ruleL l0 l1 x).toArray⟩ : ByteArray) = (⟨(P.symL l0 l1 (-1 - x.f0)).toArray⟩ : ByteArray) ++ (⟨#[32, 58]⟩ : ByteArray) ++ ((⟨#[32]⟩ : ByteArray) ++ (⟨(P.symsL l0 l1 x.f1).toArray⟩ : ByteArray)) := by
      intro h
      refine ba_eq ?_
      rw [P.data_append, P.data_append, P.data_append]
      unfold P.ruleL
      rw [P.tlL_syms l0 l1 x.f1 h]
      simp
     generalize (⟨(P.symL l0 l1 (-1 - x.f0)).toArray⟩ : ByteArray) = qs at kS hS1 hfin1 hfin2
     generalize (⟨(P.symsL l0 l1 x.f1).toArray⟩ : ByteArray) = qy at kY hY1 hfin2
     have KX := Aside0.mk kX
     have KS := Aside0.mk kS
     have KY := Aside0.mk kY
     have d1 : decide ((n : Int) < 0) = false := decide_eq_false (by omega)
     have d2 : decide ((R.length : Int) ≤ (n : Int)) = false := decide_eq_false (by omega)
     have d3 : decide (R.length ≤ n) = false := decide_eq_false (by omega)
     have b1 : ¬ 9223372036854775807 < qs.size + 2 := by omega
     have b2 : ¬ 9223372036854775807 < 1 + qy.size := by omega
     have b3 : ¬ 9223372036854775807 < qs.size + 2 + (1 + qy.size) := by omega
     have HSO := Lib.hid hxo
     clear kC st ce hcs hr0 hr1 hr3 hp hs ho q3 q4 q5 q6 q7 z0 z1 hrd kX kS kY hsl htl htl2 hS1 hY1 hxo
     by_cases he0 : x.f1 = []
     · have hfin := hfin1 he0
       have hl0 : x.f1.length = 0 := by rw [he0]; rfl
       have HF := Lib.hid hfin
       clear hfin hfin1 hfin2 he0
       rw [hl0] at KX
       go_enter Tryd.func17, Tryd.ntmps17
       go_wp2_with (first
        | (go_at_call 51; (with_reducible refine (KC.out _ ST.out).mono ?_); rintro e w1 ⟨rfl, t1⟩; obtain ⟨f0, f1, f2, f3⟩ := CE.out _ t1.out; obtain ⟨ad3, A1', c1', rfl, g0, g1, g2, g3⟩ := KX.out _ t1.out; have G3 := Aside0.mk g3; clear g3; have t2 : Aside0 (GS w cs (w1.alloc (.cells #[.int .i64 x.f0, .slice A1' 0 c1'] 52))) := ⟨t1.out.alloc _⟩; obtain ⟨k0, k1, k2, k3⟩ := CE.out _ t2.out)
        | (go_at_call 19; (with_reducible refine (KS.out _ t2.out).mono ?_); rintro e w3 ⟨rfl, hb3⟩; have hlt2 := t2.out.lt; have hbx : Box w1.heap.size #[.int .i64 x.f0, .slice A1' 0 c1'] 52 w3 := (Box.new w1 _ _).below hb3; have g4 := hbx.cell 0 _ rfl; have g5 := hbx.cell 1 _ rfl; have t3 := Aside0.mk (t2.out.more hb3); clear hb3 f0 f1 f2 f3 g0 g1 k0 k1 k2 k3 hbx; obtain ⟨f0, f1, f2, f3⟩ := CE.out _ t3.out))
       (try rw [Exit.noGoto_ret])
       exact bodyPost_ret (v := .tuple #[.string (qs ++ (⟨#[32, 58]⟩ : ByteArray)), .nilIface]) (by simp [results, Tryd.results17, go_sem]) rfl ⟨_, by rw [HF.out], .inl ⟨rfl, rfl, rfl⟩, t3.out.low⟩
     · have hfin := hfin2 he0
       have hl0 : 0 < x.f1.length := List.length_pos_iff.2 he0
       have d4 : decide (0 < (x.f1.length : Int)) = true := decide_eq_true (by omega)
       have d5 : decide (0 < x.f1.length) = true := decide_eq_true hl0
       have HF := Lib.hid hfin
       clear hfin hfin1 hfin2 he0
       go_enter Tryd.func17, Tryd.ntmps17
       go_wp2_with (first
        | (go_at_call 51; (with_reducible refine (KC.out _ ST.out).mono ?_); rintro e w1 ⟨rfl, t1⟩; obtain ⟨f0, f1, f2, f3⟩ := CE.out _ t1.out; obtain ⟨ad3, A1', c1', rfl, g0, g1, g2, g3⟩ := KX.out _ t1.out; have G3 := Aside0.mk g3; clear g3; have t2 : Aside0 (GS w cs (w1.alloc (.cells #[.int .i64 x.f0, .slice A1' x.f1.length c1'] 52))) := ⟨t1.out.alloc _⟩; obtain ⟨k0, k1, k2, k3⟩ := CE.out _ t2.out)
        | (go_at_call 19; (with_reducible refine (KS.out _ t2.out).mono ?_); rintro e w3 ⟨rfl, hb3⟩; have hlt2 := t2.out.lt; have hbx : Box w1.heap.size #[.int .i64 x.f0, .slice A1' x.f1.length c1'] 52 w3 := (Box.new w1 _ _).below hb3; have g4 := hbx.cell 0 _ rfl; have g5 := hbx.cell 1 _ rfl; have t3 := Aside0.mk (t2.out.more hb3); have G4 := Aside0.mk (Kd.C_below (Kd.C_below G3.out ((Below.refl _ w1).alloc (Nat.le_refl _) _)) hb3); clear hb3 f0 f1 f2 f3 g0 g1 k0 k1 k2 k3 hbx; obtain ⟨f0, f1, f2, f3⟩ := CE.out _ t3.out)
        | (go_at_call 21; (with_reducible refine (KY.out _ _ _ t3.out G4.out g2).mono ?_); rintro e w4 ⟨rfl, hb4⟩; have t4 := Aside0.mk (t3.out.more hb4); clear hb4))
       (try rw [Exit.noGoto_ret])
       exact bodyPost_ret (v := .tuple #[.string (qs ++ (⟨#[32, 58]⟩ : ByteArray) ++ ((⟨#[32]⟩ : ByteArray) ++ qy)), .nilIface]) (by simp [results, Tryd.results17, go_sem]) rfl ⟨_, by rw [HF.out], .inl ⟨rfl, rfl, rfl⟩, t4.out.low⟩
end Go.Proofs.YthjhaogfpdkhbaaDoor.Sh
/- kit.Ints, kit.Strings: are two the same? (taken from GramSm and GramKi, for seats without rules' ties) -/
namespace Go.Proofs.YthjhaogfpdkhbaaDoor.B
open Go.RowKit YthjhaogfpdkhbaaDoorW.PrintWords YthjhaogfpdkhbaaDoorW.PrintLast YthjhaogfpdkhbaaDoorW.PrintMore

end Go.Proofs.YthjhaogfpdkhbaaDoor.B
/- What Lent and Kept stand on, in this seat. -/

/- kit.Lent..: lists in memory of their own, a mark behind each. -/
namespace Go.Proofs.YthjhaogfpdkhbaaDoor.B
open Go.RowKit YthjhaogfpdkhbaaDoorW.PrintWords YthjhaogfpdkhbaaDoorW.PrintLast YthjhaogfpdkhbaaDoorW.PrintMore

def kmx : Kd (List Int × Bool) where
 sz := 1
 E := [3]
 K := fun w x cs => ∃ A c, cs = [.slice A x.1.length c] ∧ match x.2 with
  | true => x.1.length + 1 ≤ c ∧ Kd.C (Kd.int .i64) w A (x.1.length + 1) (x.1 ++ [-7171])
  | false => x.1.length ≤ c ∧ Kd.C (Kd.int .i64) w A x.1.length x.1
 M := fun w base ok x cs => ∃ A c, cs = [.slice A x.1.length c] ∧ match x.2 with
  | true => Kd.R (Kd.int .i64) 3 w base ok (.slice A (x.1.length + 1) c) (x.1 ++ [-7171])
  | false => Kd.R (Kd.int .i64) 3 w base ok (.slice A x.1.length c) x.1
 K_len := by
  rintro w x cs ⟨A, c, rfl, _⟩
  rfl
 K_one := by
  rintro w x cs ⟨A, c, rfl, _⟩ u hu
  rw [List.mem_singleton.1 hu]
  rfl
 K_below := by
  rintro w w1 ⟨xs, b⟩ cs hb ⟨A, c, rfl, h⟩
  cases b
  · exact ⟨A, c, rfl, h.1, Kd.C_below h.2 hb⟩
  · exact ⟨A, c, rfl, h.1, Kd.C_below h.2 hb⟩
 K_of_M := by
  rintro w base ok ⟨xs, b⟩ cs ⟨A, c, rfl, h⟩
  cases b
  · exact ⟨A, c, rfl, (Kd.R_reads' h).2⟩
  · have := Kd.R_reads' h
    rw [List.length_append, List.length_singleton] at this
    exact ⟨A, c, rfl, this.2⟩
 M_mono := by
  rintro w base ok ok' ⟨xs, b⟩ cs hok ⟨A, c, rfl, h⟩
  cases b
  · exact ⟨A, c, rfl, Kd.R_mono h hok⟩
  · exact ⟨A, c, rfl, Kd.R_mono h hok⟩
 M_bound := by
  rintro w base ok ⟨xs, b⟩ cs ⟨A, c, rfl, h⟩
  cases b
  · exact ⟨A, c, rfl, Kd.R_bound h⟩
  · exact ⟨A, c, rfl, Kd.R_bound h⟩
 M_move := by
  rintro w w1 base ok ⟨xs, b⟩ cs hm ⟨A, c, rfl, h⟩
  cases b
  · exact ⟨A, c, rfl, Kd.R_move h hm⟩
  · exact ⟨A, c, rfl, Kd.R_move h hm⟩
 M_lower := by
  rintro w base base' ok ⟨xs, b⟩ cs hb ⟨A, c, rfl, h⟩
  cases b
  · exact ⟨A, c, rfl, Kd.R_lower h hb⟩
  · exact ⟨A, c, rfl, Kd.R_lower h hb⟩
def kRx : Kd (S52 × Bool) := Kd.iso (Kd.pair (Kd.int .i64) kmx) (fun x => (x.1.f0, (x.1.f1, x.2)))
theorem C_pre {α : Type} {d : Kd α} {w : World} {A : Option Addr} {xs ys : List α} {n : Nat} (h : d.C w A n (xs ++ ys)) : d.C w A xs.length xs := by
 refine ⟨rfl, by have := h.1; have := h.2.1; rw [List.length_append] at *; omega, fun hp => ?_⟩
 obtain ⟨ad, e, hc⟩ := h.2.2 (by have := h.1; rw [List.length_append] at this; omega)
 refine ⟨ad, e, fun j p hj => hc j p ?_⟩
 have hlt := (List.getElem?_eq_some_iff.1 hj).1
 rw [List.getElem?_append_left hlt]; exact hj
theorem C_imp {α β : Type} {d : Kd α} {d' : Kd β} {w : World} {A : Option Addr} {n : Nat} {xs : List α} (f : α → β) (h : d.C w A n xs) (hs : d.sz = d'.sz) (hK : ∀ x c, x ∈ xs → d.K w x c → d'.K w (f x) c) : d'.C w A n (xs.map f) := by
 refine ⟨by rw [List.length_map]; exact h.1, h.2.1, fun hp => ?_⟩
 obtain ⟨ad, e, hc⟩ := h.2.2 hp
 refine ⟨ad, e, fun j p hj => ?_⟩
 rw [List.getElem?_map] at hj
 obtain ⟨x, hx, rfl⟩ := Option.map_eq_some_iff.1 hj
 obtain ⟨c, h1, h2, h3⟩ := hc j x hx
 exact ⟨c, by rw [← hs]; exact h1, hK x c (List.mem_of_getElem? hx) h2, by rw [← hs]; exact h3⟩
def mk1 (l : List S52) : List (S52 × Bool) := l.map fun x => (x, true)
theorem mk1_length (l : List S52) : (mk1 l).length = l.length := by simp [mk1]
def MR (w : World) (A : Option Addr) (c : Nat) (l : List S52) : Prop := l.length + 1 ≤ c ∧ Kd.C kRx w A (l.length + 1) (mk1 l ++ [(⟨-7171, []⟩, false)])
theorem MR.below {w w' : World} {A : Option Addr} {c : Nat} {l : List S52} (h : MR w A c l) (hb : Below w.heap.size w w') : MR w' A c l := ⟨h.1, Kd.C_below h.2 hb⟩
theorem MR.of {w : World} {base : Nat} {ok : Nat → Prop} {A : Option Addr} {c : Nat} {l : List S52} (h : Kd.R kRx 52 w base ok (.slice A (l.length + 1) c) (mk1 l ++ [((⟨-7171, []⟩ : S52), false)])) : MR w A c l := by
 have h1 := Kd.R_reads' h
 refine ⟨h1.2.1, ?_⟩
 rw [h1.1]; exact h1.2.2
theorem kRx_K {w : World} {x : S52} {cs : List Value} (h : kRx.K w (x, true) cs) : k52.K w x cs := by
 obtain ⟨a, b, rfl, h1, A, c, rfl, h2, h3⟩ := h
 dsimp only at h2 h3
 exact ⟨a, _, rfl, h1, A, c, rfl, by dsimp only; omega, C_pre h3⟩
theorem MR.reads {w : World} {A : Option Addr} {c : Nat} {l : List S52} (h : MR w A c l) : Kd.C k52 w A l.length l := by
 have h1 := C_pre h.2
 rw [mk1_length] at h1
 have h2 := C_imp (d := kRx) (d' := k52) (fun x => x.1) h1 rfl (fun x c hx hk => by
  obtain ⟨y, _, rfl⟩ := List.mem_map.1 hx
  exact kRx_K hk)
 have : (mk1 l).map (fun x => x.1) = l := List.ext_getElem (by simp [mk1]) (fun i h1 h2 => by simp [mk1])
 rwa [this] at h2

set_option maxHeartbeats 4000000 in
set_option maxRecDepth 100000 in
theorem LentInts_m (A0 : Option Addr) (c0 : Nat) (l : List Int) (w : World) (hr : Kd.C (Kd.int .i64) w A0 l.length l) (hl : l.length < 17592186044415) :
 Calls Tryd.prog 11 #[.slice A0 l.length c0] w fun e w' => ∃ A c, e = .returned (.slice A l.length c) ∧ Aside0 (Kd.R (Kd.int .i64) 3 w' w.heap.size (fun _ => True) (.slice A (l.length + 1) c) (l ++ [(-7171)]) ∧ Below w.heap.size w w') := by
 obtain ⟨y1, hy1⟩ : ∃ y_ : List Int, y_ = ([] : List Int) ++ l := ⟨_, rfl⟩
 obtain ⟨y2, hy2⟩ : ∃ y_ : List Int, y_ = y1 ++ [(-7171)] := ⟨_, rfl⟩
 have q8 : y1.length < 17592186044415 := by rw [hy1]; simpa using hl
 have q9 : ((l.length : Int)) ≤ ((y2.length : Int)) := by rw [hy2, hy1]; simp; omega
 have q7 : ([] : List Int).length + l.length < 17592186044415 := by simpa using hl
 have hy3 : y2.length = l.length + 1 := by rw [hy2, hy1]; simp
 have hy4 : y2 = l ++ [(-7171)] := by rw [hy2, hy1]; simp
 have HR0 := Aside0.mk hr
 have HB := Aside0.mk (Below.refl w.heap.size w)
 have N1 := Aside0.mk hy1
 have N2 := Aside0.mk hy2
 have N3 := Aside0.mk hy3
 have N4 := Aside0.mk hy4
 have Q7 := Aside0.mk q7
 have Q8 := Aside0.mk q8
 have Q9 := Aside0.mk q9
 clear hr hy1 hy2 hy3 hy4 q7 q8 q9 hl
 go_enter Tryd.func11, Tryd.ntmps11
 go_wp2_with (first
  | ((with_reducible refine gate_builtin (b := .append) (xs := #[.tmp 4, .tmp 5]) rfl ?_); at_builtin; refine Kd.R_append_rows (Kd.int .i64) (w0 := w) w.heap.size rfl (.tmp 4) (.tmp 5) 26 3 (.int .i64 0) 8 rfl Tryd.underlying26 info3 rfl (by decide) (by omega) (.slice none 0 0) ([] : List Int) l _ _ _ (fun _ => True) (fun _ => False) rfl rfl ?aO ?aR (fun _ _ h => h) (fun _ h => h.elim) ?aF ?aB ?aS ?aL ?_; (case aR => exact HR0.out); (case aB => exact HB.out); (case aF => exact (fun _ _ => trivial)); (case aO => exact ((Kd.R_nil _ _ _ _ (fun _ => True)))); (case aS => exact Nat.le_refl _); (case aL => have := Q7.out; omega); intro v1 w1 ho hb hg hat; rw [← N1.out] at ho; have n0_ := Aside0.mk hb; have n1_ := Aside0.mk ho; clear HB; have HB := n0_; have HO1 := n1_; clear n0_ n1_ ho hb hg hat)
  | ((with_reducible refine gate_builtin (b := .append) (xs := #[.tmp 7, .tmp 8]) rfl ?_); at_builtin; refine Kd.R_append (Kd.int .i64) (w0 := w) w.heap.size rfl (.tmp 7) (.tmp 8) 26 3 (.int .i64 0) 8 rfl Tryd.underlying26 info3 rfl (by decide) (by omega) v1 y1 (-7171) [.int .i64 (-7171)] (fun _ => True) (fun _ => False) rfl rfl ?aP (fun _ hk => hk.elim) ?aF ?aO ?aB ?aS ?aL ?_; (case aP => exact rfl); (case aB => exact HB.out); (case aF => exact (fun _ _ => trivial)); (case aO => exact HO1.out); (case aS => exact (below_size HB.out)); (case aL => have := Q8.out; omega); intro v2 w2 ho hb hg hat; rw [← N2.out] at ho; have n0_ := Aside0.mk hb; have n1_ := Aside0.mk ho; clear HB HO1; have HB := n0_; have HO2 := n1_; clear n0_ n1_ ho hb hg hat; obtain ⟨Ao, co, eo⟩ := Kd.R_slice HO2.out; subst eo; obtain ⟨i0, hi0, _, hsz0, _⟩ := info_parts info3; have hcut := cut_to (P := Tryd.prog) 26 3 .i64 Tryd.underlying26 hi0 Ao y2.length co (l.length : Int) (by omega) Q9.out (Kd.R_reads' HO2.out).2.1; clear hi0 hsz0))
 go_ret
 refine ⟨Ao, co, rfl, ⟨?_, HB.out⟩⟩
 have h := HO2.out
 rw [N3.out] at h
 rw [← N4.out]
 exact h

set_option maxHeartbeats 4000000 in
set_option maxRecDepth 100000 in
theorem LentStrings_m (A0 : Option Addr) (c0 : Nat) (l : List ByteArray) (w : World) (hr : Kd.C Kd.string w A0 l.length l) (hl : l.length < 8796093022207) :
 Calls Tryd.prog 49 #[.slice A0 l.length c0] w fun e w' => ∃ A c, e = .returned (.slice A l.length c) ∧ Aside0 (Kd.R Kd.string 9 w' w.heap.size (fun _ => True) (.slice A (l.length + 1) c) (l ++ [(⟨#[109, 97, 114, 107]⟩ : ByteArray)]) ∧ Below w.heap.size w w') := by
 obtain ⟨y1, hy1⟩ : ∃ y_ : List ByteArray, y_ = ([] : List ByteArray) ++ l := ⟨_, rfl⟩
 obtain ⟨y2, hy2⟩ : ∃ y_ : List ByteArray, y_ = y1 ++ [(⟨#[109, 97, 114, 107]⟩ : ByteArray)] := ⟨_, rfl⟩
 have q8 : y1.length < 8796093022207 := by rw [hy1]; simpa using hl
 have q9 : ((l.length : Int)) ≤ ((y2.length : Int)) := by rw [hy2, hy1]; simp; omega
 have q7 : ([] : List ByteArray).length + l.length < 8796093022207 := by simpa using hl
 have hy3 : y2.length = l.length + 1 := by rw [hy2, hy1]; simp
 have hy4 : y2 = l ++ [(⟨#[109, 97, 114, 107]⟩ : ByteArray)] := by rw [hy2, hy1]; simp
 have HR0 := Aside0.mk hr
 have HB := Aside0.mk (Below.refl w.heap.size w)
 have N1 := Aside0.mk hy1
 have N2 := Aside0.mk hy2
 have N3 := Aside0.mk hy3
 have N4 := Aside0.mk hy4
 have Q7 := Aside0.mk q7
 have Q8 := Aside0.mk q8
 have Q9 := Aside0.mk q9
 clear hr hy1 hy2 hy3 hy4 q7 q8 q9 hl
 go_enter Tryd.func49, Tryd.ntmps49
 go_wp2_with (first
  | ((with_reducible refine gate_builtin (b := .append) (xs := #[.tmp 4, .tmp 5]) rfl ?_); at_builtin; refine Kd.R_append_rows Kd.string (w0 := w) w.heap.size rfl (.tmp 4) (.tmp 5) 22 9 (.string ⟨#[]⟩) 16 rfl Tryd.underlying22 info9 rfl (by decide) (by omega) (.slice none 0 0) ([] : List ByteArray) l _ _ _ (fun _ => True) (fun _ => False) rfl rfl ?aO ?aR (fun _ _ h => h) (fun _ h => h.elim) ?aF ?aB ?aS ?aL ?_; (case aR => exact HR0.out); (case aB => exact HB.out); (case aF => exact (fun _ _ => trivial)); (case aO => exact ((Kd.R_nil _ _ _ _ (fun _ => True)))); (case aS => exact Nat.le_refl _); (case aL => have := Q7.out; omega); intro v1 w1 ho hb hg hat; rw [← N1.out] at ho; have n0_ := Aside0.mk hb; have n1_ := Aside0.mk ho; clear HB; have HB := n0_; have HO1 := n1_; clear n0_ n1_ ho hb hg hat)
  | ((with_reducible refine gate_builtin (b := .append) (xs := #[.tmp 7, .tmp 8]) rfl ?_); at_builtin; refine Kd.R_append Kd.string (w0 := w) w.heap.size rfl (.tmp 7) (.tmp 8) 22 9 (.string ⟨#[]⟩) 16 rfl Tryd.underlying22 info9 rfl (by decide) (by omega) v1 y1 (⟨#[109, 97, 114, 107]⟩ : ByteArray) [.string ⟨#[109, 97, 114, 107]⟩] (fun _ => True) (fun _ => False) rfl rfl ?aP (fun _ hk => hk.elim) ?aF ?aO ?aB ?aS ?aL ?_; (case aP => exact rfl); (case aB => exact HB.out); (case aF => exact (fun _ _ => trivial)); (case aO => exact HO1.out); (case aS => exact (below_size HB.out)); (case aL => have := Q8.out; omega); intro v2 w2 ho hb hg hat; rw [← N2.out] at ho; have n0_ := Aside0.mk hb; have n1_ := Aside0.mk ho; clear HB HO1; have HB := n0_; have HO2 := n1_; clear n0_ n1_ ho hb hg hat; obtain ⟨Ao, co, eo⟩ := Kd.R_slice HO2.out; subst eo; obtain ⟨i0, hi0, _, hsz0, _⟩ := info_parts info9; have hcut := cut_to (P := Tryd.prog) 22 9 .i64 Tryd.underlying22 hi0 Ao y2.length co (l.length : Int) (by omega) Q9.out (Kd.R_reads' HO2.out).2.1; clear hi0 hsz0))
 go_ret
 refine ⟨Ao, co, rfl, ⟨?_, HB.out⟩⟩
 have h := HO2.out
 rw [N3.out] at h
 rw [← N4.out]
 exact h

set_option maxHeartbeats 8000000 in
set_option maxRecDepth 100000 in
theorem LentRules_m (A0 : Option Addr) (c0 : Nat) (l : List S52) (w : World) (hr : Kd.C k52 w A0 l.length l) (hl : l.length < 4398046511104) (hx : ∀ x ∈ l, x.f1.length < 17592186044415) :
 Calls Tryd.prog 50 #[.slice A0 l.length c0] w fun e w' => ∃ A c, e = .returned (.slice A l.length c) ∧ Aside0 (Kd.R kRx 52 w' w.heap.size (fun _ => True) (.slice A (l.length + 1) c) (mk1 l ++ [((⟨-7171, []⟩ : S52), false)]) ∧ Below w.heap.size w w') := by
 have HR0 := Aside0.mk hr
 have HX := Aside0.mk hx
 have HL := Aside0.mk hl
 have hm := C_max hr
 have HU := Aside0.mk (show True from trivial)
 clear hr hx hl
 go_enter Tryd.func50, Tryd.ntmps50
 go_wp2_with fail
 go_loopw [3, 4, 5] (fun v i _ wr => ∃ k : Nat, k ≤ l.length ∧ i = .int .i64 k ∧ Aside0 (Kd.R kRx 52 wr w.heap.size (fun _ => True) v (mk1 (l.take k)) ∧ Below w.heap.size w wr)) (fun _ i _ _ => l.length - (intOf i).toNat)
 case atStart => exact ⟨0, Nat.zero_le _, rfl, ⟨by simpa [mk1] using Kd.R_nil kRx _ w w.heap.size (fun _ => True), Below.refl _ w⟩⟩
 case round =>
  obtain ⟨k, hk, rfl, tr⟩ := hrel
  by_cases hlt : k < l.length
  · obtain ⟨ad, A, c, rfl, h0, h1, h2, h3⟩ := at_T52 (Kd.C_below HR0.out tr.out.2) (k : Int) (by omega) (by omega)
    have q0 : rd_T52 l (k : Int) = l[k] := by simp [rd_T52, List.getD_eq_getElem?_getD, List.getElem?_eq_getElem hlt]
    have hxk := HX.out l[k] (List.getElem_mem hlt)
    have hnx : mk1 (l.take (k + 1)) = mk1 (l.take k) ++ [(l[k], true)] := by rw [mk1, List.take_succ_eq_append_getElem hlt, List.map_append]; rfl
    rw [Int.toNat_natCast] at h0 h1
    rw [q0] at h0 h1 h2 h3
    generalize l[k] = x at h0 h1 h2 h3 hxk hnx
    have hcall : Calls Tryd.prog 11 #[.slice A x.f1.length c] wr fun e w' => ∃ A' c', e = .returned (.slice A' x.f1.length c') ∧ Aside0 (Kd.R (Kd.int .i64) 3 w' w.heap.size (fun k_ => some k_ = (.slice A' (x.f1.length + 1) c' : Value).ownBlock) (.slice A' (x.f1.length + 1) c') (x.f1 ++ [-7171]) ∧ Kd.R kRx 52 w' w.heap.size (fun _ => True) u3 (mk1 (l.take k)) ∧ Below w.heap.size w w') ∧ w'.cell? (ad.add (k * 2)) = some (.int .i64 x.f0) := by
     refine (LentInts_m A c x.f1 wr h3 hxk).mono ?_
     rintro e w' ⟨A', c', rfl, h⟩
     exact ⟨A', c', rfl, ⟨Kd.R_lower (Kd.R_tight rfl h.out.1) (below_size tr.out.2), Kd.R_below tr.out.1 h.out.2, tr.out.2.trans (h.out.2.mono (below_size tr.out.2))⟩, (h.out.2.cell (World.block_lt_of_cell? wr _ h0)).trans h0⟩
    have HC := Aside0.mk hcall
    have HN := Aside0.mk hnx
    clear hcall h2 h3 q0 hxk hnx
    go_wp2_with (first
     | (go_at_call 11; (with_reducible refine HC.out.mono ?_); rintro e w6 ⟨A', c', rfl, t6, e0⟩)
     | ((with_reducible refine gate_builtin (b := .append) (xs := #[.tmp 18, .tmp 26]) rfl ?_); at_builtin; refine Kd.R_append kRx (w0 := w) w.heap.size rfl (.tmp 18) (.tmp 26) 23 52 (.agg #[(.int .i64 0), (.slice none 0 0)]) 32 rfl Tryd.underlying23 info52 rfl (by decide) (by omega) u3 (mk1 (l.take k)) (x, true) [.int .i64 x.f0, .slice A' x.f1.length c'] (fun _ => True) (fun k_ => some k_ = (.slice A' (x.f1.length + 1) c' : Value).ownBlock) rfl rfl ?aP ?aA ?aF ?aO ?aB ?aS ?aL ?_; (case aP => exact ⟨[.int .i64 x.f0], [.slice A' x.f1.length c'], rfl, rfl, A', c', rfl, t6.out.1⟩); (case aA => exact (fun k_ hk_ => ⟨trivial, ((Kd.R_apart' t6.out.1 (Kd.R_typed t6.out.2.1) (by decide)).1 k_ hk_.symm).2⟩)); (case aB => exact t6.out.2.2); (case aF => exact (fun _ _ => trivial)); (case aO => exact t6.out.2.1); (case aS => exact (below_size t6.out.2.2)); (case aL => have := HL.out; simp only [mk1_length, List.length_take]; omega); intro v8 w8 ho hb hg hat; rw [← HN.out] at ho; have n0_ := Aside0.mk hb; have n1_ := Aside0.mk ho; clear ho hb hg hat))
    go_roundw
    case measure => simp [intOf]; omega
    case rel => exact ⟨k + 1, by omega, rfl, ⟨n1_.out, n0_.out⟩⟩
  · have hkn : k = l.length := by omega
    subst hkn
    have h1 : Kd.R kRx 52 wr w.heap.size (fun _ => True) u3 (mk1 l) := by have := tr.out.1; rwa [List.take_length] at this
    obtain ⟨y2, hy2⟩ : ∃ y_, y_ = mk1 l ++ [((⟨-7171, []⟩ : S52), false)] := ⟨_, rfl⟩
    have q9 : ((l.length : Int)) ≤ ((y2.length : Int)) := by rw [hy2]; simp [mk1_length]; omega
    have hy3 : y2.length = l.length + 1 := by rw [hy2]; simp [mk1_length]
    have N2 := Aside0.mk hy2
    have N3 := Aside0.mk hy3
    have Q9 := Aside0.mk q9
    have H1 := Aside0.mk h1
    clear hy2 hy3 q9 h1
    go_wp2_with (first
     | ((with_reducible refine gate_builtin (b := .append) (xs := #[.tmp 28, .tmp 30]) rfl ?_); at_builtin; refine Kd.R_append kRx (w0 := w) w.heap.size rfl (.tmp 28) (.tmp 30) 23 52 (.agg #[(.int .i64 0), (.slice none 0 0)]) 32 rfl Tryd.underlying23 info52 rfl (by decide) (by omega) u3 (mk1 l) ((⟨-7171, []⟩ : S52), false) [.int .i64 (-7171), .slice none 0 0] (fun _ => True) (fun _ => False) rfl rfl ?aP (fun k_ hk_ => hk_.elim) ?aF ?aO ?aB ?aS ?aL ?_; (case aP => exact ⟨[.int .i64 (-7171)], [.slice none 0 0], rfl, rfl, none, 0, rfl, Kd.R_nil _ _ _ _ _⟩); (case aB => exact tr.out.2); (case aF => exact (fun _ _ => trivial)); (case aO => exact H1.out); (case aS => exact (below_size tr.out.2)); (case aL => have := HL.out; simp only [mk1_length]; omega); intro v2 w2 ho hb hg hat; rw [← N2.out] at ho; have n0_ := Aside0.mk hb; have n1_ := Aside0.mk ho; clear ho hb hg hat; obtain ⟨Ao, co, eo⟩ := Kd.R_slice n1_.out; subst eo; obtain ⟨i0, hi0, _, hsz0, _⟩ := info_parts info52; have hcut := cut_to (P := Tryd.prog) 23 52 .i64 Tryd.underlying23 hi0 Ao y2.length co (l.length : Int) (by omega) Q9.out (Kd.R_reads' n1_.out).2.1; clear hi0 hsz0))
    go_ret
    refine ⟨Ao, co, rfl, ⟨?_, n0_.out⟩⟩
    have h := n1_.out
    rw [N3.out] at h
    rw [← N2.out]
    exact h
end Go.Proofs.YthjhaogfpdkhbaaDoor.B
/- kit.Kept..: what was lent is as it was. -/
namespace Go.Proofs.YthjhaogfpdkhbaaDoor.B
open Go.RowKit YthjhaogfpdkhbaaDoorW.PrintWords YthjhaogfpdkhbaaDoorW.PrintLast YthjhaogfpdkhbaaDoorW.PrintMore

theorem MR.cells {w : World} {ad : Addr} {c : Nat} {l : List S52} (h : MR w (some ad) c l) (i : Nat) (hi : i < l.length) : ∃ A1 c1, w.cell? (ad.add (i * 2)) = some (.int .i64 l[i].f0) ∧ w.cell? ⟨(ad.add (i * 2)).block, (ad.add (i * 2)).off + 1, none⟩ = some (.slice A1 l[i].f1.length c1) ∧ l[i].f1.length + 1 ≤ c1 ∧ Kd.C (Kd.int .i64) w A1 (l[i].f1.length + 1) (l[i].f1 ++ [-7171]) := by
 obtain ⟨ad', e, hc⟩ := h.2.2.2 (by omega)
 obtain rfl := Option.some.inj e
 obtain ⟨cs, h1, h2, h3⟩ := hc i (l[i], true) (by rw [List.getElem?_append_left (by rw [mk1_length]; exact hi)]; simp [mk1, List.getElem?_eq_getElem hi])
 obtain ⟨a, b, rfl, q1, A1, c1, rfl, q2⟩ := h2
 have q1' : a = [.int .i64 l[i].f0] := q1
 subst q1'
 refine ⟨A1, c1, h3 0 _ rfl, ?_, q2.1, q2.2⟩
 rw [← add_field _ _ 1 (by omega)]
 exact h3 1 _ rfl
end Go.Proofs.YthjhaogfpdkhbaaDoor.B
/- kit.LentGrammar, kit.KeptGrammar. -/
namespace Go.Proofs.YthjhaogfpdkhbaaDoor.B
open Go.RowKit YthjhaogfpdkhbaaDoorW.PrintWords YthjhaogfpdkhbaaDoorW.PrintLast YthjhaogfpdkhbaaDoorW.PrintMore

structure MG (w : World) (A0 : Option Addr) (c0 : Nat) (l0 : List ByteArray) (A1 : Option Addr) (c1 : Nat) (l1 : List ByteArray) (A3 : Option Addr) (c3 : Nat) (l3 : List S52) : Prop where
 h0 : l0.length + 1 ≤ c0
 r0 : Kd.C Kd.string w A0 (l0.length + 1) (l0 ++ [(⟨#[109, 97, 114, 107]⟩ : ByteArray)])
 h1 : l1.length + 1 ≤ c1
 r1 : Kd.C Kd.string w A1 (l1.length + 1) (l1 ++ [(⟨#[109, 97, 114, 107]⟩ : ByteArray)])
 r3 : MR w A3 c3 l3
theorem MG.below {w w' : World} {A0 A1 A3 : Option Addr} {c0 c1 c3 : Nat} {l0 l1 : List ByteArray} {l3 : List S52} (h : MG w A0 c0 l0 A1 c1 l1 A3 c3 l3) (hb : Below w.heap.size w w') : MG w' A0 c0 l0 A1 c1 l1 A3 c3 l3 :=
 ⟨h.h0, Kd.C_below h.r0 hb, h.h1, Kd.C_below h.r1 hb, h.r3.below hb⟩
def GG (w : World) (cs cs' : Array Value) (W : World) : Prop := Below w.heap.size w W ∧ Box w.heap.size cs 25 W ∧ Box (w.heap.size + 1) cs' 25 W
theorem GG.low {w : World} {cs cs' : Array Value} {W : World} (h : GG w cs cs' W) : Below w.heap.size w W := h.1
theorem GG.start (w : World) (cs cs' : Array Value) : GG w cs cs' ((w.alloc (.cells cs 25)).alloc (.cells cs' 25)) :=
 ⟨((Below.refl _ w).alloc (Nat.le_refl _) _).alloc (by simp) _, (Box.new w _ _).alloc _, by have := Box.new (w.alloc (.cells cs 25)) cs' 25; simpa using this⟩
theorem GG.more {w : World} {cs cs' : Array Value} {W W' : World} (h : GG w cs cs' W) (hb : Below W.heap.size W W') : GG w cs cs' W' := ⟨h.1.trans (hb.mono h.1.size), h.2.1.below hb, h.2.2.below hb⟩
theorem GG.two {w : World} {cs cs' : Array Value} {W : World} (h : GG w cs cs' W) : w.heap.size + 2 ≤ W.heap.size := by
 have h2 : W.heap[w.heap.size + 1]? = some (.cells cs' 25 (0, 0)) := h.2.2
 rcases Nat.lt_or_ge (w.heap.size + 1) W.heap.size with h1 | h1
 · exact h1
 · rw [Array.getElem?_eq_none h1] at h2; cases h2
theorem GG.cells {w : World} {v0 v1 v2 v3 u0 u1 u2 u3 : Value} {W : World} (h : GG w #[v0, v1, v2, v3] #[u0, u1, u2, u3] W) : (W.cell? ⟨w.heap.size, 0, none⟩ = some v0 ∧ W.cell? ⟨w.heap.size, 1, none⟩ = some v1 ∧ W.cell? ⟨w.heap.size, 2, none⟩ = some v2 ∧ W.cell? ⟨w.heap.size, 3, none⟩ = some v3) ∧
 W.cell? ⟨w.heap.size + 1, 0, none⟩ = some u0 ∧ W.cell? ⟨w.heap.size + 1, 1, none⟩ = some u1 ∧ W.cell? ⟨w.heap.size + 1, 2, none⟩ = some u2 ∧ W.cell? ⟨w.heap.size + 1, 3, none⟩ = some u3 :=
 ⟨⟨h.2.1.cell 0 _ rfl, h.2.1.cell 1 _ rfl, h.2.1.cell 2 _ rfl, h.2.1.cell 3 _ rfl⟩, h.2.2.cell 0 _ rfl, h.2.2.cell 1 _ rfl, h.2.2.cell 2 _ rfl, h.2.2.cell 3 _ rfl⟩
set_option maxHeartbeats 8000000 in
set_option maxRecDepth 100000 in
theorem LentGrammar_m (A0 : Option Addr) (c0 : Nat) (l0 : List ByteArray) (A1 : Option Addr) (c1 : Nat) (l1 : List ByteArray) (a2 : Int) (A3 : Option Addr) (c3 : Nat) (l3 : List S52) (w : World) (hr0 : Kd.C Kd.string w A0 l0.length l0) (hr1 : Kd.C Kd.string w A1 l1.length l1) (hr3 : Kd.C k52 w A3 l3.length l3)
 (b0 : l0.length < 8796093022207) (b1 : l1.length < 8796093022207) (b3 : l3.length < 4398046511104) (bx : ∀ x ∈ l3, x.f1.length < 17592186044415) :
 Calls Tryd.prog 10 #[.agg #[.slice A0 l0.length c0, .slice A1 l1.length c1, .int .i64 a2, .slice A3 l3.length c3]] w fun e w' => ∃ B0 d0 B1 d1 B3 d3, e = .returned (.agg #[.slice B0 l0.length d0, .slice B1 l1.length d1, .int .i64 a2, .slice B3 l3.length d3]) ∧ Aside0 (MG w' B0 d0 l0 B1 d1 l1 B3 d3 l3 ∧ Below w.heap.size w w') := by
 obtain ⟨cs, hcs⟩ : ∃ cs : Array Value, cs = #[.slice A0 l0.length c0, .slice A1 l1.length c1, .int .i64 a2, .slice A3 l3.length c3] := ⟨_, rfl⟩
 obtain ⟨cs', hcs'⟩ : ∃ cs : Array Value, cs = #[.slice none 0 0, .slice none 0 0, .int .i64 0, .slice none 0 0] := ⟨_, rfl⟩
 have CE : ∀ W, GG w cs cs' W → W.cell? ⟨w.heap.size, 0, none⟩ = some (.slice A0 l0.length c0) ∧ W.cell? ⟨w.heap.size, 1, none⟩ = some (.slice A1 l1.length c1) ∧ W.cell? ⟨w.heap.size, 2, none⟩ = some (.int .i64 a2) ∧ W.cell? ⟨w.heap.size, 3, none⟩ = some (.slice A3 l3.length c3) ∧ W.heap[w.heap.size + 1]? = some (.cells #[.slice none 0 0, .slice none 0 0, .int .i64 0, .slice none 0 0] 25 (0, 0)) := by
  intro W hW; subst hcs hcs'; obtain ⟨⟨h0, h1, h2, h3⟩, _⟩ := hW.cells; exact ⟨h0, h1, h2, h3, hW.2.2⟩
 have st : GG w cs cs' ((w.alloc (.cells #[.slice A0 l0.length c0, .slice A1 l1.length c1, .int .i64 a2, .slice A3 l3.length c3] 25)).alloc (.cells #[.slice none 0 0, .slice none 0 0, .int .i64 0, .slice none 0 0] 25)) := by subst hcs hcs'; exact GG.start w _ _
 have SF : ∀ W', GG w cs cs' W' → (W'.cell? ⟨w.heap.size, 0, none⟩ = some (.slice A0 l0.length c0) ∧ W'.cell? ⟨w.heap.size, 1, none⟩ = some (.slice A1 l1.length c1) ∧ W'.cell? ⟨w.heap.size, 2, none⟩ = some (.int .i64 a2) ∧ W'.cell? ⟨w.heap.size, 3, none⟩ = some (.slice A3 l3.length c3) ∧ W'.cell? ⟨w.heap.size + 1, 0, none⟩ = some (.slice none 0 0) ∧ W'.cell? ⟨w.heap.size + 1, 1, none⟩ = some (.slice none 0 0) ∧ W'.cell? ⟨w.heap.size + 1, 2, none⟩ = some (.int .i64 0) ∧ W'.cell? ⟨w.heap.size + 1, 3, none⟩ = some (.slice none 0 0) ∧ W'.frozen? ⟨w.heap.size + 1, 0, none⟩ = false ∧ W'.frozen? ⟨w.heap.size + 1, 1, none⟩ = false ∧ W'.frozen? ⟨w.heap.size + 1, 2, none⟩ = false ∧ W'.frozen? ⟨w.heap.size + 1, 3, none⟩ = false) := by
  intro W' hW
  obtain ⟨h0, h1, h2, h3, h4⟩ := CE W' hW
  have hb : Box (w.heap.size + 1) #[.slice none 0 0, .slice none 0 0, .int .i64 0, .slice none 0 0] 25 W' := h4
  have hf : ∀ j, W'.frozen? ⟨w.heap.size + 1, j, none⟩ = false := fun j => by unfold World.frozen?; rw [show W'.heap[(⟨w.heap.size + 1, j, none⟩ : Addr).block]? = _ from h4]; rfl
  exact ⟨h0, h1, h2, h3, hb.cell 0 _ rfl, hb.cell 1 _ rfl, hb.cell 2 _ rfl, hb.cell 3 _ rfl, hf 0, hf 1, hf 2, hf 3⟩
 have k0 : ∀ W, GG w cs cs' W → Calls Tryd.prog 49 #[.slice A0 l0.length c0] W fun e W' => (∃ B d, e = .returned (.slice B l0.length d) ∧ Aside0 (Kd.R Kd.string 9 W' w.heap.size (fun k => w.heap.size + 2 ≤ k) (.slice B (l0.length + 1) d) (l0 ++ [(⟨#[109, 97, 114, 107]⟩ : ByteArray)]) ∧ GG w cs cs' W' ∧ Below W.heap.size W W')) ∧ (W'.cell? ⟨w.heap.size, 0, none⟩ = some (.slice A0 l0.length c0) ∧ W'.cell? ⟨w.heap.size, 1, none⟩ = some (.slice A1 l1.length c1) ∧ W'.cell? ⟨w.heap.size, 2, none⟩ = some (.int .i64 a2) ∧ W'.cell? ⟨w.heap.size, 3, none⟩ = some (.slice A3 l3.length c3) ∧ W'.cell? ⟨w.heap.size + 1, 0, none⟩ = some (.slice none 0 0) ∧ W'.cell? ⟨w.heap.size + 1, 1, none⟩ = some (.slice none 0 0) ∧ W'.cell? ⟨w.heap.size + 1, 2, none⟩ = some (.int .i64 0) ∧ W'.cell? ⟨w.heap.size + 1, 3, none⟩ = some (.slice none 0 0) ∧ W'.frozen? ⟨w.heap.size + 1, 0, none⟩ = false ∧ W'.frozen? ⟨w.heap.size + 1, 1, none⟩ = false ∧ W'.frozen? ⟨w.heap.size + 1, 2, none⟩ = false ∧ W'.frozen? ⟨w.heap.size + 1, 3, none⟩ = false) := by
  intro W hW
  refine (LentStrings_m A0 c0 l0 W (Kd.C_below hr0 hW.low) b0).mono ?_
  rintro e w' ⟨B, d, rfl, h⟩
  exact ⟨⟨B, d, rfl, ⟨Kd.R_lower (Kd.R_mono (Kd.R_bound h.out.1) (fun k hk => Nat.le_trans hW.two hk.2.1)) (Nat.le_trans (by omega) hW.two), hW.more h.out.2, h.out.2⟩⟩, SF _ (hW.more h.out.2)⟩
 have k1 : ∀ W, GG w cs cs' W → Calls Tryd.prog 49 #[.slice A1 l1.length c1] W fun e W' => (∃ B d, e = .returned (.slice B l1.length d) ∧ Aside0 (Kd.R Kd.string 9 W' w.heap.size (fun k => w.heap.size + 2 ≤ k) (.slice B (l1.length + 1) d) (l1 ++ [(⟨#[109, 97, 114, 107]⟩ : ByteArray)]) ∧ GG w cs cs' W' ∧ Below W.heap.size W W')) ∧ (W'.cell? ⟨w.heap.size, 0, none⟩ = some (.slice A0 l0.length c0) ∧ W'.cell? ⟨w.heap.size, 1, none⟩ = some (.slice A1 l1.length c1) ∧ W'.cell? ⟨w.heap.size, 2, none⟩ = some (.int .i64 a2) ∧ W'.cell? ⟨w.heap.size, 3, none⟩ = some (.slice A3 l3.length c3) ∧ W'.cell? ⟨w.heap.size + 1, 0, none⟩ = some (.slice none 0 0) ∧ W'.cell? ⟨w.heap.size + 1, 1, none⟩ = some (.slice none 0 0) ∧ W'.cell? ⟨w.heap.size + 1, 2, none⟩ = some (.int .i64 0) ∧ W'.cell? ⟨w.heap.size + 1, 3, none⟩ = some (.slice none 0 0) ∧ W'.frozen? ⟨w.heap.size + 1, 0, none⟩ = false ∧ W'.frozen? ⟨w.heap.size + 1, 1, none⟩ = false ∧ W'.frozen? ⟨w.heap.size + 1, 2, none⟩ = false ∧ W'.frozen? ⟨w.heap.size + 1, 3, none⟩ = false) := by
  intro W hW
  refine (LentStrings_m A1 c1 l1 W (Kd.C_below hr1 hW.low) b1).mono ?_
  rintro e w' ⟨B, d, rfl, h⟩
  exact ⟨⟨B, d, rfl, ⟨Kd.R_lower (Kd.R_mono (Kd.R_bound h.out.1) (fun k hk => Nat.le_trans hW.two hk.2.1)) (Nat.le_trans (by omega) hW.two), hW.more h.out.2, h.out.2⟩⟩, SF _ (hW.more h.out.2)⟩
 have k3 : ∀ W, GG w cs cs' W → Calls Tryd.prog 50 #[.slice A3 l3.length c3] W fun e W' => (∃ B d, e = .returned (.slice B l3.length d) ∧ Aside0 (Kd.R kRx 52 W' w.heap.size (fun k => w.heap.size + 2 ≤ k) (.slice B (l3.length + 1) d) (mk1 l3 ++ [((⟨-7171, []⟩ : S52), false)]) ∧ GG w cs cs' W' ∧ Below W.heap.size W W')) ∧ (W'.cell? ⟨w.heap.size, 0, none⟩ = some (.slice A0 l0.length c0) ∧ W'.cell? ⟨w.heap.size, 1, none⟩ = some (.slice A1 l1.length c1) ∧ W'.cell? ⟨w.heap.size, 2, none⟩ = some (.int .i64 a2) ∧ W'.cell? ⟨w.heap.size, 3, none⟩ = some (.slice A3 l3.length c3) ∧ W'.cell? ⟨w.heap.size + 1, 0, none⟩ = some (.slice none 0 0) ∧ W'.cell? ⟨w.heap.size + 1, 1, none⟩ = some (.slice none 0 0) ∧ W'.cell? ⟨w.heap.size + 1, 2, none⟩ = some (.int .i64 0) ∧ W'.cell? ⟨w.heap.size + 1, 3, none⟩ = some (.slice none 0 0) ∧ W'.frozen? ⟨w.heap.size + 1, 0, none⟩ = false ∧ W'.frozen? ⟨w.heap.size + 1, 1, none⟩ = false ∧ W'.frozen? ⟨w.heap.size + 1, 2, none⟩ = false ∧ W'.frozen? ⟨w.heap.size + 1, 3, none⟩ = false) := by
  intro W hW
  refine (LentRules_m A3 c3 l3 W (Kd.C_below hr3 hW.low) b3 bx).mono ?_
  rintro e w' ⟨B, d, rfl, h⟩
  exact ⟨⟨B, d, rfl, ⟨Kd.R_lower (Kd.R_mono (Kd.R_bound h.out.1) (fun k hk => Nat.le_trans hW.two hk.2.1)) (Nat.le_trans (by omega) hW.two), hW.more h.out.2, h.out.2⟩⟩, SF _ (hW.more h.out.2)⟩
 obtain ⟨f0, f1, f2, f3, f4, f5, f6, f7, f8, f9, f10, f11⟩ := SF _ st
 have ST := Aside0.mk st
 have HCS := Lib.hid hcs
 have HCS' := Lib.hid hcs'
 have K0 := Aside0.mk k0
 have K1 := Aside0.mk k1
 have K3 := Aside0.mk k3
 clear CE st k0 k1 k3 hr0 hr1 hr3 hcs hcs' SF bx
 go_enter Tryd.func10, Tryd.ntmps10
 go_wp2_with fail
 go_region_held3 (fun W' => W'.cell? ⟨w.heap.size, 0, none⟩ = some (.slice A0 l0.length c0) ∧ W'.cell? ⟨w.heap.size, 1, none⟩ = some (.slice A1 l1.length c1) ∧ W'.cell? ⟨w.heap.size, 2, none⟩ = some (.int .i64 a2) ∧ W'.cell? ⟨w.heap.size, 3, none⟩ = some (.slice A3 l3.length c3))
  (go_keep)
  ((first
   | (go_at_call 49; (with_reducible refine (K0.out _ ?_).mono ?_); exact (by first | exact ST.out | exact ST.out.more (Below.refl _ _).drew); rintro e w1 ⟨⟨B0, d0, rfl, t1⟩, g0, g1, g2, g3, g4, g5, g6, g7, g8, g9, g10, g11⟩)
   | (go_at_call 49; (with_reducible refine (K1.out _ t1.out.2.1).mono ?_); rintro e w2 ⟨⟨B1, d1, rfl, t2⟩, g0, g1, g2, g3, g4, g5, g6, g7, g8, g9, g10, g11⟩)
   | (go_at_call 50; (with_reducible refine (K3.out _ t2.out.2.1).mono ?_); rintro e w3 ⟨⟨B3, d3, rfl, t3⟩, g0, g1, g2, g3, g4, g5, g6, g7, g8, g9, g10, g11⟩)))
 go_wp2_with fail
 refine bodyPost_ret (v := .agg #[.slice B0 l0.length d0, .slice B1 l1.length d1, .int .i64 a2, .slice B3 l3.length d3]) (by simp [results, Tryd.results10, go_sem, g4, g5, g6, g7]) rfl ⟨B0, d0, B1, d1, B3, d3, rfl, ⟨?_, ?_⟩⟩
 · have e0 := Kd.R_reads' (Kd.R_far (Kd.R_far (Kd.R_far (Kd.R_far (Kd.R_below (Kd.R_below t1.out.1 t2.out.2.2) t3.out.2.2) (p := ⟨w.heap.size + 1, 0, none⟩) (fun k hk => by dsimp only; omega) (.slice B0 l0.length d0)) (p := ⟨w.heap.size + 1, 1, none⟩) (fun k hk => by dsimp only; omega) (.slice B1 l1.length d1)) (p := ⟨w.heap.size + 1, 2, none⟩) (fun k hk => by dsimp only; omega) (.int .i64 a2)) (p := ⟨w.heap.size + 1, 3, none⟩) (fun k hk => by dsimp only; omega) (.slice B3 l3.length d3))
   have e1 := Kd.R_reads' (Kd.R_far (Kd.R_far (Kd.R_far (Kd.R_far (Kd.R_below t2.out.1 t3.out.2.2) (p := ⟨w.heap.size + 1, 0, none⟩) (fun k hk => by dsimp only; omega) (.slice B0 l0.length d0)) (p := ⟨w.heap.size + 1, 1, none⟩) (fun k hk => by dsimp only; omega) (.slice B1 l1.length d1)) (p := ⟨w.heap.size + 1, 2, none⟩) (fun k hk => by dsimp only; omega) (.int .i64 a2)) (p := ⟨w.heap.size + 1, 3, none⟩) (fun k hk => by dsimp only; omega) (.slice B3 l3.length d3))
   have e3 := MR.of (Kd.R_far (Kd.R_far (Kd.R_far (Kd.R_far t3.out.1 (p := ⟨w.heap.size + 1, 0, none⟩) (fun k hk => by dsimp only; omega) (.slice B0 l0.length d0)) (p := ⟨w.heap.size + 1, 1, none⟩) (fun k hk => by dsimp only; omega) (.slice B1 l1.length d1)) (p := ⟨w.heap.size + 1, 2, none⟩) (fun k hk => by dsimp only; omega) (.int .i64 a2)) (p := ⟨w.heap.size + 1, 3, none⟩) (fun k hk => by dsimp only; omega) (.slice B3 l3.length d3))
   rw [← e0.1] at e0
   rw [← e1.1] at e1
   exact ⟨e0.2.1, e0.2.2, e1.2.1, e1.2.2, e3⟩
 · have hb := t3.out.2.1.low
   exact (((hb.setCell (p := ⟨w.heap.size + 1, 0, none⟩) (by dsimp only; omega) _).setCell (p := ⟨w.heap.size + 1, 1, none⟩) (by dsimp only; omega) _).setCell (p := ⟨w.heap.size + 1, 2, none⟩) (by dsimp only; omega) _).setCell (p := ⟨w.heap.size + 1, 3, none⟩) (by dsimp only; omega) _
end Go.Proofs.YthjhaogfpdkhbaaDoor.B
/- Where two grammars' boxes lie: the one that is handed in, the one that was lent. -/
namespace Go.Proofs.YthjhaogfpdkhbaaDoor.Sh
open Go.RowKit YthjhaogfpdkhbaaDoorW.PrintWords YthjhaogfpdkhbaaDoorW.PrintLast YthjhaogfpdkhbaaDoorW.PrintMore
open B H F

def TN (w w1 : World) (cs bs : Array Value) (W : World) : Prop := Below w.heap.size w W ∧ Below w1.heap.size w1 W ∧ Box w.heap.size cs 25 W ∧ Box w1.heap.size bs 25 W
theorem Box.in_ {b : Nat} {cs : Array Value} {t : TypeId} {W : World} (h : Box b cs t W) : b < W.heap.size := by
 have h2 : W.heap[b]? = some (.cells cs t (0, 0)) := h
 rcases Nat.lt_or_ge b W.heap.size with h1 | h1
 · exact h1
 · rw [Array.getElem?_eq_none h1] at h2; cases h2
theorem TN.cells {w w1 : World} {v0 v1 v2 v3 u0 u1 u2 u3 : Value} {W : World} (h : TN w w1 #[v0, v1, v2, v3] #[u0, u1, u2, u3] W) : W.cell? ⟨w.heap.size, 0, none⟩ = some v0 ∧ W.cell? ⟨w.heap.size, 1, none⟩ = some v1 ∧ W.cell? ⟨w.heap.size, 2, none⟩ = some v2 ∧ W.cell? ⟨w.heap.size, 3, none⟩ = some v3 ∧
 W.cell? ⟨w1.heap.size, 0, none⟩ = some u0 ∧ W.cell? ⟨w1.heap.size, 1, none⟩ = some u1 ∧ W.cell? ⟨w1.heap.size, 2, none⟩ = some u2 ∧ W.cell? ⟨w1.heap.size, 3, none⟩ = some u3 :=
 ⟨h.2.2.1.cell 0 _ rfl, h.2.2.1.cell 1 _ rfl, h.2.2.1.cell 2 _ rfl, h.2.2.1.cell 3 _ rfl, h.2.2.2.cell 0 _ rfl, h.2.2.2.cell 1 _ rfl, h.2.2.2.cell 2 _ rfl, h.2.2.2.cell 3 _ rfl⟩
end Go.Proofs.YthjhaogfpdkhbaaDoor.Sh
/- show.Readable: walked. -/
namespace Go.Proofs.YthjhaogfpdkhbaaDoor.Sh
open Go.RowKit YthjhaogfpdkhbaaDoorW.PrintWords YthjhaogfpdkhbaaDoorW.PrintLast YthjhaogfpdkhbaaDoorW.PrintMore
open B H F

theorem Box.far {b : Nat} {cs : Array Value} {t : TypeId} {W : World} (h : Box b cs t W) (p : Addr) (u : Value) (hne : b ≠ p.block) : Box b cs t (W.setCell p u) := by
 have h' : W.heap[b]? = some (.cells cs t (0, 0)) := h
 show (W.setCell p u).heap[b]? = _
 rw [Below.heap_setCell W p u b hne]; exact h'
theorem Box.put1 {b : Nat} {v : Value} {t : TypeId} {W : World} (h : Box b #[v] t W) (u : Value) : Box b #[u] t (W.setCell ⟨b, 0, none⟩ u) := by
 exact one_setCell (u := u) h
theorem box_frozen {b : Nat} {cs : Array Value} {t : TypeId} {W : World} (h : Box b cs t W) (j : Nat) : W.frozen? ⟨b, j, none⟩ = false := by
 have h' : W.heap[b]? = some (.cells cs t (0, 0)) := h
 unfold World.frozen?
 rw [show W.heap[(⟨b, j, none⟩ : Addr).block]? = _ from h']; rfl
def readP (l0 l1 : List ByteArray) (a2 : Int) (R : List S52) : Int × Int :=
 if (chk (namesOK l0) (namesOK l1) l0.length l1.length a2 R).1 = 0 then
  if P.namesFree l1 = true then if P.formB l0 l1 a2 R = true then (0, -1) else (13, -1) else (10, -1)
 else chk (namesOK l0) (namesOK l1) l0.length l1.length a2 R
theorem readP_K (l0 l1 : List ByteArray) (a2 : Int) (R : List S52) : (readP l0 l1 a2 R).1 = readK l0 l1 a2 R := by
 unfold readP readK
 split
 · split
   · split <;> rfl
   · rfl
 · rfl
structure RS (w : World) (cs : Array Value) (b : Nat) (m n : Int) (W : World) : Prop where
 gs : GS w cs W
 lt : w.heap.size < b
 b0 : Box b #[.int .i64 m] 3 W
 b1 : Box (b + 1) #[.int .i64 n] 3 W
section
variable {w W W' : World} {cs : Array Value} {b : Nat} {m n : Int}
theorem RS.more (h : RS w cs b m n W) (hb : Below W.heap.size W W') : RS w cs b m n W' := ⟨h.gs.more hb, h.lt, h.b0.below hb, h.b1.below hb⟩
theorem RS.alloc (h : RS w cs b m n W) (o : Obj) : RS w cs b m n (W.alloc o) := h.more ((Below.refl _ W).alloc (Nat.le_refl _) o)
theorem RS.put0 (h : RS w cs b m n W) (v : Int) : RS w cs b v n (W.setCell ⟨b, 0, none⟩ (.int .i64 v)) :=
 ⟨h.gs.base b ((Below.refl b W).setCell (by dsimp only; omega) _) h.lt, h.lt, Box.put1 h.b0 _, Box.far h.b1 _ _ (by dsimp only; omega)⟩
theorem RS.put1 (h : RS w cs b m n W) (v : Int) : RS w cs b m v (W.setCell ⟨b + 1, 0, none⟩ (.int .i64 v)) :=
 ⟨h.gs.base b ((Below.refl b W).setCell (by dsimp only; omega) _) h.lt, h.lt, Box.far h.b0 _ _ (by dsimp only; omega), Box.put1 h.b1 _⟩
end
set_option maxHeartbeats 4000000 in
theorem rise_calls (p : Addr) (v n : Int) (w : World) (hc : w.cell? p = some (.int .i64 n)) (hf : w.frozen? p = false) (h0 : 0 ≤ n) (h1 : n < 9223372036854775807) :
 Calls Tryd.prog 67 #[.int .i64 v, .pointer (some p)] w fun e w' => e = .returned (.bool (decide (v ≤ n))) ∧ w' = if v = n then w.setCell p (.int .i64 (n + 1)) else w := by
 by_cases h : v = n
 · subst h
   have hw : wrap64 (v + 1) = v + 1 := by unfold wrap64; omega
   have hlt : decide (v < v + 1) = true := decide_eq_true (by omega)
   have hle : decide (v ≤ v) = true := decide_eq_true (Int.le_refl _)
   rw [if_pos rfl, hle]
   go_enter Tryd.func67, Tryd.ntmps67
   go_wp2_with fail
   go_ret
   exact ⟨rfl, rfl⟩
 · have d : decide (v = n) = false := decide_eq_false h
   have e : decide (v < n) = decide (v ≤ n) := by
    by_cases h2 : v < n
    · rw [decide_eq_true h2, decide_eq_true (by omega)]
    · rw [decide_eq_false h2, decide_eq_false (by omega)]
   rw [if_neg h]
   have HE := Lib.hid e
   clear e
   go_enter Tryd.func67, Tryd.ntmps67
   go_wp2_with fail
   go_ret
   exact ⟨by rw [← HE.out]; rfl, rfl⟩
def stepR (v n : Int) : Int := if v = n then n + 1 else n
theorem rise0 {w W : World} {cs : Array Value} {b : Nat} {m n : Int} (h : RS w cs b m n W) (v : Int) (h0 : 0 ≤ m) (h1 : m < 9223372036854775807) :
 Calls Tryd.prog 67 #[.int .i64 v, .pointer (some ⟨b, 0, none⟩)] W fun e w' => e = .returned (.bool (decide (v ≤ m))) ∧ Aside0 (RS w cs b (stepR v m) n w' ∧ ∀ B bs t, B ≠ b → Box B bs t W → Box B bs t w') :=
 (rise_calls ⟨b, 0, none⟩ v m W (h.b0.cell 0 _ rfl) (box_frozen h.b0 0) h0 h1).mono fun e w' ⟨he, hw⟩ => ⟨he, ⟨by
  unfold stepR
  subst hw
  split
  · exact ⟨h.put0 _, fun B bs t hne hB => Box.far hB _ _ hne⟩
  · exact ⟨h, fun _ _ _ _ hB => hB⟩⟩⟩
theorem rise1 {w W : World} {cs : Array Value} {b : Nat} {m n : Int} (h : RS w cs b m n W) (v : Int) (h0 : 0 ≤ n) (h1 : n < 9223372036854775807) :
 Calls Tryd.prog 67 #[.int .i64 v, .pointer (some ⟨b + 1, 0, none⟩)] W fun e w' => e = .returned (.bool (decide (v ≤ n))) ∧ Aside0 (RS w cs b m (stepR v n) w' ∧ ∀ B bs t, B ≠ b + 1 → Box B bs t W → Box B bs t w') :=
 (rise_calls ⟨b + 1, 0, none⟩ v n W (h.b1.cell 0 _ rfl) (box_frozen h.b1 0) h0 h1).mono fun e w' ⟨he, hw⟩ => ⟨he, ⟨by
  unfold stepR
  subst hw
  split
  · exact ⟨h.put1 _, fun B bs t hne hB => Box.far hB _ _ hne⟩
  · exact ⟨h, fun _ _ _ _ hB => hB⟩⟩⟩
theorem rise_le (N : Int) : ∀ (l : List Int) (n m : Int), (∀ x ∈ l, x < N) → n ≤ N → P.riseL l n = some m → n ≤ m ∧ m ≤ N
 | [], n, m, _, hn, h => by
  obtain rfl : n = m := Option.some.inj h
  omega
 | x :: l, n, m, hx, hn, h => by
  unfold P.riseL at h
  by_cases hg : x > n
  · rw [if_pos hg] at h; cases h
  · rw [if_neg hg] at h
    have hxN := hx x List.mem_cons_self
    have := rise_le N l _ m (fun y hy => hx y (List.mem_cons_of_mem _ hy)) (by split <;> omega) h
    split at this <;> omega
theorem RS.start {w W : World} {cs : Array Value} (h : GS w cs W) : RS w cs W.heap.size 0 0 ((W.alloc (.cells #[.int .i64 0] 3)).alloc (.cells #[.int .i64 0] 3)) :=
 ⟨h.more (((Below.refl _ W).alloc (Nat.le_refl _) _).alloc (by simp) _), h.lt, (Box.new W _ _).alloc _, by have := Box.new (W.alloc (.cells #[.int .i64 0] 3)) #[.int .i64 0] 3; simpa using this⟩
theorem counts_le {l0 l1 : List ByteArray} {R : List S52} (h : ∀ x ∈ R, okR l0.length l1.length x = true) (k : Nat) {m n : Int} (hm : P.riseL (P.leftsL (R.take k)) 0 = some m) (hn : P.riseL (P.termsL (R.take k)) 0 = some n) : 0 ≤ m ∧ m ≤ (l1.length : Int) ∧ 0 ≤ n ∧ n ≤ (l0.length : Int) := by
 have a := rise_le (l1.length : Int) _ 0 m (fun v hv => by
  obtain ⟨x, hx, rfl⟩ := List.mem_map.1 hv
  exact (okR_sides (h x (List.mem_of_mem_take hx))).2.2.1) (by omega) hm
 have b := rise_le (l0.length : Int) _ 0 n (fun v hv => by
  obtain ⟨x, hx, hv⟩ := List.mem_flatMap.1 hv
  exact ((okR_sides (h x (List.mem_of_mem_take hx))).2.2.2 v (List.mem_filter.1 hv).1).1) (by omega) hn
 omega
theorem counts_le2 {l0 l1 : List ByteArray} {R : List S52} (h : ∀ x ∈ R, okR l0.length l1.length x = true) (k i : Nat) {x : S52} (hx : ∀ s ∈ x.f1, s < (l0.length : Int)) {n : Int} (hn : P.riseL (P.termsL (R.take k) ++ (x.f1.take i).filter (fun s => decide (0 ≤ s))) 0 = some n) : 0 ≤ n ∧ n ≤ (l0.length : Int) := by
 refine rise_le (l0.length : Int) _ 0 n (fun v hv => ?_) (by omega) hn
 rcases List.mem_append.1 hv with hv | hv
 · obtain ⟨x, hx, hv⟩ := List.mem_flatMap.1 hv
   exact ((okR_sides (h x (List.mem_of_mem_take hx))).2.2.2 v (List.mem_filter.1 hv).1).1
 · exact hx v (List.mem_of_mem_take (List.mem_filter.1 hv).1)
theorem filt_yes {l : List Int} {i : Nat} (hi : i < l.length) (h : 0 ≤ l[i]) : (l.take (i + 1)).filter (fun s => decide (0 ≤ s)) = (l.take i).filter (fun s => decide (0 ≤ s)) ++ [l[i]] := by
 rw [List.take_succ_eq_append_getElem hi, List.filter_append]; simp [h]
theorem filt_no {l : List Int} {i : Nat} (hi : i < l.length) (h : ¬ 0 ≤ l[i]) : (l.take (i + 1)).filter (fun s => decide (0 ≤ s)) = (l.take i).filter (fun s => decide (0 ≤ s)) := by
 rw [List.take_succ_eq_append_getElem hi, List.filter_append]; simp [h]
theorem rise_snoc {l : List Int} {n : Int} (x : Int) (h : P.riseL l 0 = some n) : P.riseL (l ++ [x]) 0 = if x > n then none else some (stepR x n) := by
 rw [P.riseL_append, h]
 show P.riseL [x] n = _
 unfold P.riseL P.riseL stepR
 rfl
theorem lefts_succ {R : List S52} {k : Nat} (hk : k < R.length) : P.leftsL (R.take (k + 1)) = P.leftsL (R.take k) ++ [R[k].f0] := by
 unfold P.leftsL; rw [List.take_succ_eq_append_getElem hk, List.map_append]; rfl
theorem terms_succ {R : List S52} {k : Nat} (hk : k < R.length) : P.termsL (R.take (k + 1)) = P.termsL (R.take k) ++ R[k].f1.filter (fun s => decide (0 ≤ s)) := by
 unfold P.termsL; rw [List.take_succ_eq_append_getElem hk, List.flatMap_append]; simp only [List.flatMap_cons, List.flatMap_nil, List.append_nil]
theorem rise_none {l r : List Int} (h : P.riseL l 0 = none) : P.riseL (l ++ r) 0 = none := by rw [P.riseL_append, h]; rfl
theorem lefts_none {R : List S52} (k : Nat) (h : P.riseL (P.leftsL (R.take k)) 0 = none) : P.riseL (P.leftsL R) 0 = none := by
 rw [← List.take_append_drop k R, P.leftsL, List.map_append]; exact rise_none h
theorem terms_none {R : List S52} {k j : Nat} (hk : k < R.length) (h : P.riseL (P.termsL (R.take k) ++ (R[k].f1.take j).filter (fun s => decide (0 ≤ s))) 0 = none) : P.riseL (P.termsL R) 0 = none := by
 have e : P.termsL R = P.termsL (R.take (k + 1)) ++ P.termsL (R.drop (k + 1)) := by
  unfold P.termsL
  rw [← List.flatMap_append, List.take_append_drop]
 rw [e, terms_succ hk]
 conv => lhs; rw [← List.take_append_drop j R[k].f1, List.filter_append, ← List.append_assoc]
 exact rise_none (rise_none h)
theorem form_no {l0 l1 : List ByteArray} {a2 : Int} {R : List S52} (h : a2 ≠ 0 ∨ P.riseL (P.leftsL R) 0 ≠ some (l1.length : Int) ∨ P.riseL (P.termsL R) 0 ≠ some (l0.length : Int)) : P.formB l0 l1 a2 R ≠ true := by
 intro hf
 simp only [P.formB, Bool.and_eq_true, decide_eq_true_eq] at hf
 rcases h with h | h | h
 · exact h hf.1
 · exact h hf.2.1
 · exact h hf.2.2
theorem form_yes {l0 l1 : List ByteArray} {a2 : Int} {R : List S52} (h0 : a2 = 0) (h1 : P.riseL (P.leftsL R) 0 = some (l1.length : Int)) (h2 : P.riseL (P.termsL R) 0 = some (l0.length : Int)) : P.formB l0 l1 a2 R = true := by
 simp only [P.formB, Bool.and_eq_true, decide_eq_true_eq]
 exact ⟨h0, h1, h2⟩
end Go.Proofs.YthjhaogfpdkhbaaDoor.Sh
/- show.Readable: the walk (printed by tools/mk_showz.py). -/
namespace Go.Proofs.YthjhaogfpdkhbaaDoor.Sh
open Go.RowKit YthjhaogfpdkhbaaDoorW.PrintWords YthjhaogfpdkhbaaDoorW.PrintLast YthjhaogfpdkhbaaDoorW.PrintMore
open B H F
theorem take_all {α : Type} {l : List α} {p : α → Bool} {k : Nat} (h : ∀ x ∈ l.take k, p x = true) (hk : k < l.length) (hx : p l[k] = true) : ∀ x ∈ l.take (k + 1), p x = true := by
 intro x hm
 rw [List.take_succ_eq_append_getElem hk] at hm
 rcases List.mem_append.1 hm with h1 | h1
 · exact h x h1
 · obtain rfl := List.mem_singleton.1 h1; exact hx
set_option maxHeartbeats 4000000 in
set_option maxRecDepth 100000 in
theorem Readable_calls (ad : Int → Addr) (A0 : Option Addr) (c0 : Nat) (l0 : List ByteArray) (A1 : Option Addr) (c1 : Nat) (l1 : List ByteArray) (a2 : Int) (A3 : Option Addr) (c3 : Nat) (R : List S52) (w : World) (hs : SentsK ad w) (hr0 : Kd.C Kd.string w A0 l0.length l0) (hc0 : l0.length ≤ c0) (hr1 : Kd.C Kd.string w A1 l1.length l1) (hc1 : l1.length ≤ c1) (hr3 : Kd.C k52 w A3 R.length R) (hc3 : R.length ≤ c3) :
 Calls Tryd.prog 25 #[.agg #[.slice A0 l0.length c0, .slice A1 l1.length c1, .int .i64 a2, .slice A3 R.length c3]] w fun e w' => ∃ E, e = .returned E ∧ ErrW ad w' E (readP l0 l1 a2 R) ∧ Below w.heap.size w w' := by
 have m0 := C_max hr0
 have m1 := C_max hr1
 obtain ⟨cs, hcs⟩ : ∃ cs : Array Value, cs = #[.slice A0 l0.length c0, .slice A1 l1.length c1, .int .i64 a2, .slice A3 R.length c3] := ⟨_, rfl⟩
 have st : GS w cs (w.alloc (.cells #[.slice A0 l0.length c0, .slice A1 l1.length c1, .int .i64 a2, .slice A3 R.length c3] 25)) := by subst hcs; exact GS.start w _
 have ce : ∀ W, GS w cs W → W.cell? ⟨w.heap.size, 0, none⟩ = some (.slice A0 l0.length c0) ∧ W.cell? ⟨w.heap.size, 1, none⟩ = some (.slice A1 l1.length c1) ∧ W.cell? ⟨w.heap.size, 2, none⟩ = some (.int .i64 a2) ∧ W.cell? ⟨w.heap.size, 3, none⟩ = some (.slice A3 R.length c3) := by
  intro W hW; subst hcs; exact hW.cells
 have kC : ∀ W, GS w cs W → Calls Tryd.prog 51 #[.agg #[.slice A0 l0.length c0, .slice A1 l1.length c1, .int .i64 a2, .slice A3 R.length c3]] W fun e w' => (∃ v, e = .returned v ∧ ErrW ad w' v (chk (namesOK l0) (namesOK l1) l0.length l1.length a2 R)) ∧ Aside0 (GS w cs w') := fun W hW =>
  (Check_any ad A0 c0 l0 A1 c1 l1 a2 A3 c3 R W (hs.below hW.low) (Kd.C_below hr0 hW.low) hc0 (Kd.C_below hr1 hW.low) hc1 (Kd.C_below hr3 hW.low) hc3).mono fun _ _ ⟨⟨v, he, hv⟩, hb⟩ => ⟨⟨v, he, ErrW.of hv⟩, ⟨hW.more hb⟩⟩
 have ST := Aside0.mk st
 have CE := Aside0.mk ce
 have HCS := Lib.hid hcs
 unfold readP
 obtain ⟨rp, hrp⟩ : ∃ rp : Int × Int, rp = (if P.namesFree l1 = true then if P.formB l0 l1 a2 R = true then (0, -1) else (13, -1) else (10, -1)) := ⟨_, rfl⟩
 rw [← hrp]
 by_cases hp : (chk (namesOK l0) (namesOK l1) l0.length l1.length a2 R).1 = 0
 rotate_left
 · rw [if_neg hp]
   have KC : Aside0 (∀ W, GS w cs W → Calls Tryd.prog 51 #[.agg #[.slice A0 l0.length c0, .slice A1 l1.length c1, .int .i64 a2, .slice A3 R.length c3]] W fun e w' => ∃ t u, e = .returned (.iface t u) ∧ Aside0 (ErrW ad w' (.iface t u) (chk (namesOK l0) (namesOK l1) l0.length l1.length a2 R) ∧ GS w cs w')) := ⟨fun W hW => (kC W hW).mono fun e w' ⟨⟨v, he, hv⟩, hg⟩ => by
    obtain ⟨t, u, rfl⟩ := hv.any hp
    exact ⟨t, u, he, ⟨hv, hg.out⟩⟩⟩
   have HS := Aside0.mk hs
   clear kC st ce hcs hr0 hr1 hr3 hp hs hrp
   generalize chk (namesOK l0) (namesOK l1) l0.length l1.length a2 R = pr at KC ⊢
   go_enter Tryd.func25, Tryd.ntmps25
   go_wp2_with (first
    | (go_at_call 51; (with_reducible refine (KC.out _ ST.out).mono ?_); rintro e w1 ⟨t, u, rfl, t1⟩))
   (try rw [Exit.noGoto_ret])
   exact bodyPost_ret (v := .iface t u) (by simp [results, Tryd.results25, go_sem]) rfl ⟨_, rfl, t1.out.1, t1.out.2.low⟩
 · rw [if_pos hp]
   obtain ⟨q1, q2, q3, q4, q5, q6, q7⟩ := chk_ok hp
   have KC : Aside0 (∀ W, GS w cs W → Calls Tryd.prog 51 #[.agg #[.slice A0 l0.length c0, .slice A1 l1.length c1, .int .i64 a2, .slice A3 R.length c3]] W fun e w' => e = .returned .nilIface ∧ Aside0 (GS w cs w')) := ⟨fun W hW => (kC W hW).mono fun e w' ⟨⟨v, he, hv⟩, hg⟩ => by
    obtain rfl := hv.nil hp
    exact ⟨he, hg⟩⟩
   have z1 := names_small q4
   have kF : ∀ x ∈ l1, ∀ W, Calls Tryd.prog 59 #[.string x] W fun e w' => e = .returned (.bool (P.freeL x.data.toList)) ∧ Below W.heap.size W w' := fun x hx W =>
    (show_free.calls (x.size + 1) x _ W (free_f x (by have := z1 x hx; omega) _ (Nat.lt_succ_self _))).mono fun _ _ ⟨he, hd⟩ => ⟨he, hd.below⟩
   have HN : Aside0 (P.namesFree l1 ≠ true → rp = (10, -1)) := ⟨fun h => by rw [hrp, if_neg h]⟩
   have HF : Aside0 (P.namesFree l1 = true → P.formB l0 l1 a2 R ≠ true → rp = (13, -1)) := ⟨fun h h2 => by rw [hrp, if_pos h, if_neg h2]⟩
   have HO : Aside0 (P.namesFree l1 = true → P.formB l0 l1 a2 R = true → rp = (0, -1)) := ⟨fun h h2 => by rw [hrp, if_pos h, if_pos h2]⟩
   have kE : ∀ W, GS w cs W → W.cell? ⟨10, 0, none⟩ = some (.iface 178 (.pointer (some (ad 10)))) := fun W hW => sent_name (hs.below hW.low)
   have kG : ∀ W, GS w cs W → W.cell? ⟨12, 0, none⟩ = some (.iface 178 (.pointer (some (ad 13)))) := fun W hW => sent_form (hs.below hW.low)
   have hlen : R.length ≤ 120 := by omega
   have KF := Aside0.mk kF
   have KE := Aside0.mk kE
   have KG := Aside0.mk kG
   have HR1 := Aside0.mk hr1
   have HR3 := Aside0.mk hr3
   have HQ := Lib.hid (And.intro q1 (And.intro q2 (And.intro q5 (And.intro q6 q7))))
   clear kC st ce hcs hr0 hr1 hr3 hp hs hrp kF kE kG q1 q2 q3 q4 q5 q6 q7 z1
   go_enter Tryd.func25, Tryd.ntmps25
   go_wp2_with (first
    | (go_at_call 51; (with_reducible refine (KC.out _ ST.out).mono ?_); rintro e w1 ⟨rfl, t1⟩; obtain ⟨f0, f1, f2, f3⟩ := CE.out _ t1.out))
   go_loopw [5, 21] (fun _ i wr => ∃ k : Nat, k ≤ l1.length ∧ i = .int .i64 k ∧ Hid (∀ x ∈ l1.take k, P.freeL x.data.toList = true) ∧ Aside0 (GS w cs wr)) (fun _ i _ => l1.length - (intOf i).toNat)
   case atStart => exact ⟨0, Nat.zero_le _, rfl, Lib.hid (by simp), t1⟩
   case round =>
    clear t1 f0 f1 f2 f3
    obtain ⟨k, hk, rfl, hfr, tr⟩ := hrel
    by_cases hlt : k < l1.length
    · obtain ⟨ad1, rfl, hx⟩ := Kd.at_string (Kd.C_below HR1.out tr.out.low) (k : Int) (by omega) (by omega)
      rw [rdS, Int.toNat_natCast, getD_lt _ _ _ hlt] at hx
      have hcall := KF.out l1[k] (List.getElem_mem hlt)
      have hstep := fun h => Lib.hid (take_all hfr.out hlt h)
      have hbad : P.freeL l1[k].data.toList ≠ true → P.namesFree l1 ≠ true := fun h h2 => by
       unfold P.namesFree at h2
       exact h (List.all_eq_true.1 h2 _ (List.getElem_mem hlt))
      generalize l1[k] = x at hx hcall hstep hbad
      by_cases hf : P.freeL x.data.toList = true
      · rw [hf] at hcall
        have HC := Aside0.mk hcall
        have HST := Aside0.mk (hstep hf)
        clear hcall hstep hbad hf hfr
        go_wp2_with (first
         | (go_at_call 59; (with_reducible refine (HC.out _).mono ?_); rintro e w2 ⟨rfl, hb2⟩; have t2 := Aside0.mk (tr.out.more hb2); clear hb2))
        go_roundw
        case measure => simp [intOf]; omega
        case rel => exact ⟨k + 1, by omega, by go_num, HST.out, t2⟩
      · rw [eq_false_of_ne_true hf] at hcall
        have HBAD := Lib.hid (HN.out (hbad hf))
        have HC := Aside0.mk hcall
        clear hcall hstep hbad hf hfr
        go_wp2_with (first
         | (go_at_call 59; (with_reducible refine (HC.out _).mono ?_); rintro e w2 ⟨rfl, hb2⟩; have t2 := Aside0.mk (tr.out.more hb2); have he := KE.out _ t2.out; clear hb2))
        (try rw [Exit.noGoto_ret])
        exact bodyPost_ret (v := .iface 178 (.pointer (some (ad 10)))) (by simp [results, Tryd.results25, go_sem]) rfl ⟨_, rfl, by rw [HBAD.out]; exact ErrW.sent (by decide) (by decide), t2.out.low⟩
    · have hall : P.namesFree l1 = true := by
       unfold P.namesFree
       refine List.all_eq_true.2 ?_
       have h := hfr.out
       rwa [show k = l1.length from by omega, List.take_length] at h
      have HALL := Lib.hid hall
      clear hall hfr
      obtain rfl : k = l1.length := by omega
      have t3 := Aside0.mk (RS.start tr.out)
      obtain ⟨f0, f1, f2, f3⟩ := CE.out _ tr.out
      obtain ⟨g0, g1, g2, g3⟩ := CE.out _ t3.out.gs
      go_wp2_with fail
      clear f0 f1 f2 f3 g0 g1 g2 g3
      obtain ⟨b, hb⟩ : ∃ b, b = wr.heap.size := ⟨_, rfl⟩
      rw [← hb] at t3 ⊢
      clear hb
      go_loopw [10, 12, 33] (fun _ _ i wq => ∃ (k : Nat) (m n : Int), k ≤ R.length ∧ i = .int .i64 k ∧ Hid (P.riseL (P.leftsL (R.take k)) 0 = some m ∧ P.riseL (P.termsL (R.take k)) 0 = some n) ∧ Aside0 (RS w cs b m n wq)) (fun _ _ i _ => R.length - (intOf i).toNat)
      case atStart => exact ⟨0, 0, 0, Nat.zero_le _, rfl, Lib.hid ⟨rfl, rfl⟩, t3⟩
      case round =>
       clear t3 tr
       obtain ⟨k, m, n, hk, rfl, hr, tq⟩ := hrel
       have hbd := counts_le HQ.out.2.2.2.2 k hr.out.1 hr.out.2
       have h60 := HQ.out.1
       by_cases hlt : k < R.length
       · obtain ⟨ad3, A', c', e1, y0, y1, e4, e5⟩ := at_T52 HR3.out (k : Int) (by omega) (by omega)
         have hrd : rd_T52 R (k : Int) = R[k] := by rw [rdR_D, getD_lt R k _ hlt]
         rw [Int.toNat_natCast, hrd] at y0 y1
         rw [hrd] at e4 e5
         subst e1
         have c0' := (tq.out.gs.low.cell (World.block_lt_of_cell? w _ y0)).trans y0
         have c1' := (tq.out.gs.low.cell (World.block_lt_of_cell? w _ y1)).trans y1
         have hok := okR_sides (HQ.out.2.2.2.2 R[k] (List.getElem_mem hlt))
         have hls := lefts_succ hlt
         have hts := terms_succ hlt
         have hno := fun j => terms_none (j := j) hlt
         have hsl := tq.out.gs.lt
         generalize R[k] = x at y0 y1 e4 e5 c0' c1' hok hls hts hno
         have T1 := Aside0.mk (tq.out.alloc (.cells #[.int .i64 x.f0, .slice A' x.f1.length c'] 52))
         have B1 : Aside0 (Box wr.heap.size #[.int .i64 x.f0, .slice A' x.f1.length c'] 52 (wr.alloc (.cells #[.int .i64 x.f0, .slice A' x.f1.length c'] 52))) := ⟨Box.new _ _ _⟩
         have hbq : b + 1 < wr.heap.size := Box.in_ tq.out.b1
         have kR := rise0 T1.out x.f0 hbd.1 (by omega)
         have bx0 := Box.cell B1.out 0 _ rfl
         have HX := Aside0.mk e5
         have HOK := Aside0.mk hok
         have HBQ := Lib.hid hbq
         have HTS := Lib.hid hts
         have HNO := Lib.hid hno
         clear y0 y1 hsl e5 hts hno hbq
         by_cases hv : x.f0 ≤ m
         · have HL := Lib.hid (show P.riseL (P.leftsL (R.take (k + 1))) 0 = some (stepR x.f0 m) by rw [hls, rise_snoc _ hr.out.1, if_neg (by omega)])
           rw [decide_eq_true hv] at kR
           have KR := Aside0.mk kR
           have HBD := Lib.hid hbd
           clear kR hv hls hbd hok
           go_wp2_with (first
            | (go_at_call 67; (with_reducible refine KR.out.mono ?_); rintro e w4 ⟨rfl, t4⟩; have bx1 := Box.cell (t4.out.2 _ _ _ (by have := HBQ.out; omega) B1.out) 1 _ rfl))
           have t5 := Aside0.mk t4.out.1
           clear bx0 bx1 c0' c1' t4 T1 B1 KR
           go_loopw [12, 46] (fun _ j wz => ∃ (i : Nat) (n' : Int), i ≤ x.f1.length ∧ j = .int .i64 i ∧ Hid (P.riseL (P.termsL (R.take k) ++ (x.f1.take i).filter (fun s => decide (0 ≤ s))) 0 = some n') ∧ Aside0 (RS w cs b (stepR x.f0 m) n' wz)) (fun _ j _ => x.f1.length - (intOf j).toNat)
           case atStart => exact ⟨0, n, Nat.zero_le _, rfl, Lib.hid (by simpa using hr.out.2), t5⟩
           case round =>
            clear t5
            obtain ⟨i, n', hi, rfl, hri, tz⟩ := hrel
            have h32 := HOK.out.1
            have h60 := HQ.out.1
            have hbn := counts_le2 HQ.out.2.2.2.2 k i (fun s hs => (HOK.out.2.2.2 s hs).1) hri.out
            by_cases hlt2 : i < x.f1.length
            · obtain ⟨ad4, rfl, hy⟩ := Kd.at_int (Kd.C_below HX.out tz.out.gs.low) (i : Int) (by omega) (by omega)
              rw [Int.toNat_natCast, rd_D, getD_lt _ _ _ hlt2] at hy
              have hfy := filt_yes hlt2
              have hfn := filt_no hlt2
              generalize x.f1[i] = s at hy hfy hfn
              have kR := rise1 tz.out s hbn.1 (by omega)
              by_cases hs0 : 0 ≤ s
              · have d1 : decide (0 ≤ s) = true := decide_eq_true hs0
                have hsn := rise_snoc s hri.out
                have hf1 := hfy hs0
                rw [List.append_assoc, ← hf1] at hsn
                by_cases hs1 : s ≤ n'
                · rw [if_neg (by omega)] at hsn
                  rw [decide_eq_true hs1] at kR
                  have HSN := Lib.hid hsn
                  have KR := Aside0.mk kR
                  clear hsn kR hfy hfn hf1 hbn hs1 hri
                  go_wp2_with (first
                   | (go_at_call 67; (with_reducible refine KR.out.mono ?_); rintro e w6 ⟨rfl, t6⟩))
                  go_roundw
                  case measure => simp [intOf]; omega
                  case rel => exact ⟨i + 1, stepR s n', by omega, by go_num, HSN, ⟨t6.out.1⟩⟩
                · rw [if_pos (by omega)] at hsn
                  have HBAD := Lib.hid (HF.out HALL.out (form_no (.inr (.inr (by rw [HNO.out (i + 1) hsn]; exact fun h => by cases h)))))
                  rw [decide_eq_false hs1] at kR
                  have KR := Aside0.mk kR
                  clear hsn kR hfy hfn hf1 hbn hs1 hri
                  go_wp2_with (first
                   | (go_at_call 67; (with_reducible refine KR.out.mono ?_); rintro e w6 ⟨rfl, t6⟩; have he := KG.out _ t6.out.1.gs))
                  (try rw [Exit.noGoto_ret])
                  exact bodyPost_ret (v := .iface 178 (.pointer (some (ad 13)))) (by simp [results, Tryd.results25, go_sem]) rfl ⟨_, rfl, by rw [HBAD.out]; exact ErrW.sent (by decide) (by decide), t6.out.1.gs.low⟩
              · have d1 : decide (0 ≤ s) = false := decide_eq_false hs0
                have HFN := Lib.hid (hfn hs0)
                clear hfy hfn kR hbn
                go_wp2_with fail
                go_roundw
                case measure => simp [intOf]; omega
                case rel => exact ⟨i + 1, n', by omega, by go_num, Lib.hid (by rw [HFN.out]; exact hri.out), tz⟩
            · obtain rfl : i = x.f1.length := by omega
              have HTN := Lib.hid (show P.riseL (P.termsL (R.take (k + 1))) 0 = some n' by rw [HTS.out, ← List.take_length (l := x.f1)]; exact hri.out)
              clear hri hbn
              go_wp2_with fail
              go_roundw
              case measure => simp [intOf]; omega
              case rel => exact ⟨k + 1, stepR x.f0 m, n', by omega, by go_num, Lib.hid ⟨HL.out, HTN.out⟩, tz⟩
         · have hbad := rise_snoc x.f0 hr.out.1
           rw [if_pos (by omega), ← hls] at hbad
           have HBAD := Lib.hid (HF.out HALL.out (form_no (.inr (.inl (by rw [lefts_none (k + 1) hbad]; exact fun h => by cases h)))))
           rw [decide_eq_false hv] at kR
           have KR := Aside0.mk kR
           clear kR hv hls hbd hok hbad
           go_wp2_with (first
            | (go_at_call 67; (with_reducible refine KR.out.mono ?_); rintro e w4 ⟨rfl, t4⟩; have he := KG.out _ t4.out.1.gs))
           (try rw [Exit.noGoto_ret])
           exact bodyPost_ret (v := .iface 178 (.pointer (some (ad 13)))) (by simp [results, Tryd.results25, go_sem]) rfl ⟨_, rfl, by rw [HBAD.out]; exact ErrW.sent (by decide) (by decide), t4.out.1.gs.low⟩
       · obtain rfl : k = R.length := by omega
         have hr1 := hr.out.1
         have hr2 := hr.out.2
         rw [List.take_length] at hr1 hr2
         obtain ⟨f0, f1, f2, f3⟩ := CE.out _ tq.out.gs
         have fm := Box.cell tq.out.b0 0 _ rfl
         have fn := Box.cell tq.out.b1 0 _ rfl
         have he := KG.out _ tq.out.gs
         by_cases h0 : a2 = 0
         · subst h0
           by_cases h1 : m = (l1.length : Int)
           · have d1 : decide (m < (l1.length : Int)) = false := decide_eq_false (by omega)
             by_cases h2 : n = (l0.length : Int)
             · have d2 : decide (n < (l0.length : Int)) = false := decide_eq_false (by omega)
               have HOK := Lib.hid (HO.out HALL.out (form_yes rfl (h1 ▸ hr1) (h2 ▸ hr2)))
               clear h1 h2 hr1 hr2 hbd hr
               go_wp2_with fail
               (try rw [Exit.noGoto_ret])
               exact bodyPost_ret (v := .nilIface) (by simp [results, Tryd.results25, go_sem]) rfl ⟨_, rfl, by rw [HOK.out]; exact .inl ⟨rfl, rfl, rfl⟩, tq.out.gs.low⟩
             · have d2 : decide (n < (l0.length : Int)) = true := decide_eq_true (by omega)
               have HBAD := Lib.hid (HF.out HALL.out (form_no (.inr (.inr (by rw [hr2]; exact fun h => h2 (Option.some.inj h))))))
               clear h1 h2 hr1 hr2 hbd hr
               go_wp2_with fail
               (try rw [Exit.noGoto_ret])
               exact bodyPost_ret (v := .iface 178 (.pointer (some (ad 13)))) (by simp [results, Tryd.results25, go_sem]) rfl ⟨_, rfl, by rw [HBAD.out]; exact ErrW.sent (by decide) (by decide), tq.out.gs.low⟩
           · have d1 : decide (m < (l1.length : Int)) = true := decide_eq_true (by omega)
             have HBAD := Lib.hid (HF.out HALL.out (form_no (.inr (.inl (by rw [hr1]; exact fun h => h1 (Option.some.inj h))))))
             clear h1 hr1 hr2 hbd hr
             go_wp2_with fail
             (try rw [Exit.noGoto_ret])
             exact bodyPost_ret (v := .iface 178 (.pointer (some (ad 13)))) (by simp [results, Tryd.results25, go_sem]) rfl ⟨_, rfl, by rw [HBAD.out]; exact ErrW.sent (by decide) (by decide), tq.out.gs.low⟩
         · have d0 : decide (a2 = 0) = false := decide_eq_false h0
           have d0' : (a2 == 0) = false := beq_false_of_ne h0
           have d0'' : (a2 != 0) = true := by simp [bne, d0']
           have HBAD := Lib.hid (HF.out HALL.out (form_no (.inl h0)))
           clear h0 hr1 hr2 hbd hr
           go_wp2_with fail
           (try rw [Exit.noGoto_ret])
           exact bodyPost_ret (v := .iface 178 (.pointer (some (ad 13)))) (by simp [results, Tryd.results25, go_sem]) rfl ⟨_, rfl, by rw [HBAD.out]; exact ErrW.sent (by decide) (by decide), tq.out.gs.low⟩
end Go.Proofs.YthjhaogfpdkhbaaDoor.Sh
/- (*strings.Builder).Len; show.Text's memory. -/
namespace Go.Proofs.YthjhaogfpdkhbaaDoor.Sh
open Go.RowKit YthjhaogfpdkhbaaDoorW.PrintWords YthjhaogfpdkhbaaDoorW.PrintLast YthjhaogfpdkhbaaDoorW.PrintMore
open B H F

theorem BU_cell {B b : Nat} {l : List UInt8} {w : World} (h : BU B b l w) : ∃ a c, w.cell? ⟨b, 1, none⟩ = some (.slice a l.length c) := by
 obtain ⟨p, hB, v, hbk, hown, _⟩ : ∃ p, Lib.BuilderAt 103 5 B b p (Lib.byteCells l) w := by
  rcases h with h | h
  · exact ⟨_, h⟩
  · exact ⟨_, h⟩
 have hc : w.cell? ⟨b, 1, none⟩ = some v := by rw [Lib.cell_of_heap hbk]; rfl
 rw [Lib.byteCells_length] at hown
 obtain ⟨_, ⟨rfl, h0⟩ | ⟨g, cap, cur, rfl, _⟩⟩ := hown
 · exact ⟨none, 0, by rw [hc, h0]⟩
 · exact ⟨_, _, hc⟩
set_option maxHeartbeats 2000000 in
theorem wLen (B b : Nat) (l : List UInt8) (w : World) (h : BU B b l w) :
 Calls Tryd.prog 66 #[.pointer (some ⟨b, 0, none⟩)] w fun e w' => e = .returned (.int .i64 l.length) ∧ Below w.heap.size w w' := by
 obtain ⟨a, c, hc⟩ := BU_cell h
 clear h
 generalize l.length = n at hc ⊢
 go_enter Tryd.func66, Tryd.ntmps66
 go_wp2_with fail
 go_ret
 exact ⟨rfl, Below.refl _ _⟩
structure TS (w : World) (cs : Array Value) (t : Nat) (pre : List UInt8) (W : World) : Prop where
 gs : GS w cs W
 lt : w.heap.size < t
 bu : BU t t pre W
section
variable {w W W' : World} {cs : Array Value} {t : Nat} {pre pre' : List UInt8}
theorem TS.more (h : TS w cs t pre W) (hb : Below W.heap.size W W') : TS w cs t pre W' := ⟨h.gs.more hb, h.lt, BU_below h.bu hb⟩
theorem TS.alloc (h : TS w cs t pre W) (o : Obj) : TS w cs t pre (W.alloc o) := h.more ((Below.refl _ W).alloc (Nat.le_refl _) o)
theorem TS.write (h : TS w cs t pre W) (hu : BU t t pre' W') (hb : Below t W W') : TS w cs t pre' W' := ⟨h.gs.base t hb h.lt, h.lt, hu⟩
theorem TS.le (h : TS w cs t pre W) : t ≤ W.heap.size := Nat.le_of_lt (BU_lt h.bu)
theorem TS.start (h : GS w cs W) : TS w cs W.heap.size [] (W.alloc (.cells #[.pointer none, .slice none 0 0] 103)) :=
 ⟨h.more ((Below.refl _ W).alloc (Nat.le_refl _) _), h.lt, BU_new W⟩
end
theorem Box.kept {b t : Nat} {cs : Array Value} {T : TypeId} {W W' : World} (h : Box b cs T W) (hk : KeptX t W W') (hT : T ≠ 5) (hb : b ≠ t) : Box b cs T W' := hk b cs T _ h hT hb
theorem lastF_take {R : List S52} {k : Nat} (hk : k < R.length) : P.lastF none (R.take k) = if k = 0 then none else some (R.getD (k - 1) z52).f0 := by
 unfold P.lastF
 by_cases h : k = 0
 · subst h; rfl
 · rw [if_neg h, List.getLast?_take, if_neg h]
   rw [getD_lt R (k - 1) _ (by omega), List.getElem?_eq_getElem (show k - 1 < R.length by omega)]
   rfl
theorem alts_succ {l0 l1 : List ByteArray} {R : List S52} {k : Nat} (hk : k < R.length) : P.altsL l0 l1 none (R.take (k + 1)) = P.altsL l0 l1 none (R.take k) ++ P.altL l0 l1 (if k = 0 then none else some (R.getD (k - 1) z52).f0) R[k] := by
 rw [List.take_succ_eq_append_getElem hk, P.altsL_snoc, lastF_take hk]
end Go.Proofs.YthjhaogfpdkhbaaDoor.Sh
/- show.Text: the walk (printed by tools/mk_showu.py). -/
namespace Go.Proofs.YthjhaogfpdkhbaaDoor.Sh
open Go.RowKit YthjhaogfpdkhbaaDoorW.PrintWords YthjhaogfpdkhbaaDoorW.PrintLast YthjhaogfpdkhbaaDoorW.PrintMore
open B H F
section
variable {l0 l1 : List ByteArray} {x : S52} {p : Option Int} (pre : List UInt8)
theorem finA0 (h : p = some x.f0) (h0 : x.f1 = []) : pre ++ (⟨#[32, 124]⟩ : ByteArray).data.toList = pre ++ P.altL l0 l1 p x := by
 unfold P.altL; rw [if_pos h, h0]; rfl
theorem finA1 (h : p = some x.f0) (h0 : x.f1 ≠ []) : pre ++ (⟨#[32, 124]⟩ : ByteArray).data.toList ++ ((⟨#[32]⟩ : ByteArray) ++ (⟨(P.symsL l0 l1 x.f1).toArray⟩ : ByteArray)).data.toList = pre ++ P.altL l0 l1 p x := by
 unfold P.altL; rw [if_pos h, P.tlL_syms l0 l1 x.f1 h0, P.data_append]; simp [List.append_assoc]
theorem finC0 (h : p = none) (h0 : x.f1 = []) : pre ++ ((⟨(P.symL l0 l1 (-1 - x.f0)).toArray⟩ : ByteArray) ++ (⟨#[32, 58]⟩ : ByteArray)).data.toList = pre ++ P.altL l0 l1 p x := by
 subst h; unfold P.altL; rw [if_neg (by simp), if_pos rfl, h0, P.data_append]; simp [P.tlL]
theorem finC1 (h : p = none) (h0 : x.f1 ≠ []) : pre ++ ((⟨(P.symL l0 l1 (-1 - x.f0)).toArray⟩ : ByteArray) ++ (⟨#[32, 58]⟩ : ByteArray)).data.toList ++ ((⟨#[32]⟩ : ByteArray) ++ (⟨(P.symsL l0 l1 x.f1).toArray⟩ : ByteArray)).data.toList = pre ++ P.altL l0 l1 p x := by
 subst h; unfold P.altL; rw [if_neg (by simp), if_pos rfl, P.tlL_syms l0 l1 x.f1 h0, P.data_append, P.data_append]; simp [List.append_assoc]
theorem finB0 (h : p ≠ some x.f0) (hn : p ≠ none) (h0 : x.f1 = []) : pre ++ [UInt8.ofNat 10] ++ ((⟨(P.symL l0 l1 (-1 - x.f0)).toArray⟩ : ByteArray) ++ (⟨#[32, 58]⟩ : ByteArray)).data.toList = pre ++ P.altL l0 l1 p x := by
 unfold P.altL; rw [if_neg h, if_neg hn, h0, P.data_append]; simp [P.tlL]
theorem finB1 (h : p ≠ some x.f0) (hn : p ≠ none) (h0 : x.f1 ≠ []) : pre ++ [UInt8.ofNat 10] ++ ((⟨(P.symL l0 l1 (-1 - x.f0)).toArray⟩ : ByteArray) ++ (⟨#[32, 58]⟩ : ByteArray)).data.toList ++ ((⟨#[32]⟩ : ByteArray) ++ (⟨(P.symsL l0 l1 x.f1).toArray⟩ : ByteArray)).data.toList = pre ++ P.altL l0 l1 p x := by
 unfold P.altL; rw [if_neg h, if_neg hn, P.tlL_syms l0 l1 x.f1 h0, P.data_append, P.data_append]; simp [List.append_assoc]
end
set_option maxHeartbeats 4000000 in
set_option maxRecDepth 100000 in
theorem Text_calls (ad : Int → Addr) (A0 : Option Addr) (c0 : Nat) (l0 : List ByteArray) (A1 : Option Addr) (c1 : Nat) (l1 : List ByteArray) (a2 : Int) (A3 : Option Addr) (c3 : Nat) (R : List S52) (w : World) (hs : SentsK ad w) (hr0 : Kd.C Kd.string w A0 l0.length l0) (hc0 : l0.length ≤ c0) (hr1 : Kd.C Kd.string w A1 l1.length l1) (hc1 : l1.length ≤ c1) (hr3 : Kd.C k52 w A3 R.length R) (hc3 : R.length ≤ c3) :
 Calls Tryd.prog 23 #[.agg #[.slice A0 l0.length c0, .slice A1 l1.length c1, .int .i64 a2, .slice A3 R.length c3]] w fun e w' => ∃ E r, e = .returned (.tuple #[.string ⟨(textP l0 l1 a2 R).1.toArray⟩, E]) ∧ ErrW ad w' E ((textP l0 l1 a2 R).2, r) ∧ Below w.heap.size w w' := by
 have m0 := C_max hr0
 have m1 := C_max hr1
 obtain ⟨cs, hcs⟩ : ∃ cs : Array Value, cs = #[.slice A0 l0.length c0, .slice A1 l1.length c1, .int .i64 a2, .slice A3 R.length c3] := ⟨_, rfl⟩
 have st : GS w cs (w.alloc (.cells #[.slice A0 l0.length c0, .slice A1 l1.length c1, .int .i64 a2, .slice A3 R.length c3] 25)) := by subst hcs; exact GS.start w _
 have ce : ∀ W, GS w cs W → W.cell? ⟨w.heap.size, 0, none⟩ = some (.slice A0 l0.length c0) ∧ W.cell? ⟨w.heap.size, 1, none⟩ = some (.slice A1 l1.length c1) ∧ W.cell? ⟨w.heap.size, 2, none⟩ = some (.int .i64 a2) ∧ W.cell? ⟨w.heap.size, 3, none⟩ = some (.slice A3 R.length c3) := by
  intro W hW; subst hcs; exact hW.cells
 have kC : ∀ W, GS w cs W → Calls Tryd.prog 25 #[.agg #[.slice A0 l0.length c0, .slice A1 l1.length c1, .int .i64 a2, .slice A3 R.length c3]] W fun e w' => ∃ E, e = .returned E ∧ ErrW ad w' E (readP l0 l1 a2 R) ∧ Below W.heap.size W w' := fun W hW =>
  Readable_calls ad A0 c0 l0 A1 c1 l1 a2 A3 c3 R W (hs.below hW.low) (Kd.C_below hr0 hW.low) hc0 (Kd.C_below hr1 hW.low) hc1 (Kd.C_below hr3 hW.low) hc3
 have ST := Aside0.mk st
 have CE := Aside0.mk ce
 have HCS := Lib.hid hcs
 have hK := readP_K l0 l1 a2 R
 unfold textP
 by_cases hp : readK l0 l1 a2 R = 0
 rotate_left
 · rw [if_neg hp, ← hK]
   have KC : Aside0 (∀ W, GS w cs W → Calls Tryd.prog 25 #[.agg #[.slice A0 l0.length c0, .slice A1 l1.length c1, .int .i64 a2, .slice A3 R.length c3]] W fun e w' => ∃ t u, e = .returned (.iface t u) ∧ Aside0 (ErrW ad w' (.iface t u) (readP l0 l1 a2 R) ∧ GS w cs w')) := ⟨fun W hW => (kC W hW).mono fun e w' ⟨E, he, hv, hb⟩ => by
    obtain ⟨t, u, rfl⟩ := hv.any (by rw [hK]; exact hp)
    exact ⟨t, u, he, ⟨hv, hW.more hb⟩⟩⟩
   clear kC st ce hcs hr0 hr1 hr3 hp hs hK
   generalize readP l0 l1 a2 R = pr at KC ⊢
   go_enter Tryd.func23, Tryd.ntmps23
   go_wp2_with (first
    | (go_at_call 25; (with_reducible refine (KC.out _ ST.out).mono ?_); rintro e w1 ⟨t, u, rfl, t1⟩))
   (try rw [Exit.noGoto_ret])
   exact bodyPost_ret (v := .tuple #[.string ⟨#[]⟩, .iface t u]) (by simp [results, Tryd.results23, go_sem]) rfl ⟨_, _, rfl, t1.out.1, t1.out.2.low⟩
 · rw [if_pos hp]
   have hrd := read_ok hp
   have KC : Aside0 (∀ W, GS w cs W → Calls Tryd.prog 25 #[.agg #[.slice A0 l0.length c0, .slice A1 l1.length c1, .int .i64 a2, .slice A3 R.length c3]] W fun e w' => e = .returned .nilIface ∧ Aside0 (GS w cs w')) := ⟨fun W hW => (kC W hW).mono fun e w' ⟨E, he, hv, hb⟩ => by
    obtain rfl := hv.nil (by rw [hK]; exact hp)
    exact ⟨he, ⟨hW.more hb⟩⟩⟩
   have kG : ∀ W, GS w cs W → W.cell? ⟨0, 0, none⟩ = some (.iface 178 (.pointer (some (ad 12)))) := fun W hW => sent_long (hs.below hW.low)
   have z0 := hrd.z0
   have z1 := hrd.z1
   have hrules := hrd.rules
   have hlen := hrd.len
   have kS : ∀ x ∈ R, ∀ W, GS w cs W → Calls Tryd.prog 19 #[.agg #[.slice A0 l0.length c0, .slice A1 l1.length c1, .int .i64 a2, .slice A3 R.length c3], .int .i64 (-1 - x.f0)] W fun e w' => e = .returned (.string ⟨(P.symL l0 l1 (-1 - x.f0)).toArray⟩) ∧ Below W.heap.size W w' := fun x hx W hW => by
    have hxo := okR_sides (hrd.ok x hx)
    exact Symbol_calls A0 c0 l0 A1 c1 l1 a2 A3 c3 R _ 32 W (Kd.C_below hr0 hW.low) hc0 (Kd.C_below hr1 hW.low) hc1 (Kd.C_below hr3 hW.low) hc3 (by omega) z0 z1 (by omega) (by omega)
   have kY : ∀ x ∈ R, ∀ A' c', Kd.C (Kd.int .i64) w A' x.f1.length x.f1 → x.f1.length ≤ c' → ∀ W, GS w cs W → Calls Tryd.prog 21 #[.agg #[.slice A0 l0.length c0, .slice A1 l1.length c1, .int .i64 a2, .slice A3 R.length c3], .slice A' x.f1.length c'] W fun e w' => e = .returned (.string ⟨(P.symsL l0 l1 x.f1).toArray⟩) ∧ Below W.heap.size W w' := fun x hx A' c' h1 h2 W hW => by
    have hxo := okR_sides (hrd.ok x hx)
    exact Symbols_calls A0 c0 l0 A1 c1 l1 a2 A3 c3 R A' c' x.f1 32 W (Kd.C_below hr0 hW.low) hc0 (Kd.C_below hr1 hW.low) hc1 (Kd.C_below hr3 hW.low) hc3 (Kd.C_below h1 hW.low) h2 (by omega) z0 z1 (by have := Nat.mul_le_mul_left (4 * 32 + 5) hxo.1; omega) (fun s hs => by have := hxo.2.2.2 s hs; omega)
   have KG := Aside0.mk kG
   have KSA := Aside0.mk kS
   have KYA := Aside0.mk kY
   have HR3 := Aside0.mk hr3
   have HRD := Aside0.mk hrd
   clear kC st ce hcs hr0 hr1 hr3 hp hs hK kG kS kY z0 z1 hrd
   obtain ⟨tx, htx⟩ : ∃ tx : List UInt8 × Int, tx = (if 1048576 < (P.textL l0 l1 R).length then ([], 12) else (P.textL l0 l1 R, 0)) := ⟨_, rfl⟩
   rw [← htx]
   have HTX := Lib.hid htx
   clear htx
   go_enter Tryd.func23, Tryd.ntmps23
   go_wp2_with (first
    | (go_at_call 25; (with_reducible refine (KC.out _ ST.out).mono ?_); rintro e w1 ⟨rfl, t1⟩; have t3 := Aside0.mk (TS.start t1.out); obtain ⟨f0, f1, f2, f3⟩ := CE.out _ t3.out.gs))
   clear f0 f1 f2 f3
   obtain ⟨t, ht⟩ : ∃ t, t = w1.heap.size := ⟨_, rfl⟩
   rw [← ht] at t3 ⊢
   clear ht
   go_loopw [6, 7, 16] (fun _ _ i wq => ∃ k : Nat, k ≤ R.length ∧ i = .int .i64 k ∧ Aside0 (TS w cs t (P.altsL l0 l1 none (R.take k)) wq)) (fun _ _ i _ => R.length - (intOf i).toNat)
   case atStart => exact ⟨0, Nat.zero_le _, rfl, t3⟩
   case round =>
    clear t3 t1
    obtain ⟨k, hk, rfl, tr⟩ := hrel
    by_cases hlt : k < R.length
    · have hmem := List.getElem_mem hlt
      obtain ⟨ad3, A', c', e1, y0, y1, e4, e5⟩ := at_T52 HR3.out (k : Int) (by omega) (by omega)
      have hrd : rd_T52 R (k : Int) = R[k] := by rw [rdR_D, getD_lt R k _ hlt]
      rw [Int.toNat_natCast, hrd] at y0 y1
      rw [hrd] at e4 e5
      have hal := alts_succ (l0 := l0) (l1 := l1) hlt
      have hpl := alt_len HRD.out (R.take k) none (fun x hx => List.mem_of_mem_take hx)
      have hpl2 : (P.altsL l0 l1 none (R.take k)).length ≤ 534600 := by rw [List.length_take, Nat.min_eq_left hk] at hpl; omega
      have hok := okR_sides (HRD.out.ok _ hmem)
      have kS := KSA.out _ hmem
      have kY := KYA.out _ hmem A' c' e5 e4
      have hsl := P.symL_length HRD.out.z0 HRD.out.z1 (-1 - R[k].f0)
      have htl := P.symsL_length HRD.out.z0 HRD.out.z1 R[k].f1
      have htl2 := Nat.mul_le_mul_left (4 * 32 + 5) hok.1
      have hprev : ∀ j : Nat, j + 1 = k → ∃ v : Int, (if k = 0 then none else some (R.getD (k - 1) z52).f0) = some v ∧ ∀ W, GS w cs W → ∀ ad, A3 = some ad → W.cell? (ad.add (j * 2)) = some (.int .i64 v) := by
       intro j hj
       refine ⟨(R.getD (k - 1) z52).f0, by rw [if_neg (by omega)], fun W hW ad ha => ?_⟩
       obtain ⟨ad', _, _, e1', y0', _⟩ := at_T52 (Kd.C_below HR3.out hW.low) (j : Int) (by omega) (by omega)
       rw [Int.toNat_natCast, rdR_D] at y0'
       obtain rfl : ad' = ad := Option.some.inj (e1'.symm.trans ha)
       rw [show k - 1 = j by omega]; exact y0'
      have hfirst : k = 0 → (if k = 0 then none else some (R.getD (k - 1) z52).f0) = none := fun h => if_pos h
      generalize (if k = 0 then none else some (R.getD (k - 1) z52).f0) = p at hal hprev hfirst
      generalize R[k] = x at *
      subst e1
      have c0' := (tr.out.gs.low.cell (World.block_lt_of_cell? w _ y0)).trans y0
      have c1' := (tr.out.gs.low.cell (World.block_lt_of_cell? w _ y1)).trans y1
      have T1 := Aside0.mk (tr.out.alloc (.cells #[.int .i64 x.f0, .slice A' x.f1.length c'] 52))
      have B1 : Aside0 (Box wr.heap.size #[.int .i64 x.f0, .slice A' x.f1.length c'] 52 (wr.alloc (.cells #[.int .i64 x.f0, .slice A' x.f1.length c'] 52))) := ⟨Box.new _ _ _⟩
      have HNE := Lib.hid (show t < wr.heap.size from BU_lt tr.out.bu)
      have hw1 : wrap64 ((-1) - x.f0) = -1 - x.f0 := w64m x.f0 (by omega) (by omega)
      have hfinA0 := fun h h0 => (finA0 (l0 := l0) (l1 := l1) (x := x) (p := p) (P.altsL l0 l1 none (R.take k)) h h0).trans hal.symm
      have hfinA1 := fun h h0 => (finA1 (l0 := l0) (l1 := l1) (x := x) (p := p) (P.altsL l0 l1 none (R.take k)) h h0).trans hal.symm
      have hfinB0 := fun h hn h0 => (finB0 (l0 := l0) (l1 := l1) (x := x) (p := p) (P.altsL l0 l1 none (R.take k)) h hn h0).trans hal.symm
      have hfinB1 := fun h hn h0 => (finB1 (l0 := l0) (l1 := l1) (x := x) (p := p) (P.altsL l0 l1 none (R.take k)) h hn h0).trans hal.symm
      have hfinC0 := fun h h0 => (finC0 (l0 := l0) (l1 := l1) (x := x) (p := p) (P.altsL l0 l1 none (R.take k)) h h0).trans hal.symm
      have hfinC1 := fun h h0 => (finC1 (l0 := l0) (l1 := l1) (x := x) (p := p) (P.altsL l0 l1 none (R.take k)) h h0).trans hal.symm
      have hS1 : (⟨(P.symL l0 l1 (-1 - x.f0)).toArray⟩ : ByteArray).size ≤ 132 := by rw [P.size_lit]; omega
      have hY1 : (⟨(P.symsL l0 l1 x.f1).toArray⟩ : ByteArray).size ≤ 4256 := by rw [P.size_lit]; omega
      generalize (⟨(P.symL l0 l1 (-1 - x.f0)).toArray⟩ : ByteArray) = qs at kS hS1 hfinB0 hfinB1 hfinC0 hfinC1
      generalize (⟨(P.symsL l0 l1 x.f1).toArray⟩ : ByteArray) = qy at kY hY1 hfinA1 hfinB1 hfinC1
      have hsz : (⟨#[32, 124]⟩ : ByteArray).size ≤ 5000 ∧ (qs ++ (⟨#[32, 58]⟩ : ByteArray)).size ≤ 5000 ∧ ((⟨#[32]⟩ : ByteArray) ++ qy).size ≤ 5000 := by
       refine ⟨by decide, ?_, ?_⟩
       · rw [ByteArray.size_append]; exact Nat.le_trans (Nat.add_le_add hS1 (show (⟨#[32, 58]⟩ : ByteArray).size ≤ 2 by decide)) (by omega)
       · rw [ByteArray.size_append]; exact Nat.le_trans (Nat.add_le_add (show (⟨#[32]⟩ : ByteArray).size ≤ 1 by decide) hY1) (by omega)
      have HSZ := Lib.hid hsz
      have HPL := Lib.hid hpl2
      have KS := Aside0.mk kS
      have KY := Aside0.mk kY
      have HOK := Aside0.mk hok
      have b1 : ¬ 9223372036854775807 < qs.size + 2 := by omega
      have b2 : ¬ 9223372036854775807 < 1 + qy.size := by omega
      obtain ⟨f0, f1, f2, f3⟩ := CE.out _ T1.out.gs
      have z0 := Box.cell B1.out 0 _ rfl
      have z1 := Box.cell B1.out 1 _ rfl
      clear y0 y1 hal hpl hpl2 kS kY hsl htl htl2 hS1 hY1 hsz hok hmem e5 hrd
      by_cases he0 : x.f1 = []
      · have hl0 : x.f1.length = 0 := by rw [he0]; rfl
        have d4 : decide (0 < (x.f1.length : Int)) = false := decide_eq_false (by omega)
        have d5 : decide (0 < x.f1.length) = false := decide_eq_false (by omega)
        clear hl0
        by_cases hk0 : k = 0
        · have HFIN := Lib.hid (hfinC0 (hfirst hk0) he0 : P.altsL l0 l1 none (R.take k) ++ (qs ++ (⟨#[32, 58]⟩ : ByteArray)).data.toList = P.altsL l0 l1 none (R.take (k + 1)))
          have hkd : decide (0 < (k : Int)) = false := decide_eq_false (by omega)
          have hkd' : decide (0 < k) = false := decide_eq_false (by omega)
          clear hfinA0 hfinA1 hfinB0 hfinB1 hfinC0 hfinC1 hprev hfirst he0 hk0
          have HBB := Aside0.mk (And.intro b1 (And.intro b2 (And.intro hw1 (And.intro d4 d5))))
          clear b1 b2 hw1 d4 d5
          go_wp2_with fail
          go_quiet (fail)
          obtain ⟨b1, b2, hw1, d4, d5⟩ := HBB.out
          clear HBB
          clear f0 f1 f2 f3 z0 z1
          have T9 := Aside0.mk (T1.out.more (pw_below_drewN (Below.refl _ _) nq))
          have B9 := Aside0.mk (Box.below B1.out (pw_below_drewN (Below.refl _ _) nq))
          clear T1 B1 c0' c1'
          obtain ⟨wz, hz⟩ : ∃ wz, wz = (wr.alloc (.cells #[.int .i64 x.f0, .slice A' x.f1.length c'] 52)).drewN nq := ⟨_, rfl⟩
          rw [← hz] at T9 B9 ⊢
          clear hz
          obtain ⟨f0, f1, f2, f3⟩ := CE.out _ T9.out.gs
          have z0 := Box.cell B9.out 0 _ rfl
          have z1 := Box.cell B9.out 1 _ rfl
          go_wp2_with (first
           | (go_at_call 19; (with_reducible refine (KS.out _ T9.out.gs).mono ?_); rintro e w3 ⟨rfl, hb3⟩; have t3 := Aside0.mk (T9.out.more hb3); have B3 := Aside0.mk (Box.below B9.out hb3); clear hb3)
           | (go_at_call 64; refine Aside0.out ?_))
          clear f0 f1 f2 f3 z0 z1
          refine Aside0.mk ?_
          refine (wStr t t _ _ _ t3.out.bu (by have h := HPL.out; have h2 : (qs ++ (⟨#[32, 58]⟩ : ByteArray)).size ≤ 5000 := HSZ.out.2.1; have h3 : (qs ++ (⟨#[32, 58]⟩ : ByteArray)).data.toList.length ≤ 5000 := HSZ.out.2.1; have h4 : (⟨#[32, 124]⟩ : ByteArray).data.toList.length ≤ 5000 := HSZ.out.1; (try simp only [List.length_append, List.length_singleton] at h3 h4 ⊢); (try have h5 : (#[32, 124] : Array UInt8).toList.length ≤ 5000 := by decide); omega) (by have := t3.out.le; omega)).mono ?_
          rintro e w4 ⟨rfl, hb, hw, hkx⟩
          have t4 : Aside0 (TS w cs t (P.altsL l0 l1 none (R.take k) ++ (qs ++ (⟨#[32, 58]⟩ : ByteArray)).data.toList) w4) := ⟨t3.out.write hb hw⟩
          have B4 := Aside0.mk (Box.kept B3.out hkx (by decide) (by have := HNE.out; omega))
          clear hb hw hkx
          obtain ⟨f0, f1, f2, f3⟩ := CE.out _ t4.out.gs
          have z0 := Box.cell B4.out 0 _ rfl
          have z1 := Box.cell B4.out 1 _ rfl
          go_wp2_with fail
          go_roundw
          case measure => simp [intOf]; omega
          case rel => exact ⟨k + 1, by omega, by go_num, ⟨HFIN.out ▸ t4.out⟩⟩
        · obtain ⟨j, hj⟩ : ∃ j : Nat, j + 1 = k := ⟨k - 1, by omega⟩
          obtain ⟨v, hpv, hcell⟩ := hprev j hj
          have y2 := hcell _ T1.out.gs ad3 rfl
          have hkd : decide (0 < (k : Int)) = true := decide_eq_true (by omega)
          have hkd' : decide (0 < k) = true := decide_eq_true (by omega)
          have hkj : (k : Int) - 1 = (j : Int) := by omega
          have hdj : decide ((j : Int) < (R.length : Int)) = true := decide_eq_true (by omega)
          have hdj' : decide (j < R.length) = true := decide_eq_true (by omega)
          have hjl : (j : Int) < (R.length : Int) := by omega
          have hj0 : (0 : Int) ≤ (j : Int) := by omega
          by_cases hv : v = x.f0
          · have HFIN := Lib.hid (hfinA0 (by rw [hpv, hv]) he0 : P.altsL l0 l1 none (R.take k) ++ (⟨#[32, 124]⟩ : ByteArray).data.toList = P.altsL l0 l1 none (R.take (k + 1)))
            subst hv
            clear hfinA0 hfinA1 hfinB0 hfinB1 hfinC0 hfinC1 hprev hfirst he0 hk0 hj hpv hcell
            have HBB := Aside0.mk (And.intro b1 (And.intro b2 (And.intro hw1 (And.intro d4 d5))))
            clear b1 b2 hw1 d4 d5
            go_wp2_with fail
            go_quiet (fail)
            clear hkj hdj hdj' hjl hj0 y2
            obtain ⟨b1, b2, hw1, d4, d5⟩ := HBB.out
            clear HBB
            clear f0 f1 f2 f3 z0 z1
            have T9 := Aside0.mk (T1.out.more (pw_below_drewN (Below.refl _ _) nq))
            have B9 := Aside0.mk (Box.below B1.out (pw_below_drewN (Below.refl _ _) nq))
            clear T1 B1 c0' c1'
            obtain ⟨wz, hz⟩ : ∃ wz, wz = (wr.alloc (.cells #[.int .i64 x.f0, .slice A' x.f1.length c'] 52)).drewN nq := ⟨_, rfl⟩
            rw [← hz] at T9 B9 ⊢
            clear hz
            obtain ⟨f0, f1, f2, f3⟩ := CE.out _ T9.out.gs
            have z0 := Box.cell B9.out 0 _ rfl
            have z1 := Box.cell B9.out 1 _ rfl
            go_wp2_with (first
             | (go_at_call 64; refine Aside0.out ?_))
            clear f0 f1 f2 f3 z0 z1
            refine Aside0.mk ?_
            refine (wStr t t _ _ _ T9.out.bu (by have h := HPL.out; have h2 : (⟨#[32, 124]⟩ : ByteArray).size ≤ 5000 := HSZ.out.1; have h3 : (qs ++ (⟨#[32, 58]⟩ : ByteArray)).data.toList.length ≤ 5000 := HSZ.out.2.1; have h4 : (⟨#[32, 124]⟩ : ByteArray).data.toList.length ≤ 5000 := HSZ.out.1; (try simp only [List.length_append, List.length_singleton] at h3 h4 ⊢); (try have h5 : (#[32, 124] : Array UInt8).toList.length ≤ 5000 := by decide); omega) (by have := T9.out.le; omega)).mono ?_
            rintro e w2 ⟨rfl, hb, hw, hkx⟩
            have t2 : Aside0 (TS w cs t (P.altsL l0 l1 none (R.take k) ++ (⟨#[32, 124]⟩ : ByteArray).data.toList) w2) := ⟨T9.out.write hb hw⟩
            have B2 := Aside0.mk (Box.kept B9.out hkx (by decide) (by have := HNE.out; omega))
            clear hb hw hkx
            obtain ⟨f0, f1, f2, f3⟩ := CE.out _ t2.out.gs
            have z0 := Box.cell B2.out 0 _ rfl
            have z1 := Box.cell B2.out 1 _ rfl
            go_wp2_with fail
            go_roundw
            case measure => simp [intOf]; omega
            case rel => exact ⟨k + 1, by omega, by go_num, ⟨HFIN.out ▸ t2.out⟩⟩
          · have HFIN := Lib.hid (hfinB0 (by rw [hpv]; exact fun h => hv (Option.some.inj h)) (by rw [hpv]; exact fun h => by cases h) he0 : P.altsL l0 l1 none (R.take k) ++ [UInt8.ofNat 10] ++ (qs ++ (⟨#[32, 58]⟩ : ByteArray)).data.toList = P.altsL l0 l1 none (R.take (k + 1)))
            have dv : decide (v = x.f0) = false := decide_eq_false hv
            have dv' : (v == x.f0) = false := beq_false_of_ne hv
            clear hfinA0 hfinA1 hfinB0 hfinB1 hfinC0 hfinC1 hprev hfirst he0 hk0 hj hpv hcell
            have HBB := Aside0.mk (And.intro b1 (And.intro b2 (And.intro hw1 (And.intro d4 d5))))
            clear b1 b2 hw1 d4 d5
            go_wp2_with fail
            go_quiet (fail)
            clear hkj hdj hdj' hjl hj0 y2
            obtain ⟨b1, b2, hw1, d4, d5⟩ := HBB.out
            clear HBB
            clear f0 f1 f2 f3 z0 z1
            have T9 := Aside0.mk (T1.out.more (pw_below_drewN (Below.refl _ _) nq))
            have B9 := Aside0.mk (Box.below B1.out (pw_below_drewN (Below.refl _ _) nq))
            clear T1 B1 c0' c1'
            obtain ⟨wz, hz⟩ : ∃ wz, wz = (wr.alloc (.cells #[.int .i64 x.f0, .slice A' x.f1.length c'] 52)).drewN nq := ⟨_, rfl⟩
            rw [← hz] at T9 B9 ⊢
            clear hz
            obtain ⟨f0, f1, f2, f3⟩ := CE.out _ T9.out.gs
            have z0 := Box.cell B9.out 0 _ rfl
            have z1 := Box.cell B9.out 1 _ rfl
            go_wp2_with (first
             | (go_at_call 63; refine Aside0.out ?_))
            clear f0 f1 f2 f3 z0 z1
            refine Aside0.mk ?_
            refine (wByteN t t _ 10 (by omega) _ T9.out.bu (by have h := HPL.out; omega) (by have := T9.out.le; omega)).mono ?_
            rintro e w2 ⟨rfl, hb, hw, hkx⟩
            have t2 : Aside0 (TS w cs t (P.altsL l0 l1 none (R.take k) ++ [UInt8.ofNat 10]) w2) := ⟨T9.out.write hb hw⟩
            have B2 := Aside0.mk (Box.kept B9.out hkx (by decide) (by have := HNE.out; omega))
            clear hb hw hkx
            obtain ⟨f0, f1, f2, f3⟩ := CE.out _ t2.out.gs
            have z0 := Box.cell B2.out 0 _ rfl
            have z1 := Box.cell B2.out 1 _ rfl
            go_wp2_with (first
             | (go_at_call 19; (with_reducible refine (KS.out _ t2.out.gs).mono ?_); rintro e w3 ⟨rfl, hb3⟩; have t3 := Aside0.mk (t2.out.more hb3); have B3 := Aside0.mk (Box.below B2.out hb3); clear hb3)
             | (go_at_call 64; refine Aside0.out ?_))
            clear f0 f1 f2 f3 z0 z1
            refine Aside0.mk ?_
            refine (wStr t t _ _ _ t3.out.bu (by have h := HPL.out; have h2 : (qs ++ (⟨#[32, 58]⟩ : ByteArray)).size ≤ 5000 := HSZ.out.2.1; have h3 : (qs ++ (⟨#[32, 58]⟩ : ByteArray)).data.toList.length ≤ 5000 := HSZ.out.2.1; have h4 : (⟨#[32, 124]⟩ : ByteArray).data.toList.length ≤ 5000 := HSZ.out.1; (try simp only [List.length_append, List.length_singleton] at h3 h4 ⊢); (try have h5 : (#[32, 124] : Array UInt8).toList.length ≤ 5000 := by decide); omega) (by have := t3.out.le; omega)).mono ?_
            rintro e w4 ⟨rfl, hb, hw, hkx⟩
            have t4 : Aside0 (TS w cs t (P.altsL l0 l1 none (R.take k) ++ [UInt8.ofNat 10] ++ (qs ++ (⟨#[32, 58]⟩ : ByteArray)).data.toList) w4) := ⟨t3.out.write hb hw⟩
            have B4 := Aside0.mk (Box.kept B3.out hkx (by decide) (by have := HNE.out; omega))
            clear hb hw hkx
            obtain ⟨f0, f1, f2, f3⟩ := CE.out _ t4.out.gs
            have z0 := Box.cell B4.out 0 _ rfl
            have z1 := Box.cell B4.out 1 _ rfl
            go_wp2_with fail
            go_roundw
            case measure => simp [intOf]; omega
            case rel => exact ⟨k + 1, by omega, by go_num, ⟨HFIN.out ▸ t4.out⟩⟩
      · have hl0 : 0 < x.f1.length := List.length_pos_iff.2 he0
        have d4 : decide (0 < (x.f1.length : Int)) = true := decide_eq_true (by omega)
        have d5 : decide (0 < x.f1.length) = true := decide_eq_true hl0
        clear hl0
        by_cases hk0 : k = 0
        · have HFIN := Lib.hid (hfinC1 (hfirst hk0) he0 : P.altsL l0 l1 none (R.take k) ++ (qs ++ (⟨#[32, 58]⟩ : ByteArray)).data.toList ++ ((⟨#[32]⟩ : ByteArray) ++ qy).data.toList = P.altsL l0 l1 none (R.take (k + 1)))
          have hkd : decide (0 < (k : Int)) = false := decide_eq_false (by omega)
          have hkd' : decide (0 < k) = false := decide_eq_false (by omega)
          clear hfinA0 hfinA1 hfinB0 hfinB1 hfinC0 hfinC1 hprev hfirst he0 hk0
          have HBB := Aside0.mk (And.intro b1 (And.intro b2 (And.intro hw1 (And.intro d4 d5))))
          clear b1 b2 hw1 d4 d5
          go_wp2_with fail
          go_quiet (fail)
          obtain ⟨b1, b2, hw1, d4, d5⟩ := HBB.out
          clear HBB
          clear f0 f1 f2 f3 z0 z1
          have T9 := Aside0.mk (T1.out.more (pw_below_drewN (Below.refl _ _) nq))
          have B9 := Aside0.mk (Box.below B1.out (pw_below_drewN (Below.refl _ _) nq))
          clear T1 B1 c0' c1'
          obtain ⟨wz, hz⟩ : ∃ wz, wz = (wr.alloc (.cells #[.int .i64 x.f0, .slice A' x.f1.length c'] 52)).drewN nq := ⟨_, rfl⟩
          rw [← hz] at T9 B9 ⊢
          clear hz
          obtain ⟨f0, f1, f2, f3⟩ := CE.out _ T9.out.gs
          have z0 := Box.cell B9.out 0 _ rfl
          have z1 := Box.cell B9.out 1 _ rfl
          go_wp2_with (first
           | (go_at_call 19; (with_reducible refine (KS.out _ T9.out.gs).mono ?_); rintro e w3 ⟨rfl, hb3⟩; have t3 := Aside0.mk (T9.out.more hb3); have B3 := Aside0.mk (Box.below B9.out hb3); clear hb3)
           | (go_at_call 64; refine Aside0.out ?_))
          clear f0 f1 f2 f3 z0 z1
          refine Aside0.mk ?_
          refine (wStr t t _ _ _ t3.out.bu (by have h := HPL.out; have h2 : (qs ++ (⟨#[32, 58]⟩ : ByteArray)).size ≤ 5000 := HSZ.out.2.1; have h3 : (qs ++ (⟨#[32, 58]⟩ : ByteArray)).data.toList.length ≤ 5000 := HSZ.out.2.1; have h4 : (⟨#[32, 124]⟩ : ByteArray).data.toList.length ≤ 5000 := HSZ.out.1; (try simp only [List.length_append, List.length_singleton] at h3 h4 ⊢); (try have h5 : (#[32, 124] : Array UInt8).toList.length ≤ 5000 := by decide); omega) (by have := t3.out.le; omega)).mono ?_
          rintro e w4 ⟨rfl, hb, hw, hkx⟩
          have t4 : Aside0 (TS w cs t (P.altsL l0 l1 none (R.take k) ++ (qs ++ (⟨#[32, 58]⟩ : ByteArray)).data.toList) w4) := ⟨t3.out.write hb hw⟩
          have B4 := Aside0.mk (Box.kept B3.out hkx (by decide) (by have := HNE.out; omega))
          clear hb hw hkx
          obtain ⟨f0, f1, f2, f3⟩ := CE.out _ t4.out.gs
          have z0 := Box.cell B4.out 0 _ rfl
          have z1 := Box.cell B4.out 1 _ rfl
          go_wp2_with (first
           | (go_at_call 21; (with_reducible refine (KY.out _ t4.out.gs).mono ?_); rintro e w5 ⟨rfl, hb5⟩; have t5 := Aside0.mk (t4.out.more hb5); have B5 := Aside0.mk (Box.below B4.out hb5); clear hb5)
           | (go_at_call 64; refine Aside0.out ?_))
          clear f0 f1 f2 f3 z0 z1
          refine Aside0.mk ?_
          refine (wStr t t _ _ _ t5.out.bu (by have h := HPL.out; have h2 : ((⟨#[32]⟩ : ByteArray) ++ qy).size ≤ 5000 := HSZ.out.2.2; have h3 : (qs ++ (⟨#[32, 58]⟩ : ByteArray)).data.toList.length ≤ 5000 := HSZ.out.2.1; have h4 : (⟨#[32, 124]⟩ : ByteArray).data.toList.length ≤ 5000 := HSZ.out.1; (try simp only [List.length_append, List.length_singleton] at h3 h4 ⊢); (try have h5 : (#[32, 124] : Array UInt8).toList.length ≤ 5000 := by decide); omega) (by have := t5.out.le; omega)).mono ?_
          rintro e w6 ⟨rfl, hb, hw, hkx⟩
          have t6 : Aside0 (TS w cs t (P.altsL l0 l1 none (R.take k) ++ (qs ++ (⟨#[32, 58]⟩ : ByteArray)).data.toList ++ ((⟨#[32]⟩ : ByteArray) ++ qy).data.toList) w6) := ⟨t5.out.write hb hw⟩
          have B6 := Aside0.mk (Box.kept B5.out hkx (by decide) (by have := HNE.out; omega))
          clear hb hw hkx
          obtain ⟨f0, f1, f2, f3⟩ := CE.out _ t6.out.gs
          have z0 := Box.cell B6.out 0 _ rfl
          have z1 := Box.cell B6.out 1 _ rfl
          go_wp2_with fail
          go_roundw
          case measure => simp [intOf]; omega
          case rel => exact ⟨k + 1, by omega, by go_num, ⟨HFIN.out ▸ t6.out⟩⟩
        · obtain ⟨j, hj⟩ : ∃ j : Nat, j + 1 = k := ⟨k - 1, by omega⟩
          obtain ⟨v, hpv, hcell⟩ := hprev j hj
          have y2 := hcell _ T1.out.gs ad3 rfl
          have hkd : decide (0 < (k : Int)) = true := decide_eq_true (by omega)
          have hkd' : decide (0 < k) = true := decide_eq_true (by omega)
          have hkj : (k : Int) - 1 = (j : Int) := by omega
          have hdj : decide ((j : Int) < (R.length : Int)) = true := decide_eq_true (by omega)
          have hdj' : decide (j < R.length) = true := decide_eq_true (by omega)
          have hjl : (j : Int) < (R.length : Int) := by omega
          have hj0 : (0 : Int) ≤ (j : Int) := by omega
          by_cases hv : v = x.f0
          · have HFIN := Lib.hid (hfinA1 (by rw [hpv, hv]) he0 : P.altsL l0 l1 none (R.take k) ++ (⟨#[32, 124]⟩ : ByteArray).data.toList ++ ((⟨#[32]⟩ : ByteArray) ++ qy).data.toList = P.altsL l0 l1 none (R.take (k + 1)))
            subst hv
            clear hfinA0 hfinA1 hfinB0 hfinB1 hfinC0 hfinC1 hprev hfirst he0 hk0 hj hpv hcell
            have HBB := Aside0.mk (And.intro b1 (And.intro b2 (And.intro hw1 (And.intro d4 d5))))
            clear b1 b2 hw1 d4 d5
            go_wp2_with fail
            go_quiet (fail)
            clear hkj hdj hdj' hjl hj0 y2
            obtain ⟨b1, b2, hw1, d4, d5⟩ := HBB.out
            clear HBB
            clear f0 f1 f2 f3 z0 z1
            have T9 := Aside0.mk (T1.out.more (pw_below_drewN (Below.refl _ _) nq))
            have B9 := Aside0.mk (Box.below B1.out (pw_below_drewN (Below.refl _ _) nq))
            clear T1 B1 c0' c1'
            obtain ⟨wz, hz⟩ : ∃ wz, wz = (wr.alloc (.cells #[.int .i64 x.f0, .slice A' x.f1.length c'] 52)).drewN nq := ⟨_, rfl⟩
            rw [← hz] at T9 B9 ⊢
            clear hz
            obtain ⟨f0, f1, f2, f3⟩ := CE.out _ T9.out.gs
            have z0 := Box.cell B9.out 0 _ rfl
            have z1 := Box.cell B9.out 1 _ rfl
            go_wp2_with (first
             | (go_at_call 64; refine Aside0.out ?_))
            clear f0 f1 f2 f3 z0 z1
            refine Aside0.mk ?_
            refine (wStr t t _ _ _ T9.out.bu (by have h := HPL.out; have h2 : (⟨#[32, 124]⟩ : ByteArray).size ≤ 5000 := HSZ.out.1; have h3 : (qs ++ (⟨#[32, 58]⟩ : ByteArray)).data.toList.length ≤ 5000 := HSZ.out.2.1; have h4 : (⟨#[32, 124]⟩ : ByteArray).data.toList.length ≤ 5000 := HSZ.out.1; (try simp only [List.length_append, List.length_singleton] at h3 h4 ⊢); (try have h5 : (#[32, 124] : Array UInt8).toList.length ≤ 5000 := by decide); omega) (by have := T9.out.le; omega)).mono ?_
            rintro e w2 ⟨rfl, hb, hw, hkx⟩
            have t2 : Aside0 (TS w cs t (P.altsL l0 l1 none (R.take k) ++ (⟨#[32, 124]⟩ : ByteArray).data.toList) w2) := ⟨T9.out.write hb hw⟩
            have B2 := Aside0.mk (Box.kept B9.out hkx (by decide) (by have := HNE.out; omega))
            clear hb hw hkx
            obtain ⟨f0, f1, f2, f3⟩ := CE.out _ t2.out.gs
            have z0 := Box.cell B2.out 0 _ rfl
            have z1 := Box.cell B2.out 1 _ rfl
            go_wp2_with (first
             | (go_at_call 21; (with_reducible refine (KY.out _ t2.out.gs).mono ?_); rintro e w5 ⟨rfl, hb5⟩; have t5 := Aside0.mk (t2.out.more hb5); have B5 := Aside0.mk (Box.below B2.out hb5); clear hb5)
             | (go_at_call 64; refine Aside0.out ?_))
            clear f0 f1 f2 f3 z0 z1
            refine Aside0.mk ?_
            refine (wStr t t _ _ _ t5.out.bu (by have h := HPL.out; have h2 : ((⟨#[32]⟩ : ByteArray) ++ qy).size ≤ 5000 := HSZ.out.2.2; have h3 : (qs ++ (⟨#[32, 58]⟩ : ByteArray)).data.toList.length ≤ 5000 := HSZ.out.2.1; have h4 : (⟨#[32, 124]⟩ : ByteArray).data.toList.length ≤ 5000 := HSZ.out.1; (try simp only [List.length_append, List.length_singleton] at h3 h4 ⊢); (try have h5 : (#[32, 124] : Array UInt8).toList.length ≤ 5000 := by decide); omega) (by have := t5.out.le; omega)).mono ?_
            rintro e w6 ⟨rfl, hb, hw, hkx⟩
            have t6 : Aside0 (TS w cs t (P.altsL l0 l1 none (R.take k) ++ (⟨#[32, 124]⟩ : ByteArray).data.toList ++ ((⟨#[32]⟩ : ByteArray) ++ qy).data.toList) w6) := ⟨t5.out.write hb hw⟩
            have B6 := Aside0.mk (Box.kept B5.out hkx (by decide) (by have := HNE.out; omega))
            clear hb hw hkx
            obtain ⟨f0, f1, f2, f3⟩ := CE.out _ t6.out.gs
            have z0 := Box.cell B6.out 0 _ rfl
            have z1 := Box.cell B6.out 1 _ rfl
            go_wp2_with fail
            go_roundw
            case measure => simp [intOf]; omega
            case rel => exact ⟨k + 1, by omega, by go_num, ⟨HFIN.out ▸ t6.out⟩⟩
          · have HFIN := Lib.hid (hfinB1 (by rw [hpv]; exact fun h => hv (Option.some.inj h)) (by rw [hpv]; exact fun h => by cases h) he0 : P.altsL l0 l1 none (R.take k) ++ [UInt8.ofNat 10] ++ (qs ++ (⟨#[32, 58]⟩ : ByteArray)).data.toList ++ ((⟨#[32]⟩ : ByteArray) ++ qy).data.toList = P.altsL l0 l1 none (R.take (k + 1)))
            have dv : decide (v = x.f0) = false := decide_eq_false hv
            have dv' : (v == x.f0) = false := beq_false_of_ne hv
            clear hfinA0 hfinA1 hfinB0 hfinB1 hfinC0 hfinC1 hprev hfirst he0 hk0 hj hpv hcell
            have HBB := Aside0.mk (And.intro b1 (And.intro b2 (And.intro hw1 (And.intro d4 d5))))
            clear b1 b2 hw1 d4 d5
            go_wp2_with fail
            go_quiet (fail)
            clear hkj hdj hdj' hjl hj0 y2
            obtain ⟨b1, b2, hw1, d4, d5⟩ := HBB.out
            clear HBB
            clear f0 f1 f2 f3 z0 z1
            have T9 := Aside0.mk (T1.out.more (pw_below_drewN (Below.refl _ _) nq))
            have B9 := Aside0.mk (Box.below B1.out (pw_below_drewN (Below.refl _ _) nq))
            clear T1 B1 c0' c1'
            obtain ⟨wz, hz⟩ : ∃ wz, wz = (wr.alloc (.cells #[.int .i64 x.f0, .slice A' x.f1.length c'] 52)).drewN nq := ⟨_, rfl⟩
            rw [← hz] at T9 B9 ⊢
            clear hz
            obtain ⟨f0, f1, f2, f3⟩ := CE.out _ T9.out.gs
            have z0 := Box.cell B9.out 0 _ rfl
            have z1 := Box.cell B9.out 1 _ rfl
            go_wp2_with (first
             | (go_at_call 63; refine Aside0.out ?_))
            clear f0 f1 f2 f3 z0 z1
            refine Aside0.mk ?_
            refine (wByteN t t _ 10 (by omega) _ T9.out.bu (by have h := HPL.out; omega) (by have := T9.out.le; omega)).mono ?_
            rintro e w2 ⟨rfl, hb, hw, hkx⟩
            have t2 : Aside0 (TS w cs t (P.altsL l0 l1 none (R.take k) ++ [UInt8.ofNat 10]) w2) := ⟨T9.out.write hb hw⟩
            have B2 := Aside0.mk (Box.kept B9.out hkx (by decide) (by have := HNE.out; omega))
            clear hb hw hkx
            obtain ⟨f0, f1, f2, f3⟩ := CE.out _ t2.out.gs
            have z0 := Box.cell B2.out 0 _ rfl
            have z1 := Box.cell B2.out 1 _ rfl
            go_wp2_with (first
             | (go_at_call 19; (with_reducible refine (KS.out _ t2.out.gs).mono ?_); rintro e w3 ⟨rfl, hb3⟩; have t3 := Aside0.mk (t2.out.more hb3); have B3 := Aside0.mk (Box.below B2.out hb3); clear hb3)
             | (go_at_call 64; refine Aside0.out ?_))
            clear f0 f1 f2 f3 z0 z1
            refine Aside0.mk ?_
            refine (wStr t t _ _ _ t3.out.bu (by have h := HPL.out; have h2 : (qs ++ (⟨#[32, 58]⟩ : ByteArray)).size ≤ 5000 := HSZ.out.2.1; have h3 : (qs ++ (⟨#[32, 58]⟩ : ByteArray)).data.toList.length ≤ 5000 := HSZ.out.2.1; have h4 : (⟨#[32, 124]⟩ : ByteArray).data.toList.length ≤ 5000 := HSZ.out.1; (try simp only [List.length_append, List.length_singleton] at h3 h4 ⊢); (try have h5 : (#[32, 124] : Array UInt8).toList.length ≤ 5000 := by decide); omega) (by have := t3.out.le; omega)).mono ?_
            rintro e w4 ⟨rfl, hb, hw, hkx⟩
            have t4 : Aside0 (TS w cs t (P.altsL l0 l1 none (R.take k) ++ [UInt8.ofNat 10] ++ (qs ++ (⟨#[32, 58]⟩ : ByteArray)).data.toList) w4) := ⟨t3.out.write hb hw⟩
            have B4 := Aside0.mk (Box.kept B3.out hkx (by decide) (by have := HNE.out; omega))
            clear hb hw hkx
            obtain ⟨f0, f1, f2, f3⟩ := CE.out _ t4.out.gs
            have z0 := Box.cell B4.out 0 _ rfl
            have z1 := Box.cell B4.out 1 _ rfl
            go_wp2_with (first
             | (go_at_call 21; (with_reducible refine (KY.out _ t4.out.gs).mono ?_); rintro e w5 ⟨rfl, hb5⟩; have t5 := Aside0.mk (t4.out.more hb5); have B5 := Aside0.mk (Box.below B4.out hb5); clear hb5)
             | (go_at_call 64; refine Aside0.out ?_))
            clear f0 f1 f2 f3 z0 z1
            refine Aside0.mk ?_
            refine (wStr t t _ _ _ t5.out.bu (by have h := HPL.out; have h2 : ((⟨#[32]⟩ : ByteArray) ++ qy).size ≤ 5000 := HSZ.out.2.2; have h3 : (qs ++ (⟨#[32, 58]⟩ : ByteArray)).data.toList.length ≤ 5000 := HSZ.out.2.1; have h4 : (⟨#[32, 124]⟩ : ByteArray).data.toList.length ≤ 5000 := HSZ.out.1; (try simp only [List.length_append, List.length_singleton] at h3 h4 ⊢); (try have h5 : (#[32, 124] : Array UInt8).toList.length ≤ 5000 := by decide); omega) (by have := t5.out.le; omega)).mono ?_
            rintro e w6 ⟨rfl, hb, hw, hkx⟩
            have t6 : Aside0 (TS w cs t (P.altsL l0 l1 none (R.take k) ++ [UInt8.ofNat 10] ++ (qs ++ (⟨#[32, 58]⟩ : ByteArray)).data.toList ++ ((⟨#[32]⟩ : ByteArray) ++ qy).data.toList) w6) := ⟨t5.out.write hb hw⟩
            have B6 := Aside0.mk (Box.kept B5.out hkx (by decide) (by have := HNE.out; omega))
            clear hb hw hkx
            obtain ⟨f0, f1, f2, f3⟩ := CE.out _ t6.out.gs
            have z0 := Box.cell B6.out 0 _ rfl
            have z1 := Box.cell B6.out 1 _ rfl
            go_wp2_with fail
            go_roundw
            case measure => simp [intOf]; omega
            case rel => exact ⟨k + 1, by omega, by go_num, ⟨HFIN.out ▸ t6.out⟩⟩
    · obtain rfl : k = R.length := by omega
      have HPL := Lib.hid (alt_len HRD.out R none (fun x hx => hx))
      have HRU := Lib.hid (HRD.out.rules)
      rw [List.take_length] at tr
      clear hlt hk
      go_wp2_with (first
       | (go_at_call 63; refine Aside0.out ?_))
      refine Aside0.mk ?_
      refine (wByteN t t _ 10 (by omega) _ tr.out.bu (by have h := HPL.out; have h2 := HRU.out; omega) (by have := tr.out.le; omega)).mono ?_
      rintro e w2 ⟨rfl, hb, hw, hkx⟩
      have t2 : Aside0 (TS w cs t (P.textL l0 l1 R) w2) := ⟨tr.out.write hb hw⟩
      clear hb hw hkx tr HPL HRU
      by_cases hl : 1048576 < (P.textL l0 l1 R).length
      · have HT := Lib.hid (HTX.out.trans (if_pos hl))
        have d1 : decide ((1048576 : Int) < ((P.textL l0 l1 R).length : Int)) = true := decide_eq_true (by omega)
        have d2 : decide (1048576 < (P.textL l0 l1 R).length) = true := decide_eq_true hl
        clear HTX
        generalize P.textL l0 l1 R = tl at t2 d1 d2 hl
        go_wp2_with (first
         | (go_at_call 66; refine (wLen t t _ _ t2.out.bu).mono ?_; rintro e w3 ⟨rfl, hb⟩; have t3 := Aside0.mk (t2.out.more hb); have he := KG.out _ t3.out.gs; clear hb))
        go_region
        go_wp2_with fail
        (try rw [Exit.noGoto_ret])
        exact bodyPost_ret (v := .tuple #[.string ⟨#[]⟩, .iface 178 (.pointer (some (ad 12)))]) (by simp [results, Tryd.results23, go_sem]) rfl ⟨.iface 178 (.pointer (some (ad 12))), -1, by rw [HT.out], by rw [HT.out]; exact ErrW.sent (by decide) (by decide), (t3.out.more (Below.refl _ _).drew).gs.low⟩
      · have HT := Lib.hid (HTX.out.trans (if_neg hl))
        have d1 : decide ((1048576 : Int) < ((P.textL l0 l1 R).length : Int)) = false := decide_eq_false (by omega)
        have d2 : decide (1048576 < (P.textL l0 l1 R).length) = false := decide_eq_false hl
        clear HTX
        generalize P.textL l0 l1 R = tl at t2 d1 d2 hl HT
        go_wp2_with (first
         | (go_at_call 66; refine (wLen t t _ _ t2.out.bu).mono ?_; rintro e w3 ⟨rfl, hb⟩; have t3 := Aside0.mk (t2.out.more hb); clear hb)
         | (go_at_call 65; refine (wText t t _ _ t3.out.bu t3.out.le).mono ?_; rintro e w4 ⟨rfl, hb4⟩))
        (try rw [Exit.noGoto_ret])
        exact bodyPost_ret (v := .tuple #[.string ⟨tl.toArray⟩, .nilIface]) (by simp [results, Tryd.results23, go_sem]) rfl ⟨.nilIface, -1, by rw [HT.out], by rw [HT.out]; exact .inl ⟨rfl, rfl, rfl⟩, t3.out.gs.low.trans (hb4.mono (Nat.le_of_lt t3.out.lt))⟩
end Go.Proofs.YthjhaogfpdkhbaaDoor.Sh
/- dovetaillaw05.known: a text that the document names. -/
namespace Go.Proofs.YthjhaogfpdkhbaaDoor.Sh
open Go.RowKit YthjhaogfpdkhbaaDoorW.PrintWords YthjhaogfpdkhbaaDoorW.PrintLast YthjhaogfpdkhbaaDoorW.PrintMore
open B H F D

theorem add0 (b n : Nat) : (⟨b, 0, none⟩ : Addr).add n = ⟨b, n, none⟩ := by
 unfold Addr.add
 by_cases h : n = 0
 · rw [if_pos h, h]
 · rw [if_neg h]; simp
theorem lit_row {α : Type} (d : Kd α) {W : World} {b : Nat} {t : TypeId} {cells : Array Value} (h : W.heap[b]? = some (.cells cells t (0, 0))) (xs : List α) (hm : xs.length ≤ 9223372036854775807)
 (hx : ∀ j p, xs[j]? = some p → ∃ c, c.length = d.sz ∧ d.K W p c ∧ ∀ i u, c[i]? = some u → cells[j * d.sz + i]? = some u) : Kd.C d W (some ⟨b, 0, none⟩) xs.length xs :=
 ⟨rfl, hm, fun _ => ⟨_, rfl, fun j p hj => by
  obtain ⟨c, h1, h2, h3⟩ := hx j p hj
  refine ⟨c, h1, h2, fun i u hu => ?_⟩
  have h4 := h3 i u hu
  rw [add0, Lib.cell_of_heap h, h4]⟩⟩
theorem lit_S {W : World} {b : Nat} {t : TypeId} (l : List ByteArray) (hm : l.length ≤ 9223372036854775807) (h : W.heap[b]? = some (.cells (l.map Value.string).toArray t (0, 0))) : Kd.C Kd.string W (some ⟨b, 0, none⟩) l.length l :=
 lit_row _ h l hm fun j p hj => ⟨[.string p], rfl, rfl, fun i u hu => by
  obtain rfl : i = 0 := by
   rcases i with _ | i
   · rfl
   · simp at hu
  obtain rfl : Value.string p = u := by simpa using hu
  show (l.map Value.string).toArray[j * 1 + 0]? = _
  simp [hj]⟩
theorem lit_I {W : World} {b : Nat} {t : TypeId} (l : List Int) (hm : l.length ≤ 9223372036854775807) (h : W.heap[b]? = some (.cells (l.map (Value.int .i64)).toArray t (0, 0))) : Kd.C (Kd.int .i64) W (some ⟨b, 0, none⟩) l.length l :=
 lit_row _ h l hm fun j p hj => ⟨[.int .i64 p], rfl, rfl, fun i u hu => by
  obtain rfl : i = 0 := by
   rcases i with _ | i
   · rfl
   · simp at hu
  obtain rfl : Value.int .i64 p = u := by simpa using hu
  show (l.map (Value.int .i64)).toArray[j * 1 + 0]? = _
  simp [hj]⟩
def rcells (R : List (S52 × (Option Addr × Nat))) : List Value := R.flatMap fun x => [.int .i64 x.1.f0, .slice x.2.1 x.1.f1.length x.2.2]
theorem rcells_get : ∀ (R : List (S52 × (Option Addr × Nat))) (j : Nat) (x), R[j]? = some x → (rcells R)[j * 2]? = some (.int .i64 x.1.f0) ∧ (rcells R)[j * 2 + 1]? = some (.slice x.2.1 x.1.f1.length x.2.2)
 | [], j, x, h => by simp at h
 | y :: R, 0, x, h => by
  obtain rfl : y = x := by simpa using h
  exact ⟨rfl, rfl⟩
 | y :: R, j + 1, x, h => by
  have h2 := rcells_get R j x (by simpa using h)
  rw [show (j + 1) * 2 = j * 2 + 1 + 1 by omega]
  exact h2
theorem lit_R {W : World} {b : Nat} {t : TypeId} (R : List (S52 × (Option Addr × Nat))) (hm : R.length ≤ 9223372036854775807) (h : W.heap[b]? = some (.cells (rcells R).toArray t (0, 0)))
 (hR : ∀ x ∈ R, x.1.f1.length ≤ x.2.2 ∧ Kd.C (Kd.int .i64) W x.2.1 x.1.f1.length x.1.f1) : Kd.C k52 W (some ⟨b, 0, none⟩) R.length (R.map Prod.fst) := by
 have := lit_row k52 h (R.map Prod.fst) (by rw [List.length_map]; exact hm) fun j p hj => by
  rw [List.getElem?_map] at hj
  obtain ⟨x, hx, rfl⟩ := Option.map_eq_some_iff.1 hj
  have h1 := hR x (List.mem_of_getElem? hx)
  refine ⟨[.int .i64 x.1.f0, .slice x.2.1 x.1.f1.length x.2.2], rfl, k52_mk W x.1 h1.1 h1.2, fun i u hu => ?_⟩
  obtain ⟨g0, g1⟩ := rcells_get R j x hx
  show (rcells R).toArray[j * 2 + i]? = some u
  rw [List.getElem?_toArray]
  rcases i with _ | _ | i
  · rw [← hu]; exact g0
  · rw [← hu]; exact g1
  · simp at hu
 rw [List.length_map] at this
 exact this
def kT : List ByteArray := [⟨#[43]⟩, ⟨#[105]⟩]
def kN : List ByteArray := [⟨#[69]⟩, ⟨#[84]⟩]
def kR : List S52 := [⟨0, [-1, 0, -2]⟩, ⟨0, [-2]⟩, ⟨1, [1]⟩]
def known5 : Bool := decide (textP kT kN 0 kR = ([69, 32, 58, 32, 69, 32, 43, 32, 84, 32, 124, 32, 84, 10, 84, 32, 58, 32, 105, 10], 0)) && decide (ruleP kT kN 0 kR 0 = ([69, 32, 58, 32, 69, 32, 43, 32, 84], (0, -1))) && decide (ruleP kT kN 0 kR 3 = ([], (1, -1))) &&
 decide (P.symsL kT kN [0, -1, 2, 3, -3] = [43, 32, 69, 32, 36, 32, 63, 32, 63])
theorem known5_true : known5 = true := by kernel_rfl
theorem ErrW.own {ad : Int → Addr} {w : World} {v : Value} {k : Int} (h : ErrW ad w v (k, -1)) (h1 : k ≠ 0) : v = .iface 178 (.pointer (some (ad k))) := by
 rcases h with ⟨h0, _, _⟩ | ⟨_, _, rfl⟩ | ⟨_, h0, _⟩
 · exact absurd h0 h1
 · rfl
 · exact absurd h0 (by show ¬ (0 ≤ (-1 : Int)); decide)
theorem halloc (w : World) (o : Obj) : (w.alloc o).heap = w.heap.push o := rfl
def kW (w : World) : World :=
 ((((((w.alloc (.cells #[.string ⟨#[43]⟩, .string ⟨#[105]⟩] 9)).alloc (.cells #[.string ⟨#[69]⟩, .string ⟨#[84]⟩] 9)).alloc (.cells #[.int .i64 (-1), .int .i64 0, .int .i64 (-2)] 3)).alloc (.cells #[.int .i64 (-2)] 3)).alloc (.cells #[.int .i64 1] 3)).alloc
  (.cells #[.int .i64 0, .slice (some ⟨w.heap.size + 2, 0, none⟩) 3 3, .int .i64 0, .slice (some ⟨w.heap.size + 3, 0, none⟩) 1 1, .int .i64 1, .slice (some ⟨w.heap.size + 4, 0, none⟩) 1 1] 52)).alloc
  (.cells #[.slice (some ⟨w.heap.size, 0, none⟩) 2 2, .slice (some ⟨w.heap.size + 1, 0, none⟩) 2 2, .int .i64 0, .slice (some ⟨w.heap.size + 5, 0, none⟩) 3 3] 25)
theorem kW_size (w : World) : (kW w).heap.size = w.heap.size + 7 := by simp [kW]
theorem kW_below (w : World) : Below w.heap.size w (kW w) := by
 unfold kW
 repeat (first | exact Below.refl _ _ | refine Below.alloc ?_ ?_ _)
 all_goals (simp <;> omega)
theorem kW_facts (w : World) : Kd.C Kd.string (kW w) (some ⟨w.heap.size, 0, none⟩) 2 kT ∧ Kd.C Kd.string (kW w) (some ⟨w.heap.size + 1, 0, none⟩) 2 kN ∧ Kd.C k52 (kW w) (some ⟨w.heap.size + 5, 0, none⟩) 3 kR ∧
 (kW w).heap[w.heap.size + 6]? = some (.cells #[.slice (some ⟨w.heap.size, 0, none⟩) 2 2, .slice (some ⟨w.heap.size + 1, 0, none⟩) 2 2, .int .i64 0, .slice (some ⟨w.heap.size + 5, 0, none⟩) 3 3] 25 (0, 0)) := by
 have h0 : (kW w).heap[w.heap.size]? = some (.cells #[.string ⟨#[43]⟩, .string ⟨#[105]⟩] 9 (0, 0)) := by simp only [kW, halloc, Array.getElem?_push, Array.size_push] <;> (repeat (first | rw [if_pos trivial] | rw [if_pos (by omega)] | rw [if_neg (by omega)]))
 have h1 : (kW w).heap[w.heap.size + 1]? = some (.cells #[.string ⟨#[69]⟩, .string ⟨#[84]⟩] 9 (0, 0)) := by simp only [kW, halloc, Array.getElem?_push, Array.size_push] <;> (repeat (first | rw [if_pos trivial] | rw [if_pos (by omega)] | rw [if_neg (by omega)]))
 have h2 : (kW w).heap[w.heap.size + 2]? = some (.cells #[.int .i64 (-1), .int .i64 0, .int .i64 (-2)] 3 (0, 0)) := by simp only [kW, halloc, Array.getElem?_push, Array.size_push] <;> (repeat (first | rw [if_pos trivial] | rw [if_pos (by omega)] | rw [if_neg (by omega)]))
 have h3 : (kW w).heap[w.heap.size + 3]? = some (.cells #[.int .i64 (-2)] 3 (0, 0)) := by simp only [kW, halloc, Array.getElem?_push, Array.size_push] <;> (repeat (first | rw [if_pos trivial] | rw [if_pos (by omega)] | rw [if_neg (by omega)]))
 have h4 : (kW w).heap[w.heap.size + 4]? = some (.cells #[.int .i64 1] 3 (0, 0)) := by simp only [kW, halloc, Array.getElem?_push, Array.size_push] <;> (repeat (first | rw [if_pos trivial] | rw [if_pos (by omega)] | rw [if_neg (by omega)]))
 have h5 : (kW w).heap[w.heap.size + 5]? = some (.cells #[.int .i64 0, .slice (some ⟨w.heap.size + 2, 0, none⟩) 3 3, .int .i64 0, .slice (some ⟨w.heap.size + 3, 0, none⟩) 1 1, .int .i64 1, .slice (some ⟨w.heap.size + 4, 0, none⟩) 1 1] 52 (0, 0)) := by simp only [kW, halloc, Array.getElem?_push, Array.size_push] <;> (repeat (first | rw [if_pos trivial] | rw [if_pos (by omega)] | rw [if_neg (by omega)]))
 have h6 : (kW w).heap[w.heap.size + 6]? = some (.cells #[.slice (some ⟨w.heap.size, 0, none⟩) 2 2, .slice (some ⟨w.heap.size + 1, 0, none⟩) 2 2, .int .i64 0, .slice (some ⟨w.heap.size + 5, 0, none⟩) 3 3] 25 (0, 0)) := by simp only [kW, halloc, Array.getElem?_push, Array.size_push] <;> (repeat (first | rw [if_pos trivial] | rw [if_pos (by omega)] | rw [if_neg (by omega)]))
 refine ⟨lit_S kT (by decide) h0, lit_S kN (by decide) h1, ?_, h6⟩
 refine lit_R [(⟨0, [-1, 0, -2]⟩, (some ⟨w.heap.size + 2, 0, none⟩, 3)), (⟨0, [-2]⟩, (some ⟨w.heap.size + 3, 0, none⟩, 1)), (⟨1, [1]⟩, (some ⟨w.heap.size + 4, 0, none⟩, 1))] (by simp) h5 ?_
 intro x hx
 simp only [List.mem_cons, List.not_mem_nil, or_false] at hx
 rcases hx with rfl | rfl | rfl
 · exact ⟨Nat.le_refl 3, lit_I [-1, 0, -2] (by simp) h2⟩
 · exact ⟨Nat.le_refl 1, lit_I [-2] (by simp) h3⟩
 · exact ⟨Nat.le_refl 1, lit_I [1] (by simp) h4⟩
def KW (w W : World) : Prop := Below (kW w).heap.size (kW w) W
theorem KW.more {w W W' : World} (h : KW w W) (hb : Below W.heap.size W W') : KW w W' := Below.trans h (hb.mono (Below.size h))
theorem KW.low {w W : World} (h : KW w W) : Below w.heap.size w W := (kW_below w).trans (Below.mono h (kW_below w).size)
theorem KW.cells {w W : World} (h : KW w W) : W.cell? ⟨w.heap.size + 6, 0, none⟩ = some (.slice (some ⟨w.heap.size, 0, none⟩) 2 2) ∧ W.cell? ⟨w.heap.size + 6, 1, none⟩ = some (.slice (some ⟨w.heap.size + 1, 0, none⟩) 2 2) ∧ W.cell? ⟨w.heap.size + 6, 2, none⟩ = some (.int .i64 0) ∧ W.cell? ⟨w.heap.size + 6, 3, none⟩ = some (.slice (some ⟨w.heap.size + 5, 0, none⟩) 3 3) := by
 have h6 := (kW_facts w).2.2.2
 have h7 := (Below.block h (w.heap.size + 6) (by rw [kW_size]; omega)).trans h6
 exact ⟨by rw [Lib.cell_of_heap h7]; rfl, by rw [Lib.cell_of_heap h7]; rfl, by rw [Lib.cell_of_heap h7]; rfl, by rw [Lib.cell_of_heap h7]; rfl⟩
set_option maxHeartbeats 4000000 in
set_option maxRecDepth 100000 in
theorem known_calls (ad : Int → Addr) (w : World) (hs : SentsK ad w) : Calls Tryd.prog 27 #[] w fun e w' => e = .returned (.bool true) ∧ Below w.heap.size w w' := by
 obtain ⟨⟨⟨h1, h2⟩, h3⟩, h4⟩ : ((textP kT kN 0 kR = ([69, 32, 58, 32, 69, 32, 43, 32, 84, 32, 124, 32, 84, 10, 84, 32, 58, 32, 105, 10], 0) ∧ ruleP kT kN 0 kR 0 = ([69, 32, 58, 32, 69, 32, 43, 32, 84], (0, -1))) ∧ ruleP kT kN 0 kR 3 = ([], (1, -1))) ∧ P.symsL kT kN [0, -1, 2, 3, -3] = [43, 32, 69, 32, 36, 32, 63, 32, 63] := by
  have h := known5_true
  unfold known5 at h
  simpa only [Bool.and_eq_true, decide_eq_true_eq] using h
 obtain ⟨r0, r1, r3, _⟩ := kW_facts w
 have q0 : ∀ W, KW w W → Kd.C Kd.string W (some ⟨w.heap.size, 0, none⟩) 2 kT := fun W h => Kd.C_below r0 h
 have q1 : ∀ W, KW w W → Kd.C Kd.string W (some ⟨w.heap.size + 1, 0, none⟩) 2 kN := fun W h => Kd.C_below r1 h
 have q3 : ∀ W, KW w W → Kd.C k52 W (some ⟨w.heap.size + 5, 0, none⟩) 3 kR := fun W h => Kd.C_below r3 h
 have kU : ∀ W, KW w W → Calls Tryd.prog 23 #[.agg #[.slice (some ⟨w.heap.size, 0, none⟩) 2 2, .slice (some ⟨w.heap.size + 1, 0, none⟩) 2 2, .int .i64 0, .slice (some ⟨w.heap.size + 5, 0, none⟩) 3 3]] W fun e w' => e = .returned (.tuple #[.string ⟨#[69, 32, 58, 32, 69, 32, 43, 32, 84, 32, 124, 32, 84, 10, 84, 32, 58, 32, 105, 10]⟩, .nilIface]) ∧ Aside0 (KW w w') := fun W h => by
  refine (Text_calls ad _ 2 kT _ 2 kN 0 _ 3 kR W (hs.below h.low) (q0 W h) (Nat.le_refl 2) (q1 W h) (Nat.le_refl 2) (q3 W h) (Nat.le_refl 3)).mono ?_
  rw [h1]
  rintro e w' ⟨E, r, rfl, hE, hb⟩
  obtain rfl := hE.nil rfl
  exact ⟨rfl, ⟨h.more hb⟩⟩
 have kV0 : ∀ W, KW w W → Calls Tryd.prog 17 #[.agg #[.slice (some ⟨w.heap.size, 0, none⟩) 2 2, .slice (some ⟨w.heap.size + 1, 0, none⟩) 2 2, .int .i64 0, .slice (some ⟨w.heap.size + 5, 0, none⟩) 3 3], .int .i64 0] W fun e w' => e = .returned (.tuple #[.string ⟨#[69, 32, 58, 32, 69, 32, 43, 32, 84]⟩, .nilIface]) ∧ Aside0 (KW w w') := fun W h => by
  refine (Rule_calls ad _ 2 kT _ 2 kN 0 _ 3 kR 0 W (hs.below h.low) (q0 W h) (Nat.le_refl 2) (q1 W h) (Nat.le_refl 2) (q3 W h) (Nat.le_refl 3)).mono ?_
  rw [h2]
  rintro e w' ⟨E, rfl, hE, hb⟩
  obtain rfl := hE.nil rfl
  exact ⟨rfl, ⟨h.more hb⟩⟩
 have kV3 : ∀ W, KW w W → Calls Tryd.prog 17 #[.agg #[.slice (some ⟨w.heap.size, 0, none⟩) 2 2, .slice (some ⟨w.heap.size + 1, 0, none⟩) 2 2, .int .i64 0, .slice (some ⟨w.heap.size + 5, 0, none⟩) 3 3], .int .i64 3] W fun e w' => e = .returned (.tuple #[.string ⟨#[]⟩, .iface 178 (.pointer (some (ad 1)))]) ∧ Aside0 (KW w w') := fun W h => by
  refine (Rule_calls ad _ 2 kT _ 2 kN 0 _ 3 kR 3 W (hs.below h.low) (q0 W h) (Nat.le_refl 2) (q1 W h) (Nat.le_refl 2) (q3 W h) (Nat.le_refl 3)).mono ?_
  rw [h3]
  rintro e w' ⟨E, rfl, hE, hb⟩
  obtain rfl : E = .iface 178 (.pointer (some (ad 1))) := ErrW.own (k := 1) (ad := ad) (w := w') hE (by decide)
  exact ⟨rfl, ⟨h.more hb⟩⟩
 have kD : ∀ W, KW w W → Calls Tryd.prog 14 #[.iface 178 (.pointer (some (ad 1)))] W fun e w' => e = .returned (.int .i64 1) ∧ Aside0 (KW w w') := fun W h =>
  (Kind_w (hs.below h.low) (ErrW.sent (by decide) (by decide))).mono fun e w' ⟨he, hb⟩ => ⟨he, ⟨h.more hb⟩⟩
 have kY : ∀ (W : World) (q : Nat), q = W.heap.size → KW w W → Calls Tryd.prog 21 #[.agg #[.slice (some ⟨w.heap.size, 0, none⟩) 2 2, .slice (some ⟨w.heap.size + 1, 0, none⟩) 2 2, .int .i64 0, .slice (some ⟨w.heap.size + 5, 0, none⟩) 3 3], .slice (some ⟨q, 0, none⟩) 5 5] (W.alloc (.cells #[.int .i64 0, .int .i64 (-1), .int .i64 2, .int .i64 3, .int .i64 (-3)] 3)) fun e w' => e = .returned (.string ⟨#[43, 32, 69, 32, 36, 32, 63, 32, 63]⟩) ∧ Aside0 (KW w w') := fun W q hq h => by
  subst hq
  have hb' : Below W.heap.size W (W.alloc (.cells #[.int .i64 0, .int .i64 (-1), .int .i64 2, .int .i64 3, .int .i64 (-3)] 3)) := (Below.refl _ W).alloc (Nat.le_refl _) _
  have h' := h.more hb'
  refine (Symbols_calls _ 2 kT _ 2 kN 0 _ 3 kR (some ⟨W.heap.size, 0, none⟩) 5 [0, -1, 2, 3, -3] 1 _ (q0 _ h') (Nat.le_refl 2) (q1 _ h') (Nat.le_refl 2) (q3 _ h') (Nat.le_refl 3) (lit_I [0, -1, 2, 3, -3] (by simp) (heap_alloc_new W _)) (Nat.le_refl 5) (by decide) (by decide) (by decide) (by decide) (by decide)).mono ?_
  rw [h4]
  exact fun e w' ⟨he, hb⟩ => ⟨he, ⟨h'.more hb⟩⟩
 have KU := Aside0.mk kU
 have KV0 := Aside0.mk kV0
 have KV3 := Aside0.mk kV3
 have KD := Aside0.mk kD
 have KY := Aside0.mk kY
 have CE : Aside0 (∀ W, KW w W → W.cell? ⟨w.heap.size + 6, 0, none⟩ = some (.slice (some ⟨w.heap.size, 0, none⟩) 2 2) ∧ W.cell? ⟨w.heap.size + 6, 1, none⟩ = some (.slice (some ⟨w.heap.size + 1, 0, none⟩) 2 2) ∧ W.cell? ⟨w.heap.size + 6, 2, none⟩ = some (.int .i64 0) ∧ W.cell? ⟨w.heap.size + 6, 3, none⟩ = some (.slice (some ⟨w.heap.size + 5, 0, none⟩) 3 3)) := ⟨fun W h => h.cells⟩
 have T0 : Aside0 (KW w (kW w)) := ⟨Below.refl _ _⟩
 clear h1 h2 h3 h4 r0 r1 r3 q0 q1 q3 kU kV0 kV3 kD kY hs
 go_enter Tryd.func27, Tryd.ntmps27
 go_wp2_with (first
  | (go_at_call 23; refine Aside0.out ?_))
 refine Aside0.mk ?_
 refine (KU.out (kW w) T0.out).mono ?_
 rintro e w1 ⟨rfl, t1⟩
 obtain ⟨f0, f1, f2, f3⟩ := CE.out _ t1.out
 go_wp2_with (first
  | (go_at_call 17; (with_reducible refine (KV0.out _ t1.out).mono ?_); clear f0 f1 f2 f3; rintro e w2 ⟨rfl, t2⟩; obtain ⟨f0, f1, f2, f3⟩ := CE.out _ t2.out)
  | (go_at_call 17; (with_reducible refine (KV3.out _ t2.out).mono ?_); clear f0 f1 f2 f3; rintro e w3 ⟨rfl, t3⟩; obtain ⟨f0, f1, f2, f3⟩ := CE.out _ t3.out)
  | (go_at_call 14; (with_reducible refine (KD.out _ t3.out).mono ?_); clear f0 f1 f2 f3; rintro e w4 ⟨rfl, t4⟩; obtain ⟨f0, f1, f2, f3⟩ := CE.out _ t4.out)
  | (go_at_call 21; (with_reducible refine (KY.out _ _ ?hq t4.out).mono ?_); (case hq => simp); clear f0 f1 f2 f3; rintro e w5 ⟨rfl, t5⟩))
 go_ret
 exact ⟨rfl, t5.out.low⟩
end Go.Proofs.YthjhaogfpdkhbaaDoor.Sh
/- dovetailkit.Grammar: are two grammars one? (plain) -/
namespace Go.Proofs.YthjhaogfpdkhbaaDoor.B
open Go.RowKit YthjhaogfpdkhbaaDoorW.PrintWords YthjhaogfpdkhbaaDoorW.PrintLast YthjhaogfpdkhbaaDoorW.PrintMore

end Go.Proofs.YthjhaogfpdkhbaaDoor.B
/- Reading the words of a line, in plain Lean. -/
namespace Go.Proofs.YthjhaogfpdkhbaaDoor.P

def blankB (c : UInt8) : Bool := c == 32 || c == 9
def after : List UInt8 → Bool
 | [] => true
 | d :: _ => blankB d
abbrev Wd := List UInt8 × Bool × Nat
end Go.Proofs.YthjhaogfpdkhbaaDoor.P
/- Reading a line and what follows it, in plain Lean. -/
namespace Go.Proofs.YthjhaogfpdkhbaaDoor.P

def Asc (pos : Nat) : List Wd → Prop
 | [] => True
 | x :: l => pos ≤ x.2.2 ∧ Asc (x.2.2 + 1) l
theorem Asc.mono {p q : Nat} (h : q ≤ p) : ∀ {l : List Wd}, Asc p l → Asc q l
 | [], _ => trivial
 | x :: l, hl => ⟨by have := hl.1; omega, hl.2⟩
end Go.Proofs.YthjhaogfpdkhbaaDoor.P
/- A quoted text, read again; in plain Lean. -/
namespace Go.Proofs.YthjhaogfpdkhbaaDoor.P

end Go.Proofs.YthjhaogfpdkhbaaDoor.P
/- Chapter 5, in plain Lean: two readable grammars with one text are one grammar. -/
namespace Go.Proofs.YthjhaogfpdkhbaaDoor.P
open Go.RowKit
open B (S52)

end Go.Proofs.YthjhaogfpdkhbaaDoor.P
/- Chapter 5, in plain Lean: the texts of two readable grammars are the same just if the grammars are. -/
namespace Go.Proofs.YthjhaogfpdkhbaaDoor.P
open Go.RowKit
open B (S52)

section
variable {l0 l1 l0' l1' : List ByteArray} {a2 a2' : Int} {R R' : List S52}
end
end Go.Proofs.YthjhaogfpdkhbaaDoor.P
/- Text's two answers; the text tells the grammar. -/
namespace Go.Proofs.YthjhaogfpdkhbaaDoor.Sh
open Go.RowKit YthjhaogfpdkhbaaDoorW.PrintWords YthjhaogfpdkhbaaDoorW.PrintLast YthjhaogfpdkhbaaDoorW.PrintMore
open B H F
section
variable (ad : Int → Addr) (A0 : Option Addr) (c0 : Nat) (l0 : List ByteArray) (A1 : Option Addr) (c1 : Nat) (l1 : List ByteArray) (a2 : Int) (A3 : Option Addr) (c3 : Nat) (R : List S52) (w : World) (hs : SentsK ad w) (hr0 : Kd.C Kd.string w A0 l0.length l0) (hc0 : l0.length ≤ c0) (hr1 : Kd.C Kd.string w A1 l1.length l1) (hc1 : l1.length ≤ c1) (hr3 : Kd.C k52 w A3 R.length R) (hc3 : R.length ≤ c3)
include hs hr0 hc0 hr1 hc1 hr3 hc3
end
end Go.Proofs.YthjhaogfpdkhbaaDoor.Sh
/- dovetaillaw05.ShowRules: the walk (printed by tools/mk_showrw.py). -/
namespace Go.Proofs.YthjhaogfpdkhbaaDoor.Sh
open Go.RowKit YthjhaogfpdkhbaaDoorW.PrintWords YthjhaogfpdkhbaaDoorW.PrintLast YthjhaogfpdkhbaaDoorW.PrintMore
open B H F D
theorem ruleP_bad {l0 l1 : List ByteArray} {a2 : Int} {R : List S52} {n : Int} (h : (ruleP l0 l1 a2 R n).2.1 ≠ 0) : (ruleP l0 l1 a2 R n).1 = [] := by
 unfold ruleP at h ⊢
 split at h
 · rename_i hk
   split at h
   · rename_i hl; rw [if_pos hk, if_pos hl]
   · exact absurd rfl h
 · rename_i hk; rw [if_neg hk]
theorem ruleP_ok {l0 l1 : List ByteArray} {a2 : Int} {R : List S52} {n : Int} (h : (ruleP l0 l1 a2 R n).2.1 = 0) : (chk (namesOK l0) (namesOK l1) l0.length l1.length a2 R).1 = 0 ∧ 0 ≤ n ∧ n < (R.length : Int) ∧ (ruleP l0 l1 a2 R n).1 = P.ruleL l0 l1 (R.getD n.toNat ⟨0, []⟩) := by
 unfold ruleP at h ⊢
 split at h
 · rename_i hk
   split at h
   · exact absurd h (by decide)
   · rename_i hl
     rw [if_pos hk, if_neg hl]
     exact ⟨hk, by omega, by omega, rfl⟩
 · rename_i hk; exact absurd h hk
set_option maxHeartbeats 8000000 in
set_option maxRecDepth 100000 in
theorem ShowRules_0 (ad : Int → Addr) (A0 : Option Addr) (c0 : Nat) (l0 : List ByteArray) (A1 : Option Addr) (c1 : Nat) (l1 : List ByteArray) (a2 : Int) (A3 : Option Addr) (c3 : Nat) (R : List S52) (n : Int) (w : World) (hs : SentsK ad w) (hr0 : Kd.C Kd.string w A0 l0.length l0) (hc0 : l0.length ≤ c0) (hr1 : Kd.C Kd.string w A1 l1.length l1) (hc1 : l1.length ≤ c1) (hr3 : Kd.C k52 w A3 R.length R) (hc3 : R.length ≤ c3) (b0 : l0.length < 8796093022207) (b1 : l1.length < 8796093022207) (b3 : R.length < 4398046511104) (bx : ∀ x ∈ R, x.f1.length < 17592186044415) (n0 : -9223372036854775808 ≤ n) (n1 : n < 9223372036854775808) (hp : (ruleP l0 l1 a2 R n).2.1 ≠ 0) :
 Calls Tryd.prog 7 #[.agg #[.slice A0 l0.length c0, .slice A1 l1.length c1, .int .i64 a2, .slice A3 R.length c3], .int .i64 n] w fun e w' => e = .returned (.bool true) ∧ Below w.heap.size w w' := by
 obtain ⟨cs, hcs⟩ : ∃ cs : Array Value, cs = #[.slice A0 l0.length c0, .slice A1 l1.length c1, .int .i64 a2, .slice A3 R.length c3] := ⟨_, rfl⟩
 have st : GS w cs (w.alloc (.cells #[.slice A0 l0.length c0, .slice A1 l1.length c1, .int .i64 a2, .slice A3 R.length c3] 25)) := by subst hcs; exact GS.start w _
 have CE : ∀ W, GS w cs W → W.cell? ⟨w.heap.size, 0, none⟩ = some (.slice A0 l0.length c0) ∧ W.cell? ⟨w.heap.size, 1, none⟩ = some (.slice A1 l1.length c1) ∧ W.cell? ⟨w.heap.size, 2, none⟩ = some (.int .i64 a2) ∧ W.cell? ⟨w.heap.size, 3, none⟩ = some (.slice A3 R.length c3) := by
  intro W hW; subst hcs; exact hW.cells
 have kN : ∀ W, GS w cs W → Calls Tryd.prog 27 #[] W fun e w' => e = .returned (.bool true) ∧ Aside0 (GS w cs w') ∧ w'.cell? ⟨w.heap.size, 0, none⟩ = some (.slice A0 l0.length c0) ∧ w'.cell? ⟨w.heap.size, 1, none⟩ = some (.slice A1 l1.length c1) ∧ w'.cell? ⟨w.heap.size, 2, none⟩ = some (.int .i64 a2) ∧ w'.cell? ⟨w.heap.size, 3, none⟩ = some (.slice A3 R.length c3) := fun W hW => (known_calls ad W (hs.below hW.low)).mono fun e w' ⟨he, hb⟩ => ⟨he, ⟨hW.more hb⟩, CE _ (hW.more hb)⟩
 have kL : ∀ W, GS w cs W → Calls Tryd.prog 10 #[.agg #[.slice A0 l0.length c0, .slice A1 l1.length c1, .int .i64 a2, .slice A3 R.length c3]] W fun e w' => ∃ E0 e0 E1 e1 E3 e3, e = .returned (.agg #[.slice E0 l0.length e0, .slice E1 l1.length e1, .int .i64 a2, .slice E3 R.length e3]) ∧ Aside0 (MG w' E0 e0 l0 E1 e1 l1 E3 e3 R ∧ GS w cs w') :=
  fun W hW => (LentGrammar_m A0 c0 l0 A1 c1 l1 a2 A3 c3 R W (Kd.C_below hr0 hW.low) (Kd.C_below hr1 hW.low) (Kd.C_below hr3 hW.low) b0 b1 b3 bx).mono fun e w' ⟨E0, e0, E1, e1, E3, e3, he, hm⟩ => ⟨E0, e0, E1, e1, E3, e3, he, ⟨hm.out.1, hW.more hm.out.2⟩⟩
 have kR : ∀ W E0 e0 E1 e1 E3 e3, MG W E0 e0 l0 E1 e1 l1 E3 e3 R ∧ GS w cs W → Calls Tryd.prog 17 #[.agg #[.slice E0 l0.length e0, .slice E1 l1.length e1, .int .i64 a2, .slice E3 R.length e3], .int .i64 n] W fun e w' => ∃ E, e = .returned (.tuple #[.string ⟨(ruleP l0 l1 a2 R n).1.toArray⟩, E]) ∧ ErrW ad w' E (ruleP l0 l1 a2 R n).2 ∧ Below W.heap.size W w' := fun W E0 e0 E1 e1 E3 e3 hW =>
  Rule_calls ad E0 e0 l0 E1 e1 l1 a2 E3 e3 R n W (hs.below hW.2.low) (C_pre hW.1.r0) (by have := hW.1.h0; omega) (C_pre hW.1.r1) (by have := hW.1.h1; omega) hW.1.r3.reads (by have := hW.1.r3.1; omega)
 have kX : ∀ W E0 e0 E1 e1 E3 e3, MG W E0 e0 l0 E1 e1 l1 E3 e3 R ∧ GS w cs W → Calls Tryd.prog 17 #[.agg #[.slice E0 l0.length e0, .slice E1 l1.length e1, .int .i64 a2, .slice E3 R.length e3], .int .i64 n] W fun e w' => ∃ t u, e = .returned (.tuple #[.string ⟨#[]⟩, .iface t u]) ∧ Aside0 (GS w cs w') := fun W E0 e0 E1 e1 E3 e3 hW => (kR W E0 e0 E1 e1 E3 e3 hW).mono fun e w' ⟨E, he, hE, hb⟩ => by
  obtain ⟨t, u, rfl⟩ := hE.any hp
  rw [ruleP_bad hp] at he
  exact ⟨t, u, he, ⟨hW.2.more hb⟩⟩
 have ST := Aside0.mk st
 have KN := Aside0.mk kN
 have KL := Aside0.mk kL
 have KX := Aside0.mk kX
 have HCS := Lib.hid hcs
 clear st CE kN kL kR kX hcs hs hr0 hr1 hr3 hp b0 b1 b3 bx n0 n1
 go_enter Tryd.func7, Tryd.ntmps7
 go_wp2_with (first
  | (go_at_call 27; (with_reducible refine (KN.out _ ST.out).mono ?_); rintro e w2 ⟨rfl, t2, f0, f1, f2, f3⟩)
  | (go_at_call 10; (with_reducible refine (KL.out _ t2.out).mono ?_); clear f0 f1 f2 f3; rintro e w3 ⟨E0, e0, E1, e1, E3, e3, rfl, t3⟩)
  | (go_at_call 17; (with_reducible refine (KX.out _ _ _ _ _ _ _ t3.out).mono ?_); rintro e w4 ⟨tt, uu, rfl, t4⟩))
 go_ret
 exact ⟨rfl, t4.out.low⟩
set_option maxHeartbeats 8000000 in
set_option maxRecDepth 100000 in
theorem ShowRules_1 (ad : Int → Addr) (A0 : Option Addr) (c0 : Nat) (l0 : List ByteArray) (A1 : Option Addr) (c1 : Nat) (l1 : List ByteArray) (a2 : Int) (A3 : Option Addr) (c3 : Nat) (R : List S52) (n : Int) (w : World) (hs : SentsK ad w) (hr0 : Kd.C Kd.string w A0 l0.length l0) (hc0 : l0.length ≤ c0) (hr1 : Kd.C Kd.string w A1 l1.length l1) (hc1 : l1.length ≤ c1) (hr3 : Kd.C k52 w A3 R.length R) (hc3 : R.length ≤ c3) (b0 : l0.length < 8796093022207) (b1 : l1.length < 8796093022207) (b3 : R.length < 4398046511104) (bx : ∀ x ∈ R, x.f1.length < 17592186044415) (n0 : -9223372036854775808 ≤ n) (n1 : n < 9223372036854775808) (hp : (ruleP l0 l1 a2 R n).2.1 = 0) :
 Calls Tryd.prog 7 #[.agg #[.slice A0 l0.length c0, .slice A1 l1.length c1, .int .i64 a2, .slice A3 R.length c3], .int .i64 n] w fun e w' => e = .returned (.bool true) ∧ Below w.heap.size w w' := by
 obtain ⟨hck, h0n, hn, hrl⟩ := ruleP_ok hp
 obtain ⟨_, _, hs0, hs1, _, _, hok⟩ := chk_ok hck
 have z0 := names_small hs0
 have z1 := names_small hs1
 obtain ⟨cs, hcs⟩ : ∃ cs : Array Value, cs = #[.slice A0 l0.length c0, .slice A1 l1.length c1, .int .i64 a2, .slice A3 R.length c3] := ⟨_, rfl⟩
 have st : GS w cs (w.alloc (.cells #[.slice A0 l0.length c0, .slice A1 l1.length c1, .int .i64 a2, .slice A3 R.length c3] 25)) := by subst hcs; exact GS.start w _
 have CE : ∀ W, GS w cs W → W.cell? ⟨w.heap.size, 0, none⟩ = some (.slice A0 l0.length c0) ∧ W.cell? ⟨w.heap.size, 1, none⟩ = some (.slice A1 l1.length c1) ∧ W.cell? ⟨w.heap.size, 2, none⟩ = some (.int .i64 a2) ∧ W.cell? ⟨w.heap.size, 3, none⟩ = some (.slice A3 R.length c3) := by
  intro W hW; subst hcs; exact hW.cells
 have kN : ∀ W, GS w cs W → Calls Tryd.prog 27 #[] W fun e w' => e = .returned (.bool true) ∧ Aside0 (GS w cs w') ∧ w'.cell? ⟨w.heap.size, 0, none⟩ = some (.slice A0 l0.length c0) ∧ w'.cell? ⟨w.heap.size, 1, none⟩ = some (.slice A1 l1.length c1) ∧ w'.cell? ⟨w.heap.size, 2, none⟩ = some (.int .i64 a2) ∧ w'.cell? ⟨w.heap.size, 3, none⟩ = some (.slice A3 R.length c3) := fun W hW => (known_calls ad W (hs.below hW.low)).mono fun e w' ⟨he, hb⟩ => ⟨he, ⟨hW.more hb⟩, CE _ (hW.more hb)⟩
 have kL : ∀ W, GS w cs W → Calls Tryd.prog 10 #[.agg #[.slice A0 l0.length c0, .slice A1 l1.length c1, .int .i64 a2, .slice A3 R.length c3]] W fun e w' => ∃ E0 e0 E1 e1 E3 e3, e = .returned (.agg #[.slice E0 l0.length e0, .slice E1 l1.length e1, .int .i64 a2, .slice E3 R.length e3]) ∧ Aside0 (MG w' E0 e0 l0 E1 e1 l1 E3 e3 R ∧ GS w cs w') :=
  fun W hW => (LentGrammar_m A0 c0 l0 A1 c1 l1 a2 A3 c3 R W (Kd.C_below hr0 hW.low) (Kd.C_below hr1 hW.low) (Kd.C_below hr3 hW.low) b0 b1 b3 bx).mono fun e w' ⟨E0, e0, E1, e1, E3, e3, he, hm⟩ => ⟨E0, e0, E1, e1, E3, e3, he, ⟨hm.out.1, hW.more hm.out.2⟩⟩
 have kR : ∀ W E0 e0 E1 e1 E3 e3, MG W E0 e0 l0 E1 e1 l1 E3 e3 R ∧ GS w cs W → Calls Tryd.prog 17 #[.agg #[.slice E0 l0.length e0, .slice E1 l1.length e1, .int .i64 a2, .slice E3 R.length e3], .int .i64 n] W fun e w' => ∃ E, e = .returned (.tuple #[.string ⟨(ruleP l0 l1 a2 R n).1.toArray⟩, E]) ∧ ErrW ad w' E (ruleP l0 l1 a2 R n).2 ∧ Below W.heap.size W w' := fun W E0 e0 E1 e1 E3 e3 hW =>
  Rule_calls ad E0 e0 l0 E1 e1 l1 a2 E3 e3 R n W (hs.below hW.2.low) (C_pre hW.1.r0) (by have := hW.1.h0; omega) (C_pre hW.1.r1) (by have := hW.1.h1; omega) hW.1.r3.reads (by have := hW.1.r3.1; omega)
 have kX : ∀ W E0 e0 E1 e1 E3 e3, MG W E0 e0 l0 E1 e1 l1 E3 e3 R ∧ GS w cs W → Calls Tryd.prog 17 #[.agg #[.slice E0 l0.length e0, .slice E1 l1.length e1, .int .i64 a2, .slice E3 R.length e3], .int .i64 n] W fun e w' => e = .returned (.tuple #[.string ⟨(P.ruleL l0 l1 (R.getD n.toNat ⟨0, []⟩)).toArray⟩, .nilIface]) ∧ Aside0 (GS w cs w') ∧ w'.cell? ⟨w.heap.size, 0, none⟩ = some (.slice A0 l0.length c0) ∧ w'.cell? ⟨w.heap.size, 1, none⟩ = some (.slice A1 l1.length c1) ∧ w'.cell? ⟨w.heap.size, 2, none⟩ = some (.int .i64 a2) ∧ w'.cell? ⟨w.heap.size, 3, none⟩ = some (.slice A3 R.length c3) := fun W E0 e0 E1 e1 E3 e3 hW => (kR W E0 e0 E1 e1 E3 e3 hW).mono fun e w' ⟨E, he, hE, hb⟩ => by
  obtain rfl := hE.nil hp
  rw [hrl] at he
  exact ⟨he, ⟨hW.2.more hb⟩, CE _ (hW.2.more hb)⟩
 have hlt : n.toNat < R.length := by omega
 obtain ⟨ad3, A', c', e1, y0, y1, e4, e5⟩ := at_T52 hr3 n h0n (by omega)
 have hrd : rd_T52 R n = R[n.toNat] := by unfold rd_T52; rw [getD_lt R _ _ hlt]
 rw [hrd] at y0 y1 e4 e5
 rw [getD_lt R _ _ hlt] at kX
 have hxo := okR_sides (hok _ (List.getElem_mem hlt))
 generalize R[n.toNat] = x at y0 y1 e4 e5 hxo kX
 subst e1
 have CE2 : ∀ W, GS w cs W → W.cell? ⟨w.heap.size, 0, none⟩ = some (.slice A0 l0.length c0) ∧ W.cell? ⟨w.heap.size, 1, none⟩ = some (.slice A1 l1.length c1) ∧ W.cell? ⟨w.heap.size, 2, none⟩ = some (.int .i64 a2) ∧ W.cell? ⟨w.heap.size, 3, none⟩ = some (.slice (some ad3) R.length c3) ∧ W.cell? (ad3.add (n.toNat * 2)) = some (.int .i64 x.f0) ∧ W.cell? ⟨(ad3.add (n.toNat * 2)).block, (ad3.add (n.toNat * 2)).off + 1, none⟩ = some (.slice A' x.f1.length c') := fun W hW => by
  obtain ⟨f0, f1, f2, f3⟩ := CE W hW
  exact ⟨f0, f1, f2, f3, (hW.low.cell (World.block_lt_of_cell? w _ y0)).trans y0, (hW.low.cell (World.block_lt_of_cell? w _ y1)).trans y1⟩
 have kS : ∀ s : Int, -1000 ≤ s → s < 1000 → ∀ W, GS w cs W → Calls Tryd.prog 19 #[.agg #[.slice A0 l0.length c0, .slice A1 l1.length c1, .int .i64 a2, .slice (some ad3) R.length c3], .int .i64 s] W fun e w' => e = .returned (.string ⟨(P.symL l0 l1 s).toArray⟩) ∧ Aside0 (GS w cs w') ∧ w'.cell? ⟨w.heap.size, 0, none⟩ = some (.slice A0 l0.length c0) ∧ w'.cell? ⟨w.heap.size, 1, none⟩ = some (.slice A1 l1.length c1) ∧ w'.cell? ⟨w.heap.size, 2, none⟩ = some (.int .i64 a2) ∧ w'.cell? ⟨w.heap.size, 3, none⟩ = some (.slice (some ad3) R.length c3) ∧ w'.cell? (ad3.add (n.toNat * 2)) = some (.int .i64 x.f0) ∧ w'.cell? ⟨(ad3.add (n.toNat * 2)).block, (ad3.add (n.toNat * 2)).off + 1, none⟩ = some (.slice A' x.f1.length c') := fun s s0 s1 W hW =>
  (Symbol_calls A0 c0 l0 A1 c1 l1 a2 (some ad3) c3 R s 32 W (Kd.C_below hr0 hW.low) hc0 (Kd.C_below hr1 hW.low) hc1 (Kd.C_below hr3 hW.low) hc3 (by omega) z0 z1 (by omega) (by omega)).mono fun e w' ⟨he, hb⟩ => ⟨he, ⟨hW.more hb⟩, CE2 _ (hW.more hb)⟩
 have hlen0 : l0.length ≤ 60 := by have := (chk_ok hck).1; omega
 have hlen1 : l1.length ≤ 60 := by have := (chk_ok hck).1; omega
 have hrlen := (chk_ok hck).2.1
 have kS0 := kS (-1 - x.f0) (by omega) (by omega)
 have hw1 : wrap64 ((-1) - x.f0) = -1 - x.f0 := w64m x.f0 (by omega) (by omega)
 have hw2 : IntKind.i64.wrap ((-1) - x.f0) = -1 - x.f0 := (i64_w _).trans hw1
 have hq0 : (P.symL l0 l1 (-1 - x.f0)).length ≤ 132 := P.symL_length z0 z1 _
 have hqs : ∀ s, (P.symL l0 l1 s).length ≤ 132 := fun s => P.symL_length z0 z1 s
 have hql : ∀ k, (P.tlL l0 l1 (x.f1.take k)).length ≤ 4256 := fun k => by
  have h1 := P.tlL_length z0 z1 (x.f1.take k)
  have h2 : (x.f1.take k).length ≤ 32 := Nat.le_trans (by rw [List.length_take]; exact Nat.min_le_right _ _) hxo.1
  exact Nat.le_trans h1 (Nat.le_trans (Nat.mul_le_mul_left _ h2) (by decide))
 have hnd : decide (n < 0) = false := decide_eq_false (by omega)
 have hnd2 : decide ((R.length : Int) ≤ n) = false := decide_eq_false (by omega)
 obtain ⟨q0, hq0e⟩ : ∃ q0 : ByteArray, q0 = ⟨(P.symL l0 l1 (-1 - x.f0)).toArray⟩ := ⟨_, rfl⟩
 have hq0s : q0.size ≤ 132 := by rw [hq0e, P.size_lit]; exact hq0
 have hbc : ¬ 9223372036854775807 < q0.size + 2 := by omega
 rw [← hq0e] at kS0
 have HQ := Lib.hid hq0e
 have ST := Aside0.mk st
 have KN := Aside0.mk kN
 have KL := Aside0.mk kL
 have KX := Aside0.mk kX
 have KS0 := Aside0.mk kS0
 have KS := Aside0.mk kS
 have CE' := Aside0.mk CE2
 have HX := Aside0.mk e5
 have HCS := Lib.hid hcs
 have HXO := Aside0.mk hxo
 have HQS := Aside0.mk hqs
 have HQL := Aside0.mk hql
 obtain ⟨rs, hrs⟩ : ∃ rs : ByteArray, rs = ⟨(P.ruleL l0 l1 x).toArray⟩ := ⟨_, rfl⟩
 rw [← hrs] at KX
 have HRS := Lib.hid hrs
 clear st CE CE2 kN kL kR kX kS kS0 hcs hs hr0 hr1 hr3 hp b0 b1 b3 bx n0 n1 hck hrl hs0 hs1 hok z0 z1 y0 y1 e5 hrd hq0 hqs hql hq0e hrs hrlen hxo hq0s
 go_enter Tryd.func7, Tryd.ntmps7
 go_wp2_with (first
  | (go_at_call 27; (with_reducible refine (KN.out _ ST.out).mono ?_); rintro e w2 ⟨rfl, t2, f0, f1, f2, f3⟩)
  | (go_at_call 10; (with_reducible refine (KL.out _ t2.out).mono ?_); clear f0 f1 f2 f3; rintro e w3 ⟨E0, e0, E1, e1, E3, e3, rfl, t3⟩)
  | (go_at_call 17; (with_reducible refine (KX.out _ _ _ _ _ _ _ t3.out).mono ?_); rintro e w4 ⟨rfl, t4, f0, f1, f2, f3⟩))
 obtain ⟨g0, g1, g2, g3, y0, y1⟩ := CE'.out _ t4.out
 clear f0 f1 f2 f3
 go_region_held3 (fun W' => W'.cell? ⟨w.heap.size, 0, none⟩ = some (.slice A0 l0.length c0) ∧ W'.cell? ⟨w.heap.size, 1, none⟩ = some (.slice A1 l1.length c1) ∧ W'.cell? ⟨w.heap.size, 2, none⟩ = some (.int .i64 a2) ∧ W'.cell? ⟨w.heap.size, 3, none⟩ = some (.slice (some ad3) R.length c3) ∧ W'.cell? (ad3.add (n.toNat * 2)) = some (.int .i64 x.f0) ∧ W'.cell? ⟨(ad3.add (n.toNat * 2)).block, (ad3.add (n.toNat * 2)).off + 1, none⟩ = some (.slice A' x.f1.length c'))
  (go_keep)
  ((first
   | (go_at_call 19; (with_reducible refine (KS0.out _ ?_).mono ?_); exact (by first | exact t4.out | exact t4.out.more (Below.refl _ _).drew | exact t4.out.more (pw_below_drewN (Below.refl _ _) _)); rintro e w5 ⟨rfl, t5, f0, f1, f2, f3, f4, f5⟩)))
 clear g0 g1 g2 g3 y0 y1
 go_wp2_with fail
 go_loopw [7, 8] (fun s i wq => ∃ k : Nat, k ≤ x.f1.length ∧ i = .int .i64 k ∧ s = .string (q0 ++ ⟨#[32, 58]⟩ ++ ⟨(P.tlL l0 l1 (x.f1.take k)).toArray⟩) ∧ Aside0 (GS w cs wq)) (fun _ i _ => x.f1.length - (intOf i).toNat)
 case atStart => exact ⟨0, Nat.zero_le _, rfl, congrArg Value.string (by apply ba_eq; simp [P.tlL, P.data_append]), t5⟩
 case round =>
  clear t5
  obtain ⟨k, hk, rfl, rfl, tr⟩ := hrel
  have hqk : (q0 ++ ⟨#[32, 58]⟩ ++ ⟨(P.tlL l0 l1 (x.f1.take k)).toArray⟩ : ByteArray).size ≤ 5000 := by
   have s1 : (⟨(P.tlL l0 l1 (x.f1.take k)).toArray⟩ : ByteArray).size ≤ 4256 := by rw [P.size_lit]; exact HQL.out k
   have s2 : q0.size ≤ 132 := by rw [HQ.out, P.size_lit]; exact HQS.out _
   have s3 : (⟨#[32, 58]⟩ : ByteArray).size = 2 := rfl
   rw [ByteArray.size_append, ByteArray.size_append]
   omega
  by_cases hkl : k < x.f1.length
  · have hmem := List.getElem_mem hkl
    have hxo := HXO.out
    have hsr := hxo.2.2.2 _ hmem
    have hl32 := hxo.1
    obtain ⟨ad4, rfl, hx4⟩ := Kd.at_int HX.out (k : Int) (by omega) (by omega)
    rw [Int.toNat_natCast, rd_D, getD_lt _ _ _ hkl] at hx4
    have hfin : (q0 ++ ⟨#[32, 58]⟩ ++ ⟨(P.tlL l0 l1 (x.f1.take k)).toArray⟩ : ByteArray) ++ ⟨#[32]⟩ ++ ⟨(P.symL l0 l1 x.f1[k]).toArray⟩ = q0 ++ ⟨#[32, 58]⟩ ++ ⟨(P.tlL l0 l1 (x.f1.take (k + 1))).toArray⟩ := by
     apply ba_eq
     rw [List.take_succ_eq_append_getElem hkl, P.tlL_snoc]
     simp only [P.data_append]
     simp
    have hss : (⟨(P.symL l0 l1 x.f1[k]).toArray⟩ : ByteArray).size ≤ 132 := by rw [P.size_lit]; exact HQS.out _
    have kS1 := KS.out x.f1[k] (by omega) (by omega)
    generalize x.f1[k] = s at hx4 hfin hss kS1 hsr
    generalize (⟨(P.symL l0 l1 s).toArray⟩ : ByteArray) = qs at hfin hss kS1
    have HFIN := Lib.hid hfin
    clear hfin
    generalize (q0 ++ ⟨#[32, 58]⟩ ++ ⟨(P.tlL l0 l1 (x.f1.take k)).toArray⟩ : ByteArray) = q at hqk HFIN ⊢
    have b1 : ¬ 9223372036854775807 < q.size + 1 := by omega
    have b2 : ¬ 9223372036854775807 < q.size + 1 + qs.size := by omega
    have KS1 : Aside0 (∀ W, GS w cs W → Calls Tryd.prog 19 #[.agg #[.slice A0 l0.length c0, .slice A1 l1.length c1, .int .i64 a2, .slice (some ad3) R.length c3], .int .i64 s] W fun e w' => e = .returned (.string qs) ∧ Aside0 (GS w cs w') ∧ w'.cell? ⟨w.heap.size, 0, none⟩ = some (.slice A0 l0.length c0) ∧ w'.cell? ⟨w.heap.size, 1, none⟩ = some (.slice A1 l1.length c1) ∧ w'.cell? ⟨w.heap.size, 2, none⟩ = some (.int .i64 a2) ∧ w'.cell? ⟨w.heap.size, 3, none⟩ = some (.slice (some ad3) R.length c3) ∧ w'.cell? (ad3.add (n.toNat * 2)) = some (.int .i64 x.f0) ∧ w'.cell? ⟨(ad3.add (n.toNat * 2)).block, (ad3.add (n.toNat * 2)).off + 1, none⟩ = some (.slice (some ad4) x.f1.length c') ∧ w'.cell? (ad4.add k) = some (.int .i64 s)) := ⟨fun W hW => (kS1 W hW).mono fun e w' ⟨he, hg, f0, f1, f2, f3, f4, f5⟩ => ⟨he, hg, f0, f1, f2, f3, f4, f5, (hg.out.low.cell (World.block_lt_of_cell? w _ hx4)).trans hx4⟩⟩
    have hx5 := (tr.out.low.cell (World.block_lt_of_cell? w _ hx4)).trans hx4
    obtain ⟨g0, g1, g2, g3, y0, y1⟩ := CE'.out _ tr.out
    clear kS1 hx4 hsr hxo hmem
    go_wp2_with fail
    go_region_held3 (fun W' => W'.cell? ⟨w.heap.size, 0, none⟩ = some (.slice A0 l0.length c0) ∧ W'.cell? ⟨w.heap.size, 1, none⟩ = some (.slice A1 l1.length c1) ∧ W'.cell? ⟨w.heap.size, 2, none⟩ = some (.int .i64 a2) ∧ W'.cell? ⟨w.heap.size, 3, none⟩ = some (.slice (some ad3) R.length c3) ∧ W'.cell? (ad3.add (n.toNat * 2)) = some (.int .i64 x.f0) ∧ W'.cell? ⟨(ad3.add (n.toNat * 2)).block, (ad3.add (n.toNat * 2)).off + 1, none⟩ = some (.slice (some ad4) x.f1.length c') ∧ W'.cell? (ad4.add k) = some (.int .i64 s))
     (go_keep)
     ((first
      | (go_at_call 19; (with_reducible refine (KS1.out _ ?_).mono ?_); exact (by first | exact tr.out | exact tr.out.more (Below.refl _ _).drew | exact tr.out.more (pw_below_drewN (Below.refl _ _) _)); rintro e w6 ⟨rfl, t6, f0, f1, f2, f3, f4, f5, f6⟩)))
    clear g0 g1 g2 g3 y0 y1 hx5
    go_wp2_with fail
    go_roundw
    case measure => simp [intOf]; omega
    case rel => exact ⟨k + 1, by omega, by go_num, by rw [HFIN.out], t6⟩
  · obtain rfl : k = x.f1.length := by omega
    have hfin : (q0 ++ ⟨#[32, 58]⟩ ++ ⟨(P.tlL l0 l1 (x.f1.take x.f1.length)).toArray⟩ : ByteArray) = rs := by
     rw [HRS.out, HQ.out]
     apply ba_eq
     unfold P.ruleL
     rw [List.take_length]
     simp only [P.data_append]
    rw [hfin]
    obtain ⟨g0, g1, g2, g3, y0, y1⟩ := CE'.out _ tr.out
    clear hqk hfin
    go_wp2_with fail
    go_ret
    exact ⟨rfl, tr.out.low⟩
theorem ShowRules_calls (ad : Int → Addr) (A0 : Option Addr) (c0 : Nat) (l0 : List ByteArray) (A1 : Option Addr) (c1 : Nat) (l1 : List ByteArray) (a2 : Int) (A3 : Option Addr) (c3 : Nat) (R : List S52) (n : Int) (w : World) (hs : SentsK ad w) (hr0 : Kd.C Kd.string w A0 l0.length l0) (hc0 : l0.length ≤ c0) (hr1 : Kd.C Kd.string w A1 l1.length l1) (hc1 : l1.length ≤ c1) (hr3 : Kd.C k52 w A3 R.length R) (hc3 : R.length ≤ c3) (b0 : l0.length < 8796093022207) (b1 : l1.length < 8796093022207) (b3 : R.length < 4398046511104) (bx : ∀ x ∈ R, x.f1.length < 17592186044415) (n0 : -9223372036854775808 ≤ n) (n1 : n < 9223372036854775808) :
 Calls Tryd.prog 7 #[.agg #[.slice A0 l0.length c0, .slice A1 l1.length c1, .int .i64 a2, .slice A3 R.length c3], .int .i64 n] w fun e w' => e = .returned (.bool true) ∧ Below w.heap.size w w' := by
 by_cases hp : (ruleP l0 l1 a2 R n).2.1 = 0
 · exact ShowRules_1 ad A0 c0 l0 A1 c1 l1 a2 A3 c3 R n w hs hr0 hc0 hr1 hc1 hr3 hc3 b0 b1 b3 bx n0 n1 hp
 · exact ShowRules_0 ad A0 c0 l0 A1 c1 l1 a2 A3 c3 R n w hs hr0 hc0 hr1 hc1 hr3 hc3 b0 b1 b3 bx n0 n1 hp
end Go.Proofs.YthjhaogfpdkhbaaDoor.Sh
namespace Go.Proofs.YthjhaogfpdkhbaaDoor.showRules
open Go.ChangeShapes Go.WideShapes Go.ChangeAt Go.RowKit YthjhaogfpdkhbaaDoorW.PrintWords H B

theorem own : ownKnob Tryd.prog.godebug = none := by kernel_rfl
theorem laidOut : laidOutB Tryd.prog = true := by kernel_rfl
theorem bounds_i {n : Int} (h : (Lit.int .i64 n).wf = true) : -9223372036854775808 ≤ n ∧ n < 9223372036854775808 := by
 have h1 : IntKind.i64.min = -9223372036854775808 := by decide
 have h2 : IntKind.i64.max = 9223372036854775807 := by decide
 have h3 : (decide (IntKind.i64.min ≤ n) && decide (n ≤ IntKind.i64.max)) = true := h
 rw [h1, h2] at h3
 simp only [Bool.and_eq_true, decide_eq_true_eq] at h3
 omega

set_option maxRecDepth 100000 in
theorem contract (H : Type) (enc : TypeId × Value → H) (W : World) (base : Nat) (args : Array Value) (ds gs : List (DataW H)) (before : List MemPlace)
 (hval : ∀ (j : Nat) t v, Tryd.f7.params[j]? = some t → args[j]? = some v → Value.okWide Tryd.prog W .any base t v)
 (ad : Int → Addr) (hs : SentsK ad W)
 (hz : (DataW.weightsEach Tryd.prog (Tryd.f7.params.toList ++ (OpenSpec.ofChange Rows.showRulesSpec).bare.plain.varTypes Tryd.prog) (ds ++ gs)).all (· ≤ reachBytes) = true)
 (hW : DataW.Whole enc Tryd.prog Tryd.f7.params.toList Rows.showRulesSpec.vars false W args.toList ds gs before) :
 Calls Tryd.prog 7 args W fun e W' => ∃ v, e = .returned v ∧ Rows.showRulesSpec.post enc Tryd.prog Tryd.f7 false true false false W args v W' := by
 have hW' := hW
 obtain ⟨p, q, hA0, hV, rfl, hfz, hnd⟩ := hW
 have hA : DataW.TrodAll enc Tryd.prog W 0 (fun _ => true) true Tryd.f7.params.toList args.toList ds p := hA0
 rw [Tryd.params7] at hA hval
 obtain ⟨v0, vs0, d0, ds0, p0, q0, hargs, rfl, rfl, h0, r0⟩ := trodAll_cons hA
 obtain ⟨v1, vs1, d1, ds1, p1, q1, rfl, rfl, rfl, h1, r1⟩ := trodAll_cons r0
 obtain ⟨rfl, rfl, rfl⟩ := trodAll_nil r1
 obtain rfl : args = #[v0, v1] := by cases args; simp_all
 obtain ⟨rfl, rfl⟩ := trodVars_none hV
 obtain ⟨g0, A00, c00, A01, c01, A03, c03, rfl, l00, k00, l01, k01, l03, k03, z00, z01, z03, zx0⟩ := OG.open_gz (hval 0 25 v0 rfl rfl) h0 (fun n hn => by simpa using List.all_eq_true.1 hz n (DataW.weights_mem_each (j := 0) (by kernel_rfl) rfl n hn))
 have e1 := h1
 obtain ⟨n1, rfl, rfl, rfl, w1⟩ := open_int Tryd.underlying3 (hval 1 3 v1 rfl rfl) e1
 refine (Sh.ShowRules_calls ad A00 c00 g0.f0 A01 c01 g0.f1 g0.f2 A03 c03 g0.f3 n1 W hs k00 l00 k01 l01 k03 l03 z00 z01 z03 zx0 (bounds_i w1).1 (bounds_i w1).2).mono fun e W' ⟨he, bel⟩ => ?_
 subst he
 simp only [List.append_nil] at hW'
 exact ⟨_, rfl, _, _, _, [], _, [], hW', trodAll_mk1 (shut_bool Tryd.underlying4 _), (trodAll_cons_mk (Below.trod laidOut (by kernel_rfl) (of_decide_eq_true (by kernel_rfl)) h0 bel (trod_below h0)) (trodAll_cons_mk (Below.trod laidOut (by kernel_rfl) (of_decide_eq_true (by kernel_rfl)) h1 bel (trod_below h1)) trodAll_mk0)), rfl, bel.frame _, fun h => by cases h⟩

theorem laid_met (os : Os) (args : Array Value) : laidMetH Tryd.prog Rows.showRulesRow.laid ((laidWorld16 os).forCall (fun _ _ => 0) ⟨#[], args, []⟩).memory := L15.laid_met os args
theorem sents {W : World} (h : laidMetH Tryd.prog Rows.showRulesRow.laid W) : ∃ ad, SentsK ad W := L15.sents h
theorem reads (os : Os) {H : Type} (enc : TypeId × Value → H) : ∃ places, DataW.whole enc Tryd.prog ((laidWorld16 os).forCall (fun _ _ => 0) ⟨#[], #[Value.agg #[.slice none 0 0, .slice none 0 0, .int .i64 0, .slice none 0 0], Value.int .i64 0], []⟩).memory Tryd.f7.params.toList Rows.showRulesSpec.vars false (#[Value.agg #[.slice none 0 0, .slice none 0 0, .int .i64 0, .slice none 0 0], Value.int .i64 0] : Array Value).toList 8 = some ([.agg [.nil, .nil, .lit (.int .i64 0), .nil], .lit (.int .i64 0)], [], places) :=
 ⟨[], by kernel_rfl⟩

set_option maxRecDepth 100000 in
theorem lifted (os : Os) (started : os.Started) (H : Type) (enc : TypeId × Value → H) (F : Stop.Interp) :
 ReturnsInHanded {} Tryd.checked os 7 .any ((OpenSpec.ofChange Rows.showRulesSpec).preRow enc Tryd.prog Tryd.f7 Rows.showRulesRow.domain false Rows.showRulesRow.laid) (((OpenSpec.ofChange Rows.showRulesSpec).at F).post enc Tryd.prog Tryd.f7 false true false false) := by
 obtain ⟨places, hx⟩ := reads os enc
 refine returnsInHanded_of_row (C := Tryd.checked) (s := OpenSpec.ofChange Rows.showRulesSpec) own started (by kernel_rfl) Tryd.func7
  (witness_row_atRef (enc := enc) (C := Tryd.checked) false (laidWorld16 os) #[Value.agg #[.slice none 0 0, .slice none 0 0, .int .i64 0, .slice none 0 0], Value.int .i64 0] rfl (by kernel_rfl) (by kernel_rfl) (by kernel_rfl)
   (OpenSpec.preRow_of_cond 8 hx (by kernel_rfl) (fun k hk => by cases hk) (by kernel_rfl) (laid_met os _))) ?_
 intro W base args ds gs before hval hW _ hcond hz hL _ _
 obtain ⟨ad, hs⟩ := sents hL
 exact contract H enc W base args ds gs before hval ad hs hz hW

theorem said : Rows.ShowRulesSaid :=
 OpenClaim.holds_of_cond 7 Tryd.f7 rfl rfl rfl rfl rfl rfl rfl ⟨rfl, rfl, rfl, rfl, rfl⟩ rfl rfl rfl rfl rfl (by kernel_rfl) Tryd.func7 (by kernel_rfl)
  (of_decide_eq_true (by kernel_rfl)) (by unfold Func.isWrapper; first | (rw [if_pos (by decide +kernel)]; kernel_rfl) | (rw [if_neg (by decide +kernel)]; exact ⟨rfl, rfl⟩))
  (fun os started H enc _ F => by rw [OpenClaim.pre_eq_preRow]; exact lifted os started H enc F)

theorem plain (f : FuncId) (fn : Func) (hf : Tryd.pinned.checked.prog.funcNamed "dovetail/dovetaillaw05.ShowRules" = some f) (hfn : Tryd.pinned.checked.prog.funcs[f]? = some fn) :
 true = Tryd.pinned.checked.prog.looks [] ∧ ∀ (j : Nat) t, fn.params[j]? = some t → Tryd.pinned.checked.prog.wantsStandIn t = false := by
 obtain rfl : f = 7 := Option.some.inj ((show Tryd.prog.funcNamed "dovetail/dovetaillaw05.ShowRules" = some 7 by kernel_rfl).symm.trans hf) |>.symm
 obtain rfl : fn = Tryd.f7 := (Option.some.inj (Tryd.func7.symm.trans hfn)).symm
 refine ⟨by kernel_rfl, fun j t ht => ?_⟩
 rw [Tryd.params7] at ht
 have hm : t = 25 ∨ t = 3 := by simpa using Array.mem_of_getElem? ht
 rcases hm with rfl | rfl
 · exact (show Tryd.prog.wantsStandIn 25 = false by kernel_rfl)
 · exact (show Tryd.prog.wantsStandIn 3 = false by kernel_rfl)

theorem proved : Rows.ShowRulesCardSaid :=
 Claim7.holds_tied_plain_at .later [] _ _ _ _ said (fun _ h => by cases h) (by kernel_rfl) (fun _ h => by cases h) showRules_row_tie rfl ⟨rfl, rfl⟩ (by kernel_rfl) rfl plain (by kernel_rfl)
#print axioms proved
end Go.Proofs.YthjhaogfpdkhbaaDoor.showRules
