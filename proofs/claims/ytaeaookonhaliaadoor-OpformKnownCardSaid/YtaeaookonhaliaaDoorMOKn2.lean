/-
 dovetaillaw06.OpformKnown: whatever is handed in, the call answers true, and each argument reads as it did.
 Conditions: those of the given statement OpformKnownCardSaid alone.
-/
import Derived.Test.YtaeaookonhaliaaDoorMOKn1
import Derived.Deep.MidRow
import Derived.Lib.Builder
import Derived.ChangeKeysEq
import Derived.DeepKeys
import Derived.RangeFuncNested
import Derived.RangeFuncBound
import Derived.RangeFuncCalls
import Derived.RangeFuncLeaves
import Derived.Shelf.Abstract
import Derived.Shelf.RegionOpen
import Derived.WalkKit
import Derived.OwnWalkIn
import Derived.TacticsInMore
import Derived.LoopNIn
import Derived.LoopIn
import Derived.Test.YtaeaookonhaliaaDoorChecked
import Derived.RangeFuncOne
import Derived.Deep.Onto
import Derived.ArgAppend
import Derived.OwnWalk
import Derived.BigQuiet
import Derived.StillTailTactics
import Derived.Sort.CutIn
import Derived.Maps.OwnIn
import Derived.Test.YtaeaookonhaliaaDoorCards
import Derived.Test.YtaeaookonhaliaaDoorTie
import Derived.LaidLaws
import Derived.LaidHandle
import Derived.Lib.LaidTab
import Derived.Lib.LaidIn
import Derived.SevenTiedAt
import Derived.WideShapes
import Derived.JoinedCond
import Derived.ChangeMaps5
import Derived.SizedLaws
import Derived.Deep.DeepHandedRow
import Derived.Deep.DeepWitnessRowRef
/- gram.Check: what it answers, whatever the grammar. -/
set_option linter.unusedVariables false
set_option linter.unusedSimpArgs false
namespace Go.Proofs.YtaeaookonhaliaaDoor.B
open Go.RowKit YtaeaookonhaliaaDoorW.PrintWords YtaeaookonhaliaaDoorW.PrintLast YtaeaookonhaliaaDoorW.PrintMore

def Sents (ad : Int → Addr) (w : World) : Prop := w.cell? ⟨3, 0, none⟩ = some (.iface 114 (.pointer (some (ad 3)))) ∧ w.cell? ⟨9, 0, none⟩ = some (.iface 114 (.pointer (some (ad 10)))) ∧ w.cell? ⟨1, 0, none⟩ = some (.iface 114 (.pointer (some (ad 1))))
theorem Sents.below {ad : Int → Addr} {w w' : World} (h : Sents ad w) (hb : Below w.heap.size w w') : Sents ad w' :=
 ⟨(hb.cell (World.block_lt_of_cell? w _ h.1)).trans h.1, (hb.cell (World.block_lt_of_cell? w _ h.2.1)).trans h.2.1, (hb.cell (World.block_lt_of_cell? w _ h.2.2)).trans h.2.2⟩
def checkR (t n : Nat) (x : S55) : Int := if 32 < x.f1.length then 3 else if x.f0 < 0 ∨ (n : Int) ≤ x.f0 ∨ x.f1.any (outS t n) = true then 1 else 0
def chkRs (t n : Nat) : List S55 → Nat → Int × Int
 | [], _ => (0, -1)
 | x :: l, j => if checkR t n x = 0 then chkRs t n l (j + 1) else (checkR t n x, (j : Int))
theorem chkRs_drop (t n : Nat) (R : List S55) (j : Nat) (h : j < R.length) : chkRs t n (R.drop j) j = if checkR t n R[j] = 0 then chkRs t n (R.drop (j + 1)) (j + 1) else (checkR t n R[j], (j : Int)) := by
 rw [List.drop_eq_getElem_cons h, chkRs]
def chk (b0 b1 : Bool) (l0 l1 : Nat) (a2 : Int) (R : List S55) : Int × Int :=
 if 60 < l0 + l1 ∨ 120 < R.length then (3, -1) else if (b0 && b1) = false then (10, -1) else if a2 < 0 ∨ (l1 : Int) ≤ a2 then (1, -1) else chkRs l0 l1 R 0
theorem checkR_cases (t n : Nat) (x : S55) : checkR t n x = 0 ∧ okR t n x = true ∨ (checkR t n x = 3 ∨ checkR t n x = 1) ∧ okR t n x = false := by
 unfold checkR okR
 by_cases c1 : 32 < x.f1.length
 · rw [if_pos c1]; right; simp; omega
 · rw [if_neg c1]
   by_cases c2 : x.f0 < 0 ∨ (n : Int) ≤ x.f0 ∨ x.f1.any (outS t n) = true
   · rw [if_pos c2]; right
     refine ⟨.inr rfl, ?_⟩
     rcases c2 with c | c | c
     · simp [show ¬ (0 ≤ x.f0) from by omega]
     · simp [show ¬ (x.f0 < (n : Int)) from by omega]
     · simp [c]
   · rw [if_neg c2]; left
     simp only [not_or, Bool.not_eq_true] at c2
     refine ⟨rfl, ?_⟩
     simp [c2.2.2, show x.f1.length ≤ 32 from by omega, show 0 ≤ x.f0 from by omega, show x.f0 < (n : Int) from by omega]
def ErrV (ad : Int → Addr) (w : World) (v : Value) (p : Int × Int) : Prop :=
 (p.1 = 0 ∧ p.2 = -1 ∧ v = .nilIface) ∨ ((p.1 = 3 ∨ p.1 = 10 ∨ p.1 = 1) ∧ p.2 = -1 ∧ v = .iface 114 (.pointer (some (ad p.1)))) ∨
 ((p.1 = 3 ∨ p.1 = 1) ∧ 0 ≤ p.2 ∧ p.2 < 120 ∧ ∃ b, v = .iface 66 (.pointer (some ⟨b, 0, none⟩)) ∧ w.heap[b]? = some (.cells #[.int .i64 p.2, .iface 114 (.pointer (some (ad p.1)))] 68 (0, 0)))
def CheckPost (ad : Int → Addr) (w : World) (p : Int × Int) (e : Ending) (w' : World) : Prop := (∃ v, e = .returned v ∧ ErrV ad w' v p) ∧ Below w.heap.size w w'
theorem ErrV.some {ad : Int → Addr} {w : World} {v : Value} {p : Int × Int} (h : ErrV ad w v p) (h0 : p.1 ≠ 0) : ∃ t u, v = .iface t u := by
 rcases h with h | h | h
 · exact absurd h.1 h0
 · exact ⟨_, _, h.2.2⟩
 · obtain ⟨_, _, _, b, h, _⟩ := h; exact ⟨_, _, h⟩
def ruleV (ad : Int → Addr) (c : Int) : Value := if c = 0 then .nilIface else .iface 114 (.pointer (some (ad c)))

set_option maxHeartbeats 1000000 in
set_option maxRecDepth 100000 in
theorem Rule_full (ad : Int → Addr) (A0 : Option Addr) (c0 t : Nat) (A1 : Option Addr) (c1 n : Nat) (a2 : Int) (v3 : Value) (x : S55) (A : Option Addr) (c : Nat) (w : World) (hg : Sents ad w) (ht : t ≤ 60) (hn : n ≤ 60) (hr : Kd.C (Kd.int .i64) w A x.f1.length x.f1) (hc : x.f1.length ≤ c) :
 Calls Tryd.prog 42 #[.agg #[.slice A0 t c0, .slice A1 n c1, .int .i64 a2, v3], .agg #[.int .i64 x.f0, .slice A x.f1.length c]] w fun e w' => e = .returned (ruleV ad (checkR t n x)) ∧ Below w.heap.size w w' := by
 obtain ⟨x0, x1⟩ := x
 dsimp only at hr hc ⊢
 have hB1 := (Box.new w #[.slice A0 t c0, .slice A1 n c1, .int .i64 a2, v3] 29).alloc (.cells #[.int .i64 x0, .slice A x1.length c] 55)
 have hb : Below w.heap.size w ((w.alloc (.cells #[.slice A0 t c0, .slice A1 n c1, .int .i64 a2, v3] 29)).alloc (.cells #[.int .i64 x0, .slice A x1.length c] 55)) := ((Below.refl _ w).alloc (Nat.le_refl _) _).alloc (by simp) _
 have hcall := ContS_calls A x1 c w.heap.size t n c0 c1 A0 A1 _ ht hn (hB1.cell 0 _ rfl) (hB1.cell 1 _ rfl) (Kd.C_below hr hb) hc
 obtain ⟨h0, h1, h2⟩ := hg.below hb
 have HB := Aside0.mk hb
 have H0 : ∀ w', Below ((w.alloc (.cells #[.slice A0 t c0, .slice A1 n c1, .int .i64 a2, v3] 29)).alloc (.cells #[.int .i64 x0, .slice A x1.length c] 55)).heap.size ((w.alloc (.cells #[.slice A0 t c0, .slice A1 n c1, .int .i64 a2, v3] 29)).alloc (.cells #[.int .i64 x0, .slice A x1.length c] 55)) w' → w'.cell? ⟨1, 0, none⟩ = some (.iface 114 (.pointer (some (ad 1)))) := fun w' hb' => (hb'.cell (World.block_lt_of_cell? _ _ h2)).trans h2
 by_cases k1 : x1.length ≤ 32
 · have b1 : decide ((32 : Int) < x1.length) = false := decide_eq_false (by omega)
   have b1' : decide (32 < x1.length) = false := decide_eq_false (by omega)
   by_cases k2 : x0 < 0
   · have b2 : decide (x0 < 0) = true := decide_eq_true k2
     have HE := Lib.hid (show ruleV ad (checkR t n ⟨x0, x1⟩) = .iface 114 (.pointer (some (ad 1))) by simp [ruleV, checkR, show ¬ 32 < x1.length from by omega, k2])
     clear hr hcall hB1 hb H0
     go_enter Tryd.func42, Tryd.ntmps42
     go_wp2_with fail
     go_ret
     exact ⟨by rw [HE.out]; rfl, HB.out⟩
   · have b2 : decide (x0 < 0) = false := decide_eq_false k2
     by_cases k3 : (n : Int) ≤ x0
     · have b3 : decide ((n : Int) ≤ x0) = true := decide_eq_true k3
       have HE := Lib.hid (show ruleV ad (checkR t n ⟨x0, x1⟩) = .iface 114 (.pointer (some (ad 1))) by simp [ruleV, checkR, show ¬ 32 < x1.length from by omega, k3])
       clear hr hcall hB1 hb H0
       go_enter Tryd.func42, Tryd.ntmps42
       go_wp2_with fail
       go_ret
       exact ⟨by rw [HE.out]; rfl, HB.out⟩
     · have b3 : decide ((n : Int) ≤ x0) = false := decide_eq_false k3
       cases hany : x1.any (outS t n) with
       | true =>
        rw [hany] at hcall
        have HE := Lib.hid (show ruleV ad (checkR t n ⟨x0, x1⟩) = .iface 114 (.pointer (some (ad 1))) by simp [ruleV, checkR, hany, show ¬ 32 < x1.length from by omega])
        have HC := Aside0.mk hcall
        have HH := Aside0.mk H0
        clear hr hcall hB1 hb hany H0
        go_enter Tryd.func42, Tryd.ntmps42
        go_wp2_with (go_at_call 53; (with_reducible refine HC.out.mono ?_); rintro e w' ⟨rfl, hb'⟩; have q2 := HH.out _ hb')
        go_ret
        exact ⟨by rw [HE.out]; rfl, HB.out.trans (hb'.mono HB.out.size)⟩
       | false =>
        rw [hany] at hcall
        have HE := Lib.hid (show ruleV ad (checkR t n ⟨x0, x1⟩) = .nilIface by simp [ruleV, checkR, hany, show ¬ 32 < x1.length from by omega, k2, k3])
        have HC := Aside0.mk hcall
        clear hr hcall hB1 hb hany H0
        go_enter Tryd.func42, Tryd.ntmps42
        go_wp2_with (go_at_call 53; (with_reducible refine HC.out.mono ?_); rintro e w' ⟨rfl, hb'⟩)
        go_ret
        exact ⟨by rw [HE.out]; rfl, HB.out.trans (hb'.mono HB.out.size)⟩
 · have b1 : decide ((32 : Int) < x1.length) = true := decide_eq_true (by omega)
   have b1' : decide (32 < x1.length) = true := decide_eq_true (by omega)
   have HE := Lib.hid (show ruleV ad (checkR t n ⟨x0, x1⟩) = .iface 114 (.pointer (some (ad 3))) by simp [ruleV, checkR, show 32 < x1.length from by omega])
   clear hr hcall hB1 hb H0
   go_enter Tryd.func42, Tryd.ntmps42
   go_wp2_with fail
   go_ret
   exact ⟨by rw [HE.out]; rfl, HB.out⟩
set_option maxHeartbeats 1500000 in
set_option maxRecDepth 100000 in
theorem Check_full (ad : Int → Addr) (k : Nat) (A0 : Option Addr) (c0 : Nat) (l0 : List ByteArray) (A1 : Option Addr) (c1 : Nat) (l1 : List ByteArray) (a2 : Int) (A3 : Option Addr) (c3 : Nat) (l3 : List S55) (b0 b1 : Bool) (w : World) (hG : Sents ad w) (hr0 : Kd.C Kd.string w A0 l0.length l0) (hc0 : l0.length ≤ c0) (hr1 : Kd.C Kd.string w A1 l1.length l1) (hc1 : l1.length ≤ c1) (hr3 : Kd.C k55 w A3 l3.length l3) (hc3 : l3.length ≤ c3)
 (hn0 : gram_names.f k l0 = some b0) (hn1 : gram_names.f k l1 = some b1) :
 Calls Tryd.prog 26 #[.agg #[.slice A0 l0.length c0, .slice A1 l1.length c1, .int .i64 a2, .slice A3 l3.length c3]] w (CheckPost ad w (chk b0 b1 l0.length l1.length a2 l3)) := by
 obtain ⟨x0, x1, x2⟩ := id hG
 obtain ⟨Tw, hT⟩ : ∃ Tw : World → Prop, ∀ W, Tw W ↔ (Below w.heap.size w W ∧ Box w.heap.size #[.slice A0 l0.length c0, .slice A1 l1.length c1, .int .i64 a2, .slice A3 l3.length c3] 29 W) := ⟨_, fun _ => Iff.rfl⟩
 have start : Tw (w.alloc (.cells #[.slice A0 l0.length c0, .slice A1 l1.length c1, .int .i64 a2, .slice A3 l3.length c3] 29)) := (hT _).2 ⟨(Below.refl _ w).alloc (Nat.le_refl _) _, Box.new w _ _⟩
 have cells : ∀ W, Tw W → W.cell? ⟨w.heap.size, 0, none⟩ = some (.slice A0 l0.length c0) ∧ W.cell? ⟨w.heap.size, 1, none⟩ = some (.slice A1 l1.length c1) ∧ W.cell? ⟨w.heap.size, 2, none⟩ = some (.int .i64 a2) ∧ W.cell? ⟨w.heap.size, 3, none⟩ = some (.slice A3 l3.length c3) ∧ W.cell? ⟨3, 0, none⟩ = some (.iface 114 (.pointer (some (ad 3)))) ∧ W.cell? ⟨9, 0, none⟩ = some (.iface 114 (.pointer (some (ad 10)))) ∧ W.cell? ⟨1, 0, none⟩ = some (.iface 114 (.pointer (some (ad 1)))) := by
  intro W hW
  have hb := ((hT W).1 hW).1
  have h3' := ((hT W).1 hW).2
  exact ⟨h3'.cell 0 _ rfl, h3'.cell 1 _ rfl, h3'.cell 2 _ rfl, h3'.cell 3 _ rfl, (hb.cell (World.block_lt_of_cell? w _ x0)).trans x0, (hb.cell (World.block_lt_of_cell? w _ x1)).trans x1, (hb.cell (World.block_lt_of_cell? w _ x2)).trans x2⟩
 have more : ∀ W W', Tw W → Below W.heap.size W W' → Tw W' := fun W W' h hb => (hT W').2 ⟨((hT W).1 h).1.trans (hb.mono ((hT W).1 h).1.size), ((hT W).1 h).2.below hb⟩
 have last : ∀ W, Tw W → Below w.heap.size w W := fun W h => ((hT W).1 h).1
 clear hT
 have key0 : ∀ W, Tw W → Calls Tryd.prog 41 #[.slice A0 l0.length c0] W fun e W => e = .returned (.bool b0) ∧ Aside0 (Tw W) ∧ W.cell? ⟨w.heap.size, 0, none⟩ = some (.slice A0 l0.length c0) ∧ W.cell? ⟨w.heap.size, 1, none⟩ = some (.slice A1 l1.length c1) ∧ W.cell? ⟨w.heap.size, 2, none⟩ = some (.int .i64 a2) ∧ W.cell? ⟨w.heap.size, 3, none⟩ = some (.slice A3 l3.length c3) ∧ W.cell? ⟨3, 0, none⟩ = some (.iface 114 (.pointer (some (ad 3)))) ∧ W.cell? ⟨9, 0, none⟩ = some (.iface 114 (.pointer (some (ad 10)))) ∧ W.cell? ⟨1, 0, none⟩ = some (.iface 114 (.pointer (some (ad 1)))) := by
  intro W hW
  refine (gram_names.calls k A0 c0 l0 b0 W (Kd.C_below hr0 (last W hW)) hc0 hn0).mono ?_
  rintro e w' ⟨he, hd⟩
  have := more W w' hW hd.below
  exact ⟨he, ⟨this⟩, cells _ this⟩
 have key1 : ∀ W, Tw W → Calls Tryd.prog 41 #[.slice A1 l1.length c1] W fun e W => e = .returned (.bool b1) ∧ Aside0 (Tw W) ∧ W.cell? ⟨w.heap.size, 0, none⟩ = some (.slice A0 l0.length c0) ∧ W.cell? ⟨w.heap.size, 1, none⟩ = some (.slice A1 l1.length c1) ∧ W.cell? ⟨w.heap.size, 2, none⟩ = some (.int .i64 a2) ∧ W.cell? ⟨w.heap.size, 3, none⟩ = some (.slice A3 l3.length c3) ∧ W.cell? ⟨3, 0, none⟩ = some (.iface 114 (.pointer (some (ad 3)))) ∧ W.cell? ⟨9, 0, none⟩ = some (.iface 114 (.pointer (some (ad 10)))) ∧ W.cell? ⟨1, 0, none⟩ = some (.iface 114 (.pointer (some (ad 1)))) := by
  intro W hW
  refine (gram_names.calls k A1 c1 l1 b1 W (Kd.C_below hr1 (last W hW)) hc1 hn1).mono ?_
  rintro e w' ⟨he, hd⟩
  have := more W w' hW hd.below
  exact ⟨he, ⟨this⟩, cells _ this⟩
 obtain ⟨s0, s1, s2, s3, s4, s5, s6⟩ := cells _ start
 have HR3 := Aside0.mk hr3
 have ST := Aside0.mk start
 have CE := Aside0.mk cells
 have MO := Aside0.mk more
 have LA := Aside0.mk last
 clear hr0 hr1 hr3 start cells more last hn0 hn1
 by_cases d1 : l0.length ≤ 60
 rotate_left
 · have e1 : decide ((60 : Int) < l0.length) = true := decide_eq_true (by omega)
   have e1' : decide (60 < l0.length) = true := decide_eq_true (by omega)
   clear key0 key1
   have HE := Lib.hid (show chk b0 b1 l0.length l1.length a2 l3 = (3, -1) by simp [chk, show 60 < l0.length + l1.length from by omega])
   go_enter Tryd.func26, Tryd.ntmps26
   go_wp2_with fail
   go_ret
   exact ⟨⟨_, rfl, by rw [HE.out]; exact .inr (.inl ⟨by simp, rfl, rfl⟩)⟩, LA.out _ ST.out⟩
 have e1 : decide ((60 : Int) < l0.length) = false := decide_eq_false (by omega)
 have e1' : decide (60 < l0.length) = false := decide_eq_false (by omega)
 by_cases d2 : l0.length + l1.length ≤ 60
 rotate_left
 · have e2 : decide ((60 : Int) - l0.length < l1.length) = true := decide_eq_true (by omega)
   clear key0 key1
   have HE := Lib.hid (show chk b0 b1 l0.length l1.length a2 l3 = (3, -1) by simp [chk, show 60 < l0.length + l1.length from by omega])
   go_enter Tryd.func26, Tryd.ntmps26
   go_wp2_with fail
   go_ret
   exact ⟨⟨_, rfl, by rw [HE.out]; exact .inr (.inl ⟨by simp, rfl, rfl⟩)⟩, LA.out _ ST.out⟩
 have e2 : decide ((60 : Int) - l0.length < l1.length) = false := decide_eq_false (by omega)
 by_cases d3 : l3.length ≤ 120
 rotate_left
 · have e3 : decide ((120 : Int) < l3.length) = true := decide_eq_true (by omega)
   have e3' : decide (120 < l3.length) = true := decide_eq_true (by omega)
   clear key0 key1
   have HE := Lib.hid (show chk b0 b1 l0.length l1.length a2 l3 = (3, -1) by simp [chk, show 120 < l3.length from by omega])
   go_enter Tryd.func26, Tryd.ntmps26
   go_wp2_with fail
   go_ret
   exact ⟨⟨_, rfl, by rw [HE.out]; exact .inr (.inl ⟨by simp, rfl, rfl⟩)⟩, LA.out _ ST.out⟩
 have e3 : decide ((120 : Int) < l3.length) = false := decide_eq_false (by omega)
 have e3' : decide (120 < l3.length) = false := decide_eq_false (by omega)
 have K0 := Aside0.mk key0
 have K1 := Aside0.mk key1
 clear key0 key1
 cases b0
 · skip
   have HE := Lib.hid (show chk false b1 l0.length l1.length a2 l3 = (10, -1) by simp [chk, show ¬ 60 < l0.length + l1.length from by omega, show ¬ 120 < l3.length from by omega])
   go_enter Tryd.func26, Tryd.ntmps26
   go_wp2_with (first | (go_at_call 41; (with_reducible refine (K0.out _ ST.out).mono ?_); rintro e w1 ⟨rfl, z1, f0, f1, f2, f3, f4, f5, f6⟩))
   go_ret
   exact ⟨⟨_, rfl, by rw [HE.out]; exact .inr (.inl ⟨by simp, rfl, rfl⟩)⟩, LA.out _ z1.out⟩
 cases b1
 · skip
   have HE := Lib.hid (show chk true false l0.length l1.length a2 l3 = (10, -1) by simp [chk, show ¬ 60 < l0.length + l1.length from by omega, show ¬ 120 < l3.length from by omega])
   go_enter Tryd.func26, Tryd.ntmps26
   go_wp2_with (first | (go_at_call 41; (with_reducible refine (K0.out _ ST.out).mono ?_); rintro e w1 ⟨rfl, z1, f0, f1, f2, f3, f4, f5, f6⟩) | (go_at_call 41; (with_reducible refine (K1.out _ z1.out).mono ?_); rintro e w2 ⟨rfl, z2, g0, g1, g2, g3, g4, g5, g6⟩))
   go_ret
   exact ⟨⟨_, rfl, by rw [HE.out]; exact .inr (.inl ⟨by simp, rfl, rfl⟩)⟩, LA.out _ z2.out⟩
 by_cases d4 : a2 < 0
 · have e4 : decide (a2 < 0) = true := decide_eq_true d4
   have HE := Lib.hid (show chk true true l0.length l1.length a2 l3 = (1, -1) by simp [chk, show ¬ 60 < l0.length + l1.length from by omega, show ¬ 120 < l3.length from by omega, d4])
   go_enter Tryd.func26, Tryd.ntmps26
   go_wp2_with (first | (go_at_call 41; (with_reducible refine (K0.out _ ST.out).mono ?_); rintro e w1 ⟨rfl, z1, f0, f1, f2, f3, f4, f5, f6⟩) | (go_at_call 41; (with_reducible refine (K1.out _ z1.out).mono ?_); rintro e w2 ⟨rfl, z2, g0, g1, g2, g3, g4, g5, g6⟩))
   go_ret
   exact ⟨⟨_, rfl, by rw [HE.out]; exact .inr (.inl ⟨by simp, rfl, rfl⟩)⟩, LA.out _ z2.out⟩
 have e4 : decide (a2 < 0) = false := decide_eq_false d4
 by_cases d5 : (l1.length : Int) ≤ a2
 · have e5 : decide ((l1.length : Int) ≤ a2) = true := decide_eq_true d5
   have HE := Lib.hid (show chk true true l0.length l1.length a2 l3 = (1, -1) by simp [chk, show ¬ 60 < l0.length + l1.length from by omega, show ¬ 120 < l3.length from by omega, d5])
   go_enter Tryd.func26, Tryd.ntmps26
   go_wp2_with (first | (go_at_call 41; (with_reducible refine (K0.out _ ST.out).mono ?_); rintro e w1 ⟨rfl, z1, f0, f1, f2, f3, f4, f5, f6⟩) | (go_at_call 41; (with_reducible refine (K1.out _ z1.out).mono ?_); rintro e w2 ⟨rfl, z2, g0, g1, g2, g3, g4, g5, g6⟩))
   go_ret
   exact ⟨⟨_, rfl, by rw [HE.out]; exact .inr (.inl ⟨by simp, rfl, rfl⟩)⟩, LA.out _ z2.out⟩
 have e5 : decide ((l1.length : Int) ≤ a2) = false := decide_eq_false d5
 have HE := Lib.hid (show chk true true l0.length l1.length a2 l3 = chkRs l0.length l1.length l3 0 by simp [chk, show ¬ 60 < l0.length + l1.length from by omega, show ¬ 120 < l3.length from by omega, d4, d5])
 go_enter Tryd.func26, Tryd.ntmps26
 go_wp2_with (first | (go_at_call 41; (with_reducible refine (K0.out _ ST.out).mono ?_); rintro e w1 ⟨rfl, z1, f0, f1, f2, f3, f4, f5, f6⟩) | (go_at_call 41; (with_reducible refine (K1.out _ z1.out).mono ?_); rintro e w2 ⟨rfl, z2, g0, g1, g2, g3, g4, g5, g6⟩))
 go_loopw [3, 4, 5, 53] (fun _ _ _ i wr => ∃ j : Nat, j ≤ l3.length ∧ i = .int .i64 j ∧ Aside0 (Tw wr) ∧ Hid (chkRs l0.length l1.length (l3.drop j) j = chkRs l0.length l1.length l3 0)) (fun _ _ _ i _ => l3.length - (intOf i).toNat)
 case atStart => exact ⟨0, Nat.zero_le _, rfl, z2, Lib.hid rfl⟩
 case round =>
  obtain ⟨j, hj, rfl, htw, hok⟩ := hrel
  clear f0 f1 f2 f3 f4 f5 f6 g0 g1 g2 g3 g4 g5 g6 s0 s1 s2 s3 s4 s5 s6
  by_cases hlt : j < l3.length
  · obtain ⟨f0, f1, f2, f3, f4, f5, f6⟩ := CE.out wr htw.out
    obtain ⟨ad', A, cc, rfl, h0, h1, h2, h3⟩ := at_T55 (Kd.C_below HR3.out (LA.out wr htw.out)) (j : Int) (by omega) (by omega)
    have q0 : rd_T55 l3 (j : Int) = l3[j] := by simp [rd_T55, List.getD_eq_getElem?_getD, List.getElem?_eq_getElem hlt]
    have hn := chkRs_drop l0.length l1.length l3 j hlt
    rw [Int.toNat_natCast] at h0 h1
    rw [q0] at h0 h1 h2 h3
    generalize l3[j] = x at h0 h1 h2 h3 hn
    have hGr : Sents ad wr := ⟨f4, f5, f6⟩
    have f0a := fun o => Lib.cell?_alloc_some o f0
    have f1a := fun o => Lib.cell?_alloc_some o f1
    have f2a := fun o => Lib.cell?_alloc_some o f2
    have f3a := fun o => Lib.cell?_alloc_some o f3
    have hcall : ∀ W, Below wr.heap.size wr W → Calls Tryd.prog 42 #[.agg #[.slice A0 l0.length c0, .slice A1 l1.length c1, .int .i64 a2, .slice (some ad') l3.length c3], .agg #[.int .i64 x.f0, .slice A x.f1.length cc]] W fun e w' => e = .returned (ruleV ad (checkR l0.length l1.length x)) ∧ Aside0 (Tw w') := by
     intro W hW
     refine (Rule_full ad A0 c0 l0.length A1 c1 l1.length a2 _ x A cc W (hGr.below hW) (by omega) (by omega) (Kd.C_below h3 hW) h2).mono ?_
     rintro e w' ⟨he, hb⟩
     exact ⟨he, ⟨MO.out _ _ (MO.out _ _ htw.out hW) hb⟩⟩
    by_cases hq : checkR l0.length l1.length x = 0
    · rw [if_pos hq] at hn
      rw [hq, show ruleV ad 0 = .nilIface from rfl] at hcall
      have HC := Aside0.mk hcall
      have HN := Lib.hid hn
      clear hcall h3 q0 hq hn hGr
      go_wp2_with (go_at_call 42; (with_reducible refine (HC.out _ ((Below.refl _ wr).alloc (Nat.le_refl _) _)).mono ?_); rintro e w' ⟨rfl, t3⟩)
      go_roundw
      case measure => simp [intOf]; omega
      case rel => exact ⟨j + 1, by omega, rfl, t3, Lib.hid (HN.out.symm.trans hok.out)⟩
    · rw [if_neg hq] at hn
      have hc : checkR l0.length l1.length x = 3 ∨ checkR l0.length l1.length x = 1 := (checkR_cases l0.length l1.length x).elim (fun h => absurd h.1 hq) (fun h => h.1)
      rw [show ruleV ad (checkR l0.length l1.length x) = .iface 114 (.pointer (some (ad (checkR l0.length l1.length x)))) from if_neg hq] at hcall
      generalize checkR l0.length l1.length x = c at hcall hn hc
      have HC := Aside0.mk hcall
      have HN := Lib.hid (hn.symm.trans hok.out)
      have HCC := Aside0.mk hc
      clear hcall h3 q0 hq hn hGr hc
      go_wp2_with (go_at_call 42; (with_reducible refine (HC.out _ ((Below.refl _ wr).alloc (Nat.le_refl _) _)).mono ?_); rintro e w' ⟨rfl, t3⟩)
      go_ret
      exact ⟨⟨_, rfl, by rw [HE.out, ← HN.out]; exact .inr (.inr ⟨HCC.out, by simp, by simp; omega, _, rfl, heap_alloc_new _ _⟩)⟩, (LA.out _ t3.out).alloc (LA.out _ t3.out).size _⟩
  · have hjn : j = l3.length := by omega
    subst hjn
    have HN := Lib.hid (show chkRs l0.length l1.length l3 0 = (0, -1) by have := hok.out; rw [List.drop_length] at this; exact this.symm)
    go_wp2_with fail
    go_ret
    exact ⟨⟨_, rfl, by rw [HE.out, HN.out]; exact .inl ⟨rfl, rfl, rfl⟩⟩, LA.out _ htw.out⟩
theorem chkRs_ok (t n : Nat) : ∀ (R : List S55) (j : Nat), (chkRs t n R j).1 = 0 → ∀ x ∈ R, okR t n x = true
 | [], _, _, x, hx => by cases hx
 | y :: R, j, h, x, hx => by
  unfold chkRs at h
  rcases checkR_cases t n y with ⟨h0, hok⟩ | ⟨h0, _⟩
  · rw [if_pos h0] at h
    rcases List.mem_cons.1 hx with rfl | hx
    · exact hok
    · exact chkRs_ok t n R (j + 1) h x hx
  · rw [if_neg (by rcases h0 with h0 | h0 <;> omega)] at h
    rcases h0 with h0 | h0 <;> (dsimp only at h; omega)
theorem chk_ok {b0 b1 : Bool} {n0 n1 : Nat} {a2 : Int} {R : List S55} (h : (chk b0 b1 n0 n1 a2 R).1 = 0) : n0 + n1 ≤ 60 ∧ R.length ≤ 120 ∧ b0 = true ∧ b1 = true ∧ 0 ≤ a2 ∧ a2 < (n1 : Int) ∧ ∀ x ∈ R, okR n0 n1 x = true := by
 unfold chk at h
 split at h
 · simp at h
 · split at h
   · simp at h
   · split at h
     · simp at h
     · rename_i h1 h2 h3
       simp only [Bool.and_eq_false_iff, not_or, Bool.not_eq_false] at h2
       exact ⟨by omega, by omega, h2.1, h2.2, by omega, by omega, chkRs_ok _ _ R 0 h⟩
end Go.Proofs.YtaeaookonhaliaaDoor.B
/- errors.Is at a rule error, after the kit's worked example. -/
namespace Go.Proofs.YtaeaookonhaliaaDoor.E
open Go.RowKit Go.Extern.Stop Go.Stop Go.Extern
theorem noIsWR (v : Value) (xT : TypeId) (w : World) : (Instr.typeAssert (.iface 66 v) xT 99 true).run Tryd.prog w = .ok (.tuple #[.nilIface, .bool false]) w := run_typeAssert_lacksB Tryd.underlying99 (by kernel_rfl) (by kernel_rfl) v xT w
theorem hasUnwrapWR (v : Value) (xT : TypeId) (w : World) : (Instr.typeAssert (.iface 66 v) xT 102 true).run Tryd.prog w = .ok (.tuple #[.iface 66 v, .bool true]) w := run_typeAssert_hasB Tryd.underlying102 (by kernel_rfl) v xT w
theorem methodUnwrapR (v : Value) (w : World) : (Go.method 248 66 v "Unwrap").run Tryd.prog w = .ok (78, v) w := by kernel_rfl

theorem isR_same (pb po : Nat) (b : Addr) (w : World) (h1 : w.cell? ⟨pb, po + 1, none⟩ = some (.iface 114 (.pointer (some b)))) :
 Calls Tryd.prog 35 #[.iface 66 (.pointer (some ⟨pb, po, none⟩)), .iface 114 (.pointer (some b))] w fun e w' => e = .returned (.bool true) ∧ w = w' := by
 obtain ⟨i, hi, hcmp⟩ := Option.map_eq_some_iff.1 isComp
 obtain ⟨j, hj, hjs⟩ := Option.map_eq_some_iff.1 isSize
 have h8 := @run_callFunc_extern Tryd.prog 45 _ Extern.ReflectliteType.typeOf Tryd.func45 (by kernel_rfl) (by kernel_rfl) (by kernel_rfl) (by kernel_rfl)
 have h32 := @run_callFunc_extern Tryd.prog 84 _ compF Tryd.func84 (by kernel_rfl) (by kernel_rfl) (by kernel_rfl) (by kernel_rfl)
 have tT := isTypeOf
 have cT := isComparable
 have mR := isMethodComparable
 have nE := noIsE
 have uE := noUnwrapE
 have vE := noUnwrapsE
 have nW := noIsWR
 have uW := hasUnwrapWR
 have mU := methodUnwrapR
 have heq := run_eql_iface_ptr_same (P := Tryd.prog) w b Tryd.underlying32 Tryd.underlying114 hi hcmp hj
 have hty := run_eql_iface_types (P := Tryd.prog) 66 114 (.pointer (some ⟨pb, po, none⟩)) (.pointer (some b)) Tryd.underlying32 (by decide) w
 go_enter Tryd.func35, Tryd.ntmps35
 go_wp2
 refine wp_loop_rounds 2 ?_
 rw [rounds_succ]
 go_wp2
 rw [rounds_succ]
 go_wp2
 go_ret
 exact ⟨rfl, rfl⟩

theorem isR_other (pb po : Nat) (b a : Addr) (ca cb : Array Value) (ta tb : TypeId) (w : World) (h1 : w.cell? ⟨pb, po + 1, none⟩ = some (.iface 114 (.pointer (some a)))) (hne : a ≠ b) (ha : w.heap[a.block]? = some (.cells ca ta (0, 0))) (hb : w.heap[b.block]? = some (.cells cb tb (0, 0))) :
 Calls Tryd.prog 35 #[.iface 66 (.pointer (some ⟨pb, po, none⟩)), .iface 114 (.pointer (some b))] w fun e w' => e = .returned (.bool false) ∧ w = w' := by
 obtain ⟨i, hi, hcmp⟩ := Option.map_eq_some_iff.1 isComp
 obtain ⟨j, hj, hjs⟩ := Option.map_eq_some_iff.1 isSize
 have h8 := @run_callFunc_extern Tryd.prog 45 _ Extern.ReflectliteType.typeOf Tryd.func45 (by kernel_rfl) (by kernel_rfl) (by kernel_rfl) (by kernel_rfl)
 have h32 := @run_callFunc_extern Tryd.prog 84 _ compF Tryd.func84 (by kernel_rfl) (by kernel_rfl) (by kernel_rfl) (by kernel_rfl)
 have tT := isTypeOf
 have cT := isComparable
 have mR := isMethodComparable
 have nE := noIsE
 have uE := noUnwrapE
 have vE := noUnwrapsE
 have nW := noIsWR
 have uW := hasUnwrapWR
 have mU := methodUnwrapR
 have heq := run_eql_iface_ptr_other (P := Tryd.prog) w Tryd.underlying32 Tryd.underlying114 hi hcmp hj (by rw [hjs]; decide) hne ha hb
 have hty := run_eql_iface_types (P := Tryd.prog) 66 114 (.pointer (some ⟨pb, po, none⟩)) (.pointer (some b)) Tryd.underlying32 (by decide) w
 go_enter Tryd.func35, Tryd.ntmps35
 go_wp2
 refine wp_loop_rounds 2 ?_
 rw [rounds_succ]
 go_wp2
 rw [rounds_succ]
 go_wp2
 go_ret
 exact ⟨rfl, rfl⟩
end Go.Proofs.YtaeaookonhaliaaDoor.E
/- errors.As at a rule error, after the kit's worked example. -/
namespace Go.Proofs.YtaeaookonhaliaaDoor.E
open Go.RowKit Go.Extern.Stop Go.Stop Go.Extern

theorem as_nilR (t : Value) (w : World) :
 Calls Tryd.prog 36 #[.nilIface, t] w fun e w' => e = .returned (.bool false) ∧ w' = w := by
 go_enter Tryd.func36, Tryd.ntmps36
 go_wp2
 go_ret
 exact ⟨rfl, rfl⟩

theorem valueOf27R (t : Addr) (w : World) : (ReflectliteValue.unpack (.iface 73 (.pointer (some t)))).run Tryd.prog w
 = .ok (.agg #[.pointer (some ⟨16, 73, none⟩), .pointer (some ⟨w.heap.size, 0, none⟩), .int .u64 150]) (w.alloc (.cells #[.pointer (some t)] 73)) := by kernel_rfl
theorem type27R (a : Addr) (w : World) : (ReflectliteValue.methodAny (ReflectliteValue.valueError "reflectlite.Value.Type" 0) (fun t _ _ _ => ReflectliteType.toType t) #[.agg #[.pointer (some ⟨16, 73, none⟩), .pointer (some a), .int .u64 150]]).run Tryd.prog w
 = .ok (.iface 97 (.agg #[.pointer (some ⟨16, 73, none⟩)])) w := by kernel_rfl
theorem methodKindR (h : Value) (w : World) : (Go.method 248 97 (.agg #[h]) "Kind").run Tryd.prog w = .ok (74, h) w := by kernel_rfl
theorem kind27R (w : World) : ((ReflectliteType.abiMethod fun t => (fun a : Nat => Value.int IntKind.u8 (a : Int)) <$> Rtype.kind t) #[.pointer (some ⟨16, 73, none⟩)]).run Tryd.prog w = .ok (.int .u8 22) w := by kernel_rfl
theorem kind25R (w : World) : ((ReflectliteType.abiMethod fun t => (fun a : Nat => Value.int IntKind.u8 (a : Int)) <$> Rtype.kind t) #[.pointer (some ⟨16, 66, none⟩)]).run Tryd.prog w = .ok (.int .u8 22) w := by kernel_rfl

theorem rlmR (z : Sem Value) (f : TypeId → Addr → Nat → Nat → Sem Value) (v : Value) :
 ReflectliteValue.method z f #[v] = (do match ← ReflectliteValue.parts v with | none => z | some (t, a, fl) => f t a fl (fl % 32)) := rfl
theorem parts27R (a : Addr) (w : World) : (ReflectliteValue.parts (.agg #[.pointer (some ⟨16, 73, none⟩), .pointer (some a), .int .u64 150])).run Tryd.prog w = .ok (some (73, a, 150)) w := by kernel_rfl
theorem isNil27R (a p : Addr) (W : World) (ha : W.cell? a = some (.pointer (some p))) :
 (ReflectliteValue.method (ReflectliteValue.valueError "reflectlite.Value.IsNil" 0) ReflectliteValue.isNil #[.agg #[.pointer (some ⟨16, 73, none⟩), .pointer (some a), .int .u64 150]]).run Tryd.prog W = .ok (.bool false) W := by
 rw [rlmR]
 simp only [Sem.run_bind, parts27R, Result.andThen]
 simp [ReflectliteValue.isNil, loadVar, isAgg, underlying, Tryd.underlying73, ha, Result.andThen]

theorem methodElemR (h : Value) (w : World) : (Go.method 248 97 (.agg #[h]) "Elem").run Tryd.prog w = .ok (85, .agg #[h]) w := by kernel_rfl
theorem methodImplementsR (h : Value) (w : World) : (Go.method 248 97 (.agg #[h]) "Implements").run Tryd.prog w = .ok (86, .agg #[h]) w := by kernel_rfl
theorem methodAssignableToR (h : Value) (w : World) : (Go.method 248 97 (.agg #[h]) "AssignableTo").run Tryd.prog w = .ok (83, .agg #[h]) w := by kernel_rfl
theorem elem27R (w : World) : (ReflectliteType.method ReflectliteType.elem #[.agg #[.pointer (some ⟨16, 73, none⟩)]]).run Tryd.prog w = .ok (.iface 97 (.agg #[.pointer (some ⟨16, 66, none⟩)])) w := by kernel_rfl
theorem implements25R (w : World) : (ReflectliteType.relation "Implements" ReflectliteType.implements_ #[.agg #[.pointer (some ⟨16, 66, none⟩)], .iface 97 (.agg #[.pointer (some ⟨16, 32, none⟩)])]).run Tryd.prog w = .ok (.bool true) w := by kernel_rfl
theorem typeOf25R (v : Value) (w : World) : (ReflectliteType.typeOf #[.iface 66 v]).run Tryd.prog w = .ok (.iface 97 (.agg #[.pointer (some ⟨16, 66, none⟩)])) w := by kernel_rfl
theorem assignable25R (w : World) : (ReflectliteType.relation "AssignableTo" ReflectliteType.assignableTo #[.agg #[.pointer (some ⟨16, 66, none⟩)], .iface 97 (.agg #[.pointer (some ⟨16, 66, none⟩)])]).run Tryd.prog w = .ok (.bool true) w := by kernel_rfl
theorem valueOf25R (e : Addr) (w : World) : (ReflectliteValue.unpack (.iface 66 (.pointer (some e)))).run Tryd.prog w
 = .ok (.agg #[.pointer (some ⟨16, 66, none⟩), .pointer (some ⟨w.heap.size, 0, none⟩), .int .u64 150]) (w.alloc (.cells #[.pointer (some e)] 66)) := by kernel_rfl

theorem elemOf27R (w : World) : (Rtype.elem? 73).run Tryd.prog w = .ok (some 66) w := by kernel_rfl
theorem mk25R (p : Addr) (w : World) : (ReflectliteValue.mk 66 p ReflectliteValue.flagAddr).run Tryd.prog w = .ok (.agg #[.pointer (some ⟨16, 66, none⟩), .pointer (some p), .int .u64 406]) w := by kernel_rfl
theorem elemV27R (a p : Addr) (W : World) (ha : W.cell? a = some (.pointer (some p))) :
 (ReflectliteValue.method (ReflectliteValue.valueError "reflectlite.Value.Elem" 0) ReflectliteValue.elem #[.agg #[.pointer (some ⟨16, 73, none⟩), .pointer (some a), .int .u64 150]]).run Tryd.prog W
  = .ok (.agg #[.pointer (some ⟨16, 66, none⟩), .pointer (some p), .int .u64 406]) W := by
 rw [rlmR]
 simp only [Sem.run_bind, parts27R, Result.andThen]
 simp [ReflectliteValue.elem, loadVar, isAgg, underlying, Tryd.underlying73, ha, Result.andThen, elemOf27R, mk25R]
theorem rlsR (v x : Value) : ReflectliteValue.set #[v, x] = (do
 let (some (dst, a, fl), some (src, b, _)) := (← ReflectliteValue.parts v, ← ReflectliteValue.parts x)
  | unsupported (.noEntry "extern/(internal/reflectlite.Value).Set.zeroValue")
 if fl / ReflectliteValue.flagAddr % 2 == 0 then unsupported (.noEntry "extern/(internal/reflectlite.Value).Set.unaddressable")
 let val ← loadVar src b
 if ← Rtype.directlyAssignable dst src then storeVar dst a val
 else if ← Rtype.implements dst src then
  if (← Rtype.kind src) == 20 then
   match val with
   | .nilIface => unsupported (.noEntry "extern/reflectlite: a nil value of one interface type handed on as a value of another")
   | _ => storeVar dst a val
  else storeVar dst a (.iface src val)
 else panicString ("reflectlite.Set: value of type " ++ (← Rtype.spelt src) ++ " is not assignable to type " ++ (← Rtype.spelt dst))
 pure (.tuple #[])) := rfl
theorem parts25aR (a : Addr) (w : World) : (ReflectliteValue.parts (.agg #[.pointer (some ⟨16, 66, none⟩), .pointer (some a), .int .u64 406])).run Tryd.prog w = .ok (some (66, a, 406)) w := by kernel_rfl
theorem parts25R (a : Addr) (w : World) : (ReflectliteValue.parts (.agg #[.pointer (some ⟨16, 66, none⟩), .pointer (some a), .int .u64 150])).run Tryd.prog w = .ok (some (66, a, 150)) w := by kernel_rfl
theorem direct25R (w : World) : (Rtype.directlyAssignable 66 66).run Tryd.prog w = .ok true w := by kernel_rfl
theorem set25R (ta b e : Addr) (old : Value) (W : World) (hb : W.cell? b = some (.pointer (some e))) (ht : W.cell? ta = some old) (hf : W.frozen? ta = false) :
 (ReflectliteValue.set #[.agg #[.pointer (some ⟨16, 66, none⟩), .pointer (some ta), .int .u64 406], .agg #[.pointer (some ⟨16, 66, none⟩), .pointer (some b), .int .u64 150]]).run Tryd.prog W
  = .ok (.tuple #[]) (W.setCell ta (.pointer (some e))) := by
 rw [rlsR]
 simp only [Sem.run_bind, parts25aR, parts25R, Result.andThen]
 simp [ReflectliteValue.flagAddr, loadVar, isAgg, underlying, Tryd.underlying66, hb, Result.andThen, direct25R, storeVar, Value.cells, storeCells, Addr.add]
 rw [run_store Tryd.prog W ta _ _ (by rfl)]
 simp [ht, hf]

set_option maxHeartbeats 4000000 in
theorem as_hitR (e t : Addr) (old : Value) (w : World) (hg : w.cell? ⟨15, 0, none⟩ = some (.iface 97 (.agg #[.pointer (some ⟨16, 32, none⟩)]))) (ht0 : w.cell? t = some old) (hf0 : w.frozen? t = false) :
 Calls Tryd.prog 36 #[.iface 66 (.pointer (some e)), .iface 73 (.pointer (some t))] w fun ev w' => ev = .returned (.bool true) ∧ w' = ((((w.alloc (.cells #[.pointer (some t)] 73)).alloc (.cells #[.pointer (some ⟨16, 73, none⟩), .pointer (some ⟨w.heap.size, 0, none⟩), .int .u64 150] 87)).alloc (.cells #[.pointer (some ⟨16, 73, none⟩), .pointer (some ⟨w.heap.size, 0, none⟩), .int .u64 150] 87)).alloc (.cells #[.pointer (some e)] 66)).setCell t (.pointer (some e)) := by
 have h6 := @run_callFunc_extern Tryd.prog 47 _ (fun args => ReflectliteValue.unpack (args.getD 0 (.tuple #[]))) Tryd.func47 (by kernel_rfl) (by kernel_rfl) (by kernel_rfl) (by kernel_rfl)
 have h7 := @run_callFunc_extern Tryd.prog 48 _ (ReflectliteValue.methodAny (ReflectliteValue.valueError "reflectlite.Value.Type" 0) (fun t _ _ _ => ReflectliteType.toType t)) Tryd.func48 (by kernel_rfl) (by kernel_rfl) (by kernel_rfl) (by kernel_rfl)
 have h8 := @run_callFunc_extern Tryd.prog 49 _ (ReflectliteValue.method (ReflectliteValue.valueError "reflectlite.Value.IsNil" 0) ReflectliteValue.isNil) Tryd.func49 (by kernel_rfl) (by kernel_rfl) (by kernel_rfl) (by kernel_rfl)
 have h27 := @run_callFunc_extern Tryd.prog 74 _ (ReflectliteType.abiMethod fun t => do pure (.int .u8 (← Rtype.kind t))) Tryd.func74 (by kernel_rfl) (by kernel_rfl) (by kernel_rfl) (by kernel_rfl)
 have h37 := @run_callFunc_extern Tryd.prog 85 _ (ReflectliteType.method ReflectliteType.elem) Tryd.func85 (by kernel_rfl) (by kernel_rfl) (by kernel_rfl) (by kernel_rfl)
 have h38 := @run_callFunc_extern Tryd.prog 86 _ (ReflectliteType.relation "Implements" ReflectliteType.implements_) Tryd.func86 (by kernel_rfl) (by kernel_rfl) (by kernel_rfl) (by kernel_rfl)
 have h10 := @run_callFunc_extern Tryd.prog 45 _ ReflectliteType.typeOf Tryd.func45 (by kernel_rfl) (by kernel_rfl) (by kernel_rfl) (by kernel_rfl)
 have h35 := @run_callFunc_extern Tryd.prog 83 _ (ReflectliteType.relation "AssignableTo" ReflectliteType.assignableTo) Tryd.func83 (by kernel_rfl) (by kernel_rfl) (by kernel_rfl) (by kernel_rfl)
 have h11 := @run_callFunc_extern Tryd.prog 55 _ (ReflectliteValue.method (ReflectliteValue.valueError "reflectlite.Value.Elem" 0) ReflectliteValue.elem) Tryd.func55 (by kernel_rfl) (by kernel_rfl) (by kernel_rfl) (by kernel_rfl)
 have h12 := @run_callFunc_extern Tryd.prog 56 _ ReflectliteValue.set Tryd.func56 (by kernel_rfl) (by kernel_rfl) (by kernel_rfl) (by kernel_rfl)
 have tO := typeOf25R
 have mA := methodAssignableToR
 have a25 := assignable25R
 have v25 := valueOf25R
 have f6 := valueOf27R
 have f7 := type27R
 have mK := methodKindR
 have mE := methodElemR
 have mI := methodImplementsR
 have k27 := kind27R
 have k25 := kind25R
 have e27 := elem27R
 have i25 := implements25R
 have n8 := isNil27R ⟨w.heap.size, 0, none⟩ t ((w.alloc (.cells #[.pointer (some t)] 73)).alloc (.cells #[.pointer (some ⟨16, 73, none⟩), .pointer (some ⟨w.heap.size, 0, none⟩), .int .u64 150] 87)) (by simp)
 have hlt : 15 < w.heap.size := by
  exact World.block_lt_of_cell? w _ hg
 have hg2 : ((w.alloc (.cells #[.pointer (some t)] 73)).alloc (.cells #[.pointer (some ⟨16, 73, none⟩), .pointer (some ⟨w.heap.size, 0, none⟩), .int .u64 150] 87)).cell? ⟨15, 0, none⟩ = some (.iface 97 (.agg #[.pointer (some ⟨16, 32, none⟩)])) := by
  rw [World.cell?_alloc_lt _ _ ⟨15, 0, none⟩ (by simp; omega), World.cell?_alloc_lt _ _ ⟨15, 0, none⟩ hlt]; exact hg
 have htl : t.block < w.heap.size := by
  rcases Nat.lt_or_ge t.block w.heap.size with h | h
  · exact h
  · simp [World.cell?, Array.getElem?_eq_none h] at ht0
 have el := elemV27R ⟨w.heap.size, 0, none⟩ t (((w.alloc (.cells #[.pointer (some t)] 73)).alloc (.cells #[.pointer (some ⟨16, 73, none⟩), .pointer (some ⟨w.heap.size, 0, none⟩), .int .u64 150] 87)).alloc (.cells #[.pointer (some ⟨16, 73, none⟩), .pointer (some ⟨w.heap.size, 0, none⟩), .int .u64 150] 87)) (by rw [World.cell?_alloc_lt _ _ ⟨w.heap.size, 0, none⟩ (by simp; omega)]; simp)
 have st := set25R t ⟨w.heap.size + 1 + 1 + 1, 0, none⟩ e old ((((w.alloc (.cells #[.pointer (some t)] 73)).alloc (.cells #[.pointer (some ⟨16, 73, none⟩), .pointer (some ⟨w.heap.size, 0, none⟩), .int .u64 150] 87)).alloc (.cells #[.pointer (some ⟨16, 73, none⟩), .pointer (some ⟨w.heap.size, 0, none⟩), .int .u64 150] 87)).alloc (.cells #[.pointer (some e)] 66))
  (by rw [World.cell?_alloc_at _ _ _ _ (by simp)]; rfl)
  (by rw [World.cell?_alloc_lt _ _ t (by simp; omega), World.cell?_alloc_lt _ _ t (by simp; omega), World.cell?_alloc_lt _ _ t (by simp; omega), World.cell?_alloc_lt _ _ t htl]; exact ht0)
  (by rw [World.frozen?_alloc_old _ _ t (by simp; omega), World.frozen?_alloc_old _ _ t (by simp; omega), World.frozen?_alloc_old _ _ t (by simp; omega), World.frozen?_alloc_old _ _ t (Nat.ne_of_lt htl)]; exact hf0)
 go_enter Tryd.func36, Tryd.ntmps36
 go_wp2
 refine wp_loop_rounds 1 ?_
 rw [rounds_succ]
 go_wp2
 go_ret
 exact ⟨rfl, rfl⟩
theorem typeOfER (v : Value) (w : World) : (ReflectliteType.typeOf #[.iface 114 v]).run Tryd.prog w = .ok (.iface 97 (.agg #[.pointer (some ⟨16, 114, none⟩)])) w := by kernel_rfl
theorem assignableER (w : World) : (ReflectliteType.relation "AssignableTo" ReflectliteType.assignableTo #[.agg #[.pointer (some ⟨16, 114, none⟩)], .iface 97 (.agg #[.pointer (some ⟨16, 66, none⟩)])]).run Tryd.prog w = .ok (.bool false) w := by kernel_rfl
theorem noAsER (v : Value) (xT : TypeId) (w : World) : (Instr.typeAssert (.iface 114 v) xT 108 true).run Tryd.prog w = .ok (.tuple #[.nilIface, .bool false]) w := run_typeAssert_lacksB Tryd.underlying108 (by kernel_rfl) (by kernel_rfl) v xT w
set_option maxHeartbeats 4000000 in
theorem as_esR (a t : Addr) (w : World) (hg : w.cell? ⟨15, 0, none⟩ = some (.iface 97 (.agg #[.pointer (some ⟨16, 32, none⟩)]))) :
 Calls Tryd.prog 36 #[.iface 114 (.pointer (some a)), .iface 73 (.pointer (some t))] w fun ev w' => ev = .returned (.bool false) ∧ Below w.heap.size w w' := by
 have h6 := @run_callFunc_extern Tryd.prog 47 _ (fun args => ReflectliteValue.unpack (args.getD 0 (.tuple #[]))) Tryd.func47 (by kernel_rfl) (by kernel_rfl) (by kernel_rfl) (by kernel_rfl)
 have h7 := @run_callFunc_extern Tryd.prog 48 _ (ReflectliteValue.methodAny (ReflectliteValue.valueError "reflectlite.Value.Type" 0) (fun t _ _ _ => ReflectliteType.toType t)) Tryd.func48 (by kernel_rfl) (by kernel_rfl) (by kernel_rfl) (by kernel_rfl)
 have h8 := @run_callFunc_extern Tryd.prog 49 _ (ReflectliteValue.method (ReflectliteValue.valueError "reflectlite.Value.IsNil" 0) ReflectliteValue.isNil) Tryd.func49 (by kernel_rfl) (by kernel_rfl) (by kernel_rfl) (by kernel_rfl)
 have h27 := @run_callFunc_extern Tryd.prog 74 _ (ReflectliteType.abiMethod fun t => do pure (.int .u8 (← Rtype.kind t))) Tryd.func74 (by kernel_rfl) (by kernel_rfl) (by kernel_rfl) (by kernel_rfl)
 have h37 := @run_callFunc_extern Tryd.prog 85 _ (ReflectliteType.method ReflectliteType.elem) Tryd.func85 (by kernel_rfl) (by kernel_rfl) (by kernel_rfl) (by kernel_rfl)
 have h38 := @run_callFunc_extern Tryd.prog 86 _ (ReflectliteType.relation "Implements" ReflectliteType.implements_) Tryd.func86 (by kernel_rfl) (by kernel_rfl) (by kernel_rfl) (by kernel_rfl)
 have h10 := @run_callFunc_extern Tryd.prog 45 _ ReflectliteType.typeOf Tryd.func45 (by kernel_rfl) (by kernel_rfl) (by kernel_rfl) (by kernel_rfl)
 have h35 := @run_callFunc_extern Tryd.prog 83 _ (ReflectliteType.relation "AssignableTo" ReflectliteType.assignableTo) Tryd.func83 (by kernel_rfl) (by kernel_rfl) (by kernel_rfl) (by kernel_rfl)
 have tO := typeOfER
 have a25 := assignableER
 have nA := noAsER
 have uE := noUnwrapE
 have vE := noUnwrapsE
 have mA := methodAssignableToR
 have f6 := valueOf27R
 have f7 := type27R
 have mK := methodKindR
 have mE := methodElemR
 have mI := methodImplementsR
 have k27 := kind27R
 have k25 := kind25R
 have e27 := elem27R
 have i25 := implements25R
 have n8 := isNil27R ⟨w.heap.size, 0, none⟩ t ((w.alloc (.cells #[.pointer (some t)] 73)).alloc (.cells #[.pointer (some ⟨16, 73, none⟩), .pointer (some ⟨w.heap.size, 0, none⟩), .int .u64 150] 87)) (by simp)
 have hlt : 15 < w.heap.size := by
  exact World.block_lt_of_cell? w _ hg
 have hg2 : ((w.alloc (.cells #[.pointer (some t)] 73)).alloc (.cells #[.pointer (some ⟨16, 73, none⟩), .pointer (some ⟨w.heap.size, 0, none⟩), .int .u64 150] 87)).cell? ⟨15, 0, none⟩ = some (.iface 97 (.agg #[.pointer (some ⟨16, 32, none⟩)])) := by
  rw [World.cell?_alloc_lt _ _ ⟨15, 0, none⟩ (by simp; omega), World.cell?_alloc_lt _ _ ⟨15, 0, none⟩ hlt]; exact hg
 go_enter Tryd.func36, Tryd.ntmps36
 go_wp2
 refine wp_loop_rounds 1 ?_
 rw [rounds_succ]
 go_wp2
 go_ret
 exact ⟨rfl, (((Below.refl _ w).alloc (Nat.le_refl _) _).alloc (by simp) _).alloc (by simp; omega) _⟩
end Go.Proofs.YtaeaookonhaliaaDoor.E
/- kit.Kind and kit.Rule of what gram.Check answers. -/
namespace Go.Proofs.YtaeaookonhaliaaDoor.B
open Go.RowKit YtaeaookonhaliaaDoorW.PrintWords YtaeaookonhaliaaDoorW.PrintLast YtaeaookonhaliaaDoorW.PrintMore E

theorem IsK.rule {ad : Int → Addr} {w : World} (hs : SentsK ad w) (k : Int) (h1 : 1 ≤ k) (h2 : k ≤ 15) (b : Nat) (hc : w.cell? ⟨b, 1, none⟩ = some (.iface 114 (.pointer (some (ad k))))) : IsK ad w (.iface 66 (.pointer (some ⟨b, 0, none⟩))) k := by
 intro j hj1 hj2 W hW
 have hc' : W.cell? ⟨b, 0 + 1, none⟩ = some (.iface 114 (.pointer (some (ad k)))) := (hW.cell (World.block_lt_of_cell? w _ hc)).trans hc
 by_cases h : j = k
 · subst h
   rw [decide_eq_true rfl]
   exact isR_same b 0 (ad j) W hc'
 · rw [decide_eq_false h]
   obtain ⟨ca, ta, hca⟩ := (hs.below hW).box k h1 h2
   obtain ⟨cb, tb, hcb⟩ := (hs.below hW).box j hj1 hj2
   exact isR_other b 0 (ad j) (ad k) ca cb ta tb W hc' (hs.ne k j h1 h2 hj1 hj2 (fun e => h e.symm)) hca hcb
def Handle (w : World) : Prop := w.cell? ⟨15, 0, none⟩ = some (.iface 97 (.agg #[.pointer (some ⟨16, 32, none⟩)]))
theorem Handle.below {w w' : World} (h : Handle w) (hb : Below w.heap.size w w') : Handle w' := (hb.cell (World.block_lt_of_cell? w _ h)).trans h

set_option maxHeartbeats 1000000 in
set_option maxRecDepth 100000 in
theorem Rule_no (v : Value) (w : World) (hA : ∀ W, Below w.heap.size w W → ∀ a, Calls Tryd.prog 36 #[v, .iface 73 (.pointer (some a))] W fun e w' => e = .returned (.bool false) ∧ Below W.heap.size W w') :
 Calls Tryd.prog 17 #[v] w fun e w' => e = .returned (.int .i64 (-1)) ∧ Below w.heap.size w w' := by
 have hb : Below w.heap.size w (w.alloc (.cells #[.pointer none] 66)) := (Below.refl _ w).alloc (Nat.le_refl _) _
 have HA := Aside0.mk (hA _ hb ⟨w.heap.size, 0, none⟩)
 have HB := Aside0.mk hb
 clear hA hb
 go_enter Tryd.func17, Tryd.ntmps17
 go_wp2_with (go_at_call 36; (with_reducible refine HA.out.mono ?_); rintro e w' ⟨rfl, hb'⟩)
 go_ret
 exact ⟨rfl, HB.out.trans (hb'.mono HB.out.size)⟩
set_option maxHeartbeats 1000000 in
set_option maxRecDepth 100000 in
theorem Rule_yes (b : Nat) (r : Int) (w : World) (hg : Handle w) (hr : w.cell? ⟨b, 0, none⟩ = some (.int .i64 r)) :
 Calls Tryd.prog 17 #[.iface 66 (.pointer (some ⟨b, 0, none⟩))] w fun e w' => e = .returned (.int .i64 r) ∧ Below w.heap.size w w' := by
 have hb : Below w.heap.size w (w.alloc (.cells #[.pointer none] 66)) := (Below.refl _ w).alloc (Nat.le_refl _) _
 have hbl : b < w.heap.size := World.block_lt_of_cell? w _ hr
 have hA : Calls Tryd.prog 36 #[.iface 66 (.pointer (some ⟨b, 0, none⟩)), .iface 73 (.pointer (some ⟨w.heap.size, 0, none⟩))] (w.alloc (.cells #[.pointer none] 66)) fun e w' => e = .returned (.bool true) ∧ Aside0 (Below w.heap.size w w') ∧ w'.cell? ⟨w.heap.size, 0, none⟩ = some (.pointer (some ⟨b, 0, none⟩)) ∧ w'.cell? ⟨b, 0, none⟩ = some (.int .i64 r) := by
  have hx : Box w.heap.size #[.pointer none] 66 (w.alloc (.cells #[.pointer none] 66)) := Box.new w _ _
  have hx' : (w.alloc (.cells #[.pointer none] 66)).heap[w.heap.size]? = some (.cells #[.pointer none] 66 (0, 0)) := hx
  refine (as_hitR ⟨b, 0, none⟩ ⟨w.heap.size, 0, none⟩ (.pointer none) _ (hg.below hb) (hx.cell 0 _ rfl) (by unfold World.frozen?; rw [show (w.alloc (.cells #[.pointer none] 66)).heap[(⟨w.heap.size, 0, none⟩ : Addr).block]? = _ from hx']; rfl)).mono ?_
  rintro e w' ⟨rfl, rfl⟩
  have hb4 := ((((Below.refl _ (w.alloc (.cells #[.pointer none] 66))).alloc (Nat.le_refl _) (.cells #[.pointer (some ⟨w.heap.size, 0, none⟩)] 73)).alloc (by simp) (.cells #[.pointer (some ⟨16, 73, none⟩), .pointer (some ⟨(w.alloc (.cells #[.pointer none] 66)).heap.size, 0, none⟩), .int .u64 150] 87)).alloc (by first | (simp; done) | (simp; omega)) (.cells #[.pointer (some ⟨16, 73, none⟩), .pointer (some ⟨(w.alloc (.cells #[.pointer none] 66)).heap.size, 0, none⟩), .int .u64 150] 87)).alloc (by first | (simp; done) | (simp; omega)) (.cells #[.pointer (some ⟨b, 0, none⟩)] 66)
  have hbw := hb.trans (hb4.mono hb.size)
  have hc4 : _ := (hb4.cell (p := ⟨w.heap.size, 0, none⟩) (by simp)).trans (hx.cell 0 _ rfl)
  refine ⟨rfl, ⟨hbw.setCell (Nat.le_refl _) _⟩, ?_, ?_⟩
  · exact World.cell?_setCell_same' _ _ _ (by rw [hc4]; rfl)
  · rw [World.cell?_setCell_other _ _ _ _ (show (⟨w.heap.size, 0, none⟩ : Addr) ≠ ⟨b, 0, none⟩ from fun e => by injection e with e; omega)]
    exact (hbw.cell (p := ⟨b, 0, none⟩) hbl).trans hr
 have HA := Aside0.mk hA
 clear hA hb
 go_enter Tryd.func17, Tryd.ntmps17
 go_wp2_with (go_at_call 36; (with_reducible refine HA.out.mono ?_); rintro e w' ⟨rfl, hb', f0, f1⟩)
 go_ret
 exact ⟨rfl, hb'.out⟩
end Go.Proofs.YtaeaookonhaliaaDoor.B
/- Sets of small numbers as whole numbers of 64 bits: membership. -/
namespace Go.Proofs.YtaeaookonhaliaaDoor.B
open Go.RowKit YtaeaookonhaliaaDoorW.PrintWords YtaeaookonhaliaaDoorW.PrintLast YtaeaookonhaliaaDoorW.PrintMore

end Go.Proofs.YtaeaookonhaliaaDoor.B
/- Reading lists at a natural number; renamings, and to which nonterminals one comes by them. -/
namespace Go.Proofs.YtaeaookonhaliaaDoor.B
open Go.RowKit YtaeaookonhaliaaDoorW.PrintWords YtaeaookonhaliaaDoorW.PrintLast YtaeaookonhaliaaDoorW.PrintMore

theorem rd_D (l : List Int) (i : Nat) : rd l (i : Int) = l.getD i 0 := by simp [rd]
theorem rdS_D (l : List ByteArray) (i : Nat) : rdOf ByteArray.empty l (i : Int) = l.getD i ByteArray.empty := by simp [rdOf]
theorem rdR_D (l : List S55) (i : Nat) : rd_T55 l (i : Int) = l.getD i z55 := by simp [rd_T55]
theorem getD_lt {α : Type} (l : List α) (i : Nat) (d : α) (h : i < l.length) : l.getD i d = l[i] := by simp [List.getD_eq_getElem?_getD, List.getElem?_eq_getElem h]
theorem getD_set {α : Type} (l : List α) (m i : Nat) (v d : α) : (l.set m v).getD i d = if m = i ∧ i < l.length then v else l.getD i d := by
 simp only [List.getD_eq_getElem?_getD, List.getElem?_set]
 by_cases h : m = i
 · subst h
   by_cases h2 : m < l.length
   · simp [h2]
   · simp [h2, List.getElem?_eq_none (show l.length ≤ m by omega)]
 · simp [h]
theorem w64 (i : Nat) (h : i < 9223372036854775807) : wrap64 ((i : Int) + 1) = ((i + 1 : Nat) : Int) := by unfold wrap64; omega

def ren (x : S55) : Option Nat := match x.f1 with
 | [s] => if s < 0 then some (-1 - s).toNat else none
 | _ => none
theorem okR_sides {t n : Nat} {x : S55} (h : okR t n x = true) : x.f1.length ≤ 32 ∧ 0 ≤ x.f0 ∧ x.f0 < n ∧ ∀ s ∈ x.f1, s < t ∧ -(n : Int) ≤ s := by
 simp only [okR, Bool.and_eq_true, decide_eq_true_eq, Bool.not_eq_true', List.any_eq_false, outS, Bool.or_eq_true, not_or, Int.not_le, Int.not_lt] at h
 exact ⟨h.1.1.1, h.1.1.2, h.1.2, fun s hs => by simpa using h.2 s hs⟩
def Edge (R : List S55) (a m : Nat) : Prop := ∃ x ∈ R, x.f0 = (a : Int) ∧ ren x = some m
inductive Reach (R : List S55) : Nat → Nat → Prop
 | refl (a : Nat) : Reach R a a
 | step {a m b : Nat} : Edge R a m → Reach R m b → Reach R a b
theorem Reach.trans {R : List S55} {a m b : Nat} (h : Reach R a m) (h' : Reach R m b) : Reach R a b := by
 induction h with
 | refl a => exact h'
 | step e _ ih => exact .step e (ih h')
end Go.Proofs.YtaeaookonhaliaaDoor.B
/- Names: their places, and which lists of names are right. -/
namespace Go.Proofs.YtaeaookonhaliaaDoor.B
open Go.RowKit YtaeaookonhaliaaDoorW.PrintWords YtaeaookonhaliaaDoorW.PrintLast YtaeaookonhaliaaDoorW.PrintMore

theorem toL_eq (a b : ByteArray) : a.toList = b.toList ↔ a = b := by
 constructor
 · intro h
   rw [ByteArray.toList_eq, ByteArray.toList_eq] at h
   have := Array.ext' h
   cases a; cases b; simp_all
 · rintro rfl; rfl

def place (l : List ByteArray) (s : ByteArray) (i : Nat) : Int := if (l.drop i).findIdx (fun x => decide (s = x)) < (l.drop i).length then ((i + (l.drop i).findIdx (fun x => decide (s = x)) : Nat) : Int) else -1
theorem place_end (l : List ByteArray) (s : ByteArray) : place l s l.length = -1 := by simp [place]
theorem place_step (l : List ByteArray) (s : ByteArray) (i : Nat) (h : i < l.length) : place l s i = if s = l[i] then (i : Int) else place l s (i + 1) := by
 unfold place
 rw [List.drop_eq_getElem_cons h, List.findIdx_cons, List.length_cons]
 by_cases c : s = l[i]
 · rw [if_pos c, decide_eq_true c, cond_true, if_pos (by omega)]; rfl
 · rw [if_neg c, decide_eq_false c, cond_false]
   by_cases c2 : (l.drop (i + 1)).findIdx (fun x => decide (s = x)) < (l.drop (i + 1)).length
   · rw [if_pos (by omega), if_pos c2]; congr 1; omega
   · rw [if_neg (by omega), if_neg c2]
theorem place_nonneg (l : List ByteArray) (s : ByteArray) : 0 ≤ place l s 0 ↔ s ∈ l := by
 have : (l.findIdx (fun x => decide (s = x)) < l.length) ↔ s ∈ l := by
  rw [List.findIdx_lt_length]; simp
 unfold place
 rw [List.drop_zero, ← this]
 split <;> omega
theorem Index_l (l : List ByteArray) (s : ByteArray) (hm : l.length ≤ 9223372036854775807) : ∀ (d i k : Nat), l.length - i = d → i ≤ l.length → d < k → slices_Index_string_string.l0 k l s (l.length : Int) (i : Int) = some (place l s i) := by
 intro d
 induction d with
 | zero =>
  intro i k hi hle hk
  obtain ⟨k, rfl⟩ : ∃ j, k = j + 1 := ⟨k - 1, by omega⟩
  have : i = l.length := by omega
  subst this
  rw [slices_Index_string_string.l0, if_neg (by omega), place_end]
 | succ d ih =>
  intro i k hi hle hk
  obtain ⟨k, rfl⟩ : ∃ j, k = j + 1 := ⟨k - 1, by omega⟩
  have hlt : i < l.length := by omega
  rw [slices_Index_string_string.l0, if_pos (by omega), if_pos (by omega), if_pos (by omega), rdS_D, getD_lt _ _ _ hlt, place_step l s i hlt]
  by_cases c : s = l[i]
  · rw [if_pos ((toL_eq _ _).2 c), if_pos c]
  · rw [if_neg (fun h => c ((toL_eq _ _).1 h)), if_neg c, w64 i (by omega), ih (i + 1) k (by omega) (by omega) (by omega)]
theorem Index_f (l : List ByteArray) (s : ByteArray) (k : Nat) (hm : l.length ≤ 9223372036854775807) (hk : l.length < k) : slices_Index_string_string.f k l s = some (place l s 0) := by
 unfold slices_Index_string_string.f
 have := Index_l l s hm l.length 0 k (by omega) (by omega) hk
 simpa using this
def faultAt (l : List ByteArray) (i : Nat) : Bool := decide ((l.getD i ByteArray.empty).size = 0) || decide (32 < (l.getD i ByteArray.empty).size) || (l.take i).any (fun x => decide (l.getD i ByteArray.empty = x))
def namesOK (l : List ByteArray) : Bool := (List.range l.length).all fun i => !faultAt l i
def namesFrom (l : List ByteArray) (i : Nat) : Bool := (List.range' i (l.length - i)).all fun i => !faultAt l i
theorem namesFrom_zero (l : List ByteArray) : namesFrom l 0 = namesOK l := by simp [namesFrom, namesOK, List.range_eq_range']
theorem namesFrom_step (l : List ByteArray) (i : Nat) (h : i < l.length) : namesFrom l i = (!faultAt l i && namesFrom l (i + 1)) := by
 unfold namesFrom
 rw [show l.length - i = (l.length - (i + 1)) + 1 from by omega, List.range'_succ, List.all_cons]
theorem namesFrom_end (l : List ByteArray) : namesFrom l l.length = true := by simp [namesFrom]

theorem NameFault_f (l : List ByteArray) (i k : Nat) (h : i < l.length) (hm : l.length ≤ 9223372036854775807) (hk : l.length < k) : gram_nameFault.f k l (i : Int) = some (faultAt l i) := by
 unfold gram_nameFault.f faultAt slices_Contains_string_string.f
 rw [if_pos (by omega), if_pos (by omega), rdS_D, Int.toNat_natCast]
 generalize l.getD i ByteArray.empty = s
 by_cases c1 : s.size = 0
 · rw [if_pos (by omega)]; simp [c1]
 · rw [if_neg (by omega)]
   by_cases c2 : 32 < s.size
   · rw [if_pos (by omega)]; simp [c2]
   · rw [if_neg (by omega), if_pos (by omega), Index_f _ s k (by rw [List.length_take]; omega) (by rw [List.length_take]; omega), Option.bind_some, Option.bind_some]
     cases c3 : (l.take i).any (fun x => decide (s = x)) with
     | true =>
      have : s ∈ l.take i := by
       obtain ⟨x, hx, he⟩ := List.any_eq_true.1 c3
       rw [of_decide_eq_true he]; exact hx
      rw [if_pos (decide_eq_true ((place_nonneg (l.take i) s).2 this)), Bool.or_true]
     | false =>
      have : ¬ s ∈ l.take i := fun hs => by
       have := List.any_eq_false.1 c3 s hs
       simp at this
      rw [if_neg (by rw [decide_eq_true_eq]; exact fun h => this ((place_nonneg (l.take i) s).1 h)), decide_eq_false c1, decide_eq_false c2]; rfl
theorem Names_l (l : List ByteArray) (hm : l.length ≤ 9223372036854775807) : ∀ (d i k : Nat), l.length - i = d → i ≤ l.length → d + l.length + 1 < k → gram_names.l0 k l (l.length : Int) (i : Int) = some (namesFrom l i) := by
 intro d
 induction d with
 | zero =>
  intro i k hi hle hk
  obtain ⟨k, rfl⟩ : ∃ j, k = j + 1 := ⟨k - 1, by omega⟩
  have : i = l.length := by omega
  subst this
  rw [gram_names.l0, if_neg (by omega), namesFrom_end]
 | succ d ih =>
  intro i k hi hle hk
  obtain ⟨k, rfl⟩ : ∃ j, k = j + 1 := ⟨k - 1, by omega⟩
  have hlt : i < l.length := by omega
  rw [gram_names.l0, if_pos (by omega), NameFault_f l i k hlt hm (by omega), Option.bind_some, namesFrom_step l i hlt]
  cases hf : faultAt l i with
  | true => rw [if_pos rfl]; rfl
  | false => rw [if_neg (by decide), w64 i (by omega), ih (i + 1) k (by omega) (by omega) (by omega)]; rfl
theorem Names_f (l : List ByteArray) (k : Nat) (hm : l.length ≤ 9223372036854775807) (hk : l.length + l.length + 1 < k) : gram_names.f k l = some (namesOK l) := by
 unfold gram_names.f
 have := Names_l l hm l.length 0 k (by omega) (by omega) hk
 rw [namesFrom_zero] at this
 simpa using this
end Go.Proofs.YtaeaookonhaliaaDoor.B
/- Errors of all kinds: none, a sentinel, a rule's; kit.Kind and kit.Rule of them; told by a number (kind + 16 * (rule + 1)). -/
namespace Go.Proofs.YtaeaookonhaliaaDoor.F
open Go.RowKit YtaeaookonhaliaaDoorW.PrintWords YtaeaookonhaliaaDoorW.PrintLast YtaeaookonhaliaaDoorW.PrintMore
open B E

def ErrW (ad : Int → Addr) (w : World) (v : Value) (p : Int × Int) : Prop :=
 (p.1 = 0 ∧ p.2 = -1 ∧ v = .nilIface) ∨ ((1 ≤ p.1 ∧ p.1 ≤ 15) ∧ p.2 = -1 ∧ v = .iface 114 (.pointer (some (ad p.1)))) ∨
 ((1 ≤ p.1 ∧ p.1 ≤ 15) ∧ 0 ≤ p.2 ∧ p.2 < 1000 ∧ ∃ b, v = .iface 66 (.pointer (some ⟨b, 0, none⟩)) ∧ w.heap[b]? = some (.cells #[.int .i64 p.2, .iface 114 (.pointer (some (ad p.1)))] 68 (0, 0)))
theorem ErrW.of {ad : Int → Addr} {w : World} {v : Value} {p : Int × Int} (h : ErrV ad w v p) : ErrW ad w v p := by
 rcases h with h | ⟨h1, h2, h3⟩ | ⟨h1, h2, h3, h4⟩
 · exact .inl h
 · exact .inr (.inl ⟨by omega, h2, h3⟩)
 · exact .inr (.inr ⟨by omega, h2, by omega, h4⟩)
theorem ErrW.below {ad : Int → Addr} {w w' : World} {v : Value} {p : Int × Int} (h : ErrW ad w v p) (hb : Below w.heap.size w w') : ErrW ad w' v p := by
 rcases h with h | h | ⟨h1, h2, h3, b, hv, hx⟩
 · exact .inl h
 · exact .inr (.inl h)
 · exact .inr (.inr ⟨h1, h2, h3, b, hv, Box.below (W := w) (W' := w') hx hb⟩)
theorem ErrW.nil {ad : Int → Addr} {w : World} {v : Value} {p : Int × Int} (h : ErrW ad w v p) (h0 : p.1 = 0) : v = .nilIface := by
 rcases h with h | h | h
 · exact h.2.2
 · have := h.1; omega
 · have := h.1; omega
theorem ErrW.any {ad : Int → Addr} {w : World} {v : Value} {p : Int × Int} (h : ErrW ad w v p) (h0 : p.1 ≠ 0) : ∃ t u, v = .iface t u := by
 rcases h with h | h | h
 · exact absurd h.1 h0
 · exact ⟨_, _, h.2.2⟩
 · obtain ⟨_, _, _, b, h, _⟩ := h; exact ⟨_, _, h⟩
theorem Kind_w {ad : Int → Addr} {w : World} (hs : SentsK ad w) {v : Value} {p : Int × Int} (hv : ErrW ad w v p) : Calls Tryd.prog 16 #[v] w fun e w' => e = .returned (.int .i64 p.1) ∧ Below w.heap.size w w' := by
 rcases hv with ⟨h0, _, rfl⟩ | ⟨h1, _, rfl⟩ | ⟨h1, _, _, b, rfl, hx⟩
 · rw [h0]; exact Kind_nil w
 · exact Kind_any ad _ _ p.1 h1.1 h1.2 w hs (IsK.sent hs p.1 h1.1 h1.2)
 · exact Kind_any ad _ _ p.1 h1.1 h1.2 w hs (IsK.rule hs p.1 h1.1 h1.2 b (Box.cell (W := w) hx 1 _ rfl))
theorem Rule_w {ad : Int → Addr} {w : World} (hg : HandleP w) {v : Value} {p : Int × Int} (hv : ErrW ad w v p) : Calls Tryd.prog 17 #[v] w fun e w' => e = .returned (.int .i64 p.2) ∧ Below w.heap.size w w' := by
 rcases hv with ⟨_, h2, rfl⟩ | ⟨_, h2, rfl⟩ | ⟨_, _, _, b, rfl, hx⟩
 · rw [h2]
   exact Rule_no _ w (fun W _ a => (as_nilR _ W).mono fun _ _ ⟨he, hw⟩ => by subst hw; exact ⟨he, Below.refl _ _⟩)
 · rw [h2]
   exact Rule_no _ w (fun W hW a => as_esR _ a W (Handle.below (w := w) hg hW))
 · exact Rule_yes b p.2 w hg (Box.cell (W := w) hx 0 _ rfl)
def kindE : Option Int → Int
 | none => 0
 | some c => c % 16
def ruleE : Option Int → Int
 | none => -1
 | some c => c / 16 - 1
theorem SentsK.three {ad : Int → Addr} {w : World} (h : SentsK ad w) : Go.Proofs.YtaeaookonhaliaaDoor.B.Sents ad w := by
 obtain ⟨⟨h1, h2, h3, h4, h5, h6, h7, h8, h9, h10, h11, h12, h13, h14, h15⟩, _, _⟩ := h
 exact ⟨h3, h10, h1⟩
theorem Check_any (ad : Int → Addr) (A0 : Option Addr) (c0 : Nat) (l0 : List ByteArray) (A1 : Option Addr) (c1 : Nat) (l1 : List ByteArray) (a2 : Int) (A3 : Option Addr) (c3 : Nat) (l3 : List S55) (w : World) (hs : SentsK ad w) (hr0 : Kd.C Kd.string w A0 l0.length l0) (hc0 : l0.length ≤ c0) (hr1 : Kd.C Kd.string w A1 l1.length l1) (hc1 : l1.length ≤ c1) (hr3 : Kd.C k55 w A3 l3.length l3) (hc3 : l3.length ≤ c3) :
 Calls Tryd.prog 26 #[.agg #[.slice A0 l0.length c0, .slice A1 l1.length c1, .int .i64 a2, .slice A3 l3.length c3]] w fun e w' => (∃ v, e = .returned v ∧ ErrV ad w' v (chk (namesOK l0) (namesOK l1) l0.length l1.length a2 l3)) ∧ Below w.heap.size w w' := by
 have m0 := C_max hr0
 have m1 := C_max hr1
 exact Check_full ad _ A0 c0 l0 A1 c1 l1 a2 A3 c3 l3 _ _ w (SentsK.three hs) hr0 hc0 hr1 hc1 hr3 hc3 (Names_f l0 (l0.length + l0.length + l1.length + l1.length + 2) m0 (by omega)) (Names_f l1 (l0.length + l0.length + l1.length + l1.length + 2) m1 (by omega))
def dovetailkit_Kind.f (a0 : Option Int) : Option Int := some (kindE a0)
def dovetailkit_Rule.f (a0 : Option Int) : Option Int := some (ruleE a0)
end Go.Proofs.YtaeaookonhaliaaDoor.F
/- opform.bare: walked. -/
namespace Go.Proofs.YtaeaookonhaliaaDoor.R6
open Go.RowKit YtaeaookonhaliaaDoorW.PrintWords YtaeaookonhaliaaDoorW.PrintLast YtaeaookonhaliaaDoorW.PrintMore
open B H F
attribute [local go_sem] max2_int max_two

theorem setCells_block (g : Nat) (t : TypeId) : ∀ (vs pre mid : List Value) (w : World), mid.length = vs.length → w.heap[g]? = some (.cells (pre ++ mid).toArray t (0, 0)) → (w.setCells g pre.length vs).heap[g]? = some (.cells (pre ++ vs).toArray t (0, 0))
 | [], pre, mid, w, h, hg => by
  obtain rfl : mid = [] := List.length_eq_zero_iff.1 h
  exact hg
 | v :: vs, pre, [], w, h, hg => by simp at h
 | v :: vs, pre, m :: mid, w, h, hg => by
  rw [World.setCells]
  have h1 := heap_setCell_same w g pre.length _ t v hg
  have h2 : (pre ++ m :: mid).toArray.setIfInBounds pre.length v = ((pre ++ [v]) ++ mid).toArray := by simp
  rw [h2] at h1
  have h3 := setCells_block g t vs (pre ++ [v]) mid _ (by simpa using h) h1
  simpa using h3
theorem setCells_other (g : Nat) : ∀ (vs : List Value) (o : Nat) (w : World) (k : Nat), k ≠ g → (w.setCells g o vs).heap[k]? = w.heap[k]?
 | [], _, _, _, _ => rfl
 | v :: vs, o, w, k, h => by
  rw [World.setCells, setCells_other g vs (o + 1) _ k h]
  exact heap_setCell_other w _ k v h
theorem below_setCells {B g : Nat} {w0 : World} (hB : B ≤ g) : ∀ (vs : List Value) (o : Nat) (w : World), Below B w0 w → Below B w0 (w.setCells g o vs)
 | [], _, _, h => h
 | v :: vs, o, w, h => by
  rw [World.setCells]
  exact below_setCells hB vs (o + 1) _ (h.setCell (p := ⟨g, o, none⟩) hB v)

def mx (s : Int) : Int := if s < -1 then -1 else s
def barL (l : List Int) (k : Nat) : List Int := (l.length : Int) :: ((l.take k).map mx ++ List.replicate (32 - k) 0)
def barC (l : List Int) (k : Nat) : Array Value := ((barL l k).map (Value.int .i64)).toArray
theorem barL_len (l : List Int) (k : Nat) (hk : k ≤ l.length) (hl : l.length ≤ 32) : (barL l k).length = 33 := by
 unfold barL
 simp only [List.length_cons, List.length_append, List.length_map, List.length_take, List.length_replicate]
 omega
theorem barC_size (l : List Int) (k : Nat) (hk : k ≤ l.length) (hl : l.length ≤ 32) : (barC l k).size = 33 := by
 unfold barC
 rw [List.size_toArray, List.length_map, barL_len l k hk hl]
theorem barL_set (l : List Int) (k : Nat) (hk : k < l.length) (hl : l.length ≤ 32) : (barL l k).set (k + 1) (mx l[k]) = barL l (k + 1) := by
 unfold barL
 rw [List.set_cons_succ, List.take_succ_eq_append_getElem hk, List.map_append]
 have h1 : ((l.take k).map mx).length = k := by rw [List.length_map, List.length_take]; omega
 have h2 : List.replicate (32 - k) (0 : Int) = 0 :: List.replicate (32 - (k + 1)) 0 := by
  rw [← List.replicate_succ]; congr 1; omega
 rw [h2, List.set_append_right _ _ (by omega), h1, Nat.sub_self, List.set_cons_zero]
 simp
theorem barC_set (l : List Int) (k : Nat) (hk : k < l.length) (hl : l.length ≤ 32) : (barC l k).setIfInBounds (k + 1) (.int .i64 (mx l[k])) = barC l (k + 1) := by
 unfold barC
 rw [← barL_set l k hk hl]
 simp
theorem barC_at (l : List Int) (k : Nat) (hk : k < l.length) (hl : l.length ≤ 32) : (barC l k)[k + 1]? = some (.int .i64 0) := by
 have h1 : ((l.take k).map mx).length = k := by rw [List.length_map, List.length_take]; omega
 have h2 : List.replicate (32 - k) (0 : Int) = 0 :: List.replicate (32 - (k + 1)) 0 := by
  rw [← List.replicate_succ]; congr 1; omega
 unfold barC barL
 rw [h2]
 simp [List.getElem?_append, h1]
 rw [Nat.min_eq_left (by omega), if_neg (by omega), Nat.sub_self]
 rfl
def zK : Array Value := (List.replicate 33 (Value.int .i64 0)).toArray
theorem barC_one (l : List Int) (k : Nat) : (barC l k).all (·.oneCell') = true := all_oneCell_toArray (fun v hv => by
 obtain ⟨x, _, rfl⟩ := List.mem_map.1 hv
 rfl)
structure BR (w : World) (r b : Nat) (cs : Array Value) (W : World) : Prop where
 low : Below w.heap.size w W
 hr : w.heap.size ≤ r
 hb : w.heap.size ≤ b
 ne : r ≠ b
 rb : W.heap[r]? = some (.cells zK 59 (0, 0))
 kb : W.heap[b]? = some (.cells cs 59 (0, 0))
section
variable {w W : World} {r b : Nat} {cs : Array Value}
theorem BR.set (h : BR w r b cs W) (i : Nat) (v : Value) : BR w r b (cs.setIfInBounds i v) (W.setCell ⟨b, i, none⟩ v) :=
 ⟨h.low.setCell (p := ⟨b, i, none⟩) h.hb v, h.hr, h.hb, h.ne, (heap_setCell_other W _ _ v h.ne).trans h.rb, heap_setCell_same W _ i cs _ v h.kb⟩
theorem BR.cell (h : BR w r b cs W) (i : Nat) : W.cell? ⟨b, i, none⟩ = cs[i]? := cell_of_row W _ i cs _ _ h.kb
theorem BR.frozen (h : BR w r b cs W) (i : Nat) : W.frozen? ⟨b, i, none⟩ = false := frozen_of_row W _ i cs _ h.kb
theorem BR.whole (h : BR w r b cs W) (vs : List Value) (hl : vs.length = cs.size) : BR w r b vs.toArray (W.setCells b 0 vs) :=
 ⟨below_setCells h.hb _ _ _ h.low, h.hr, h.hb, h.ne, (setCells_other b vs 0 W r h.ne).trans h.rb, by
  have := setCells_block b 59 vs [] cs.toList W (by simpa using hl.symm) (by simpa using h.kb)
  simpa using this⟩
theorem BR.there (h : BR w r b cs W) : W.there b 0 cs.size := fun j hj => by
 refine ⟨?_, frozen_of_row W _ _ _ _ h.kb⟩
 rw [Nat.zero_add, h.cell, Array.getElem?_eq_getElem hj]
 rfl
end
theorem infoKey : (Tryd.prog.info? 59).map (·.size) = some 33 := by kernel_rfl
set_option maxRecDepth 100000 in
set_option maxHeartbeats 4000000 in
theorem bare_calls (A : Option Addr) (c : Nat) (l : List Int) (w : World) (hr : Kd.C (Kd.int .i64) w A l.length l) (hl : l.length ≤ 32) :
 Calls Tryd.prog 28 #[.slice A l.length c] w fun e w' => e = .returned (.agg (barC l l.length)) ∧ Below w.heap.size w w' := by
 obtain ⟨ca, hca⟩ : ∃ ca, ca = barC l l.length := ⟨_, rfl⟩
 rw [← hca]
 have HCA := Lib.hid hca
 clear hca
 have HR := Aside0.mk hr
 clear hr
 go_enter Tryd.func28, Tryd.ntmps28
 go_wp2_with (first
  | ((with_reducible refine gate_dst (N := 2) rfl ?_); refine box_event rfl (N := 2) rfl (cs := zK) (t := 59) ?hr ?_; (case hr => kernel_rfl); intro r hr1 w1 hb1 hl1; have B1 := Aside0.mk (And.intro hr1 (And.intro hb1 hl1)); clear hr1 hb1 hl1)
  | ((with_reducible refine gate_dst (N := 3) rfl ?_); refine box_event rfl (N := 3) rfl (cs := zK) (t := 59) ?hr ?_; (case hr => kernel_rfl); intro b hr2 w2 hb2 hl2; have B2 := Aside0.mk (And.intro hr2 (And.intro hb2 hl2)); clear hr2 hb2 hl2)
  | ((with_reducible refine gate_store (t := 59) (p := 3) (v := .tmp 8) rfl ?_); refine Aside0.out ?_))
 refine Aside0.mk ?_
 obtain ⟨e1, h1, l1⟩ := B1.out
 obtain ⟨e2, h2, l2⟩ := B2.out
 clear B1 B2
 have hrlt : r < w1.heap.size := (Array.getElem?_eq_some_iff.1 h1).1
 have br0 : BR w r b zK w2 := ⟨l1.trans (l2.mono l1.size), by omega, by have := l1.size; omega, by omega, (l2.block r hrlt).trans h1, h2⟩
 have br1 := br0.whole (barC l 0).toList (by rw [Array.length_toList, barC_size l 0 (Nat.zero_le _) hl]; rfl)
 refine wpList_store_mid rfl 59 (.tmp 3) (.tmp 8) rfl b 0 (barC l 0) rfl rfl (by rw [barC_size l 0 (Nat.zero_le _) hl]; exact br0.there) (by rw [barC_size l 0 (Nat.zero_le _) hl]; exact infoKey) (barC_one l 0) ?_
 obtain ⟨w3, hw3⟩ : ∃ w3, w3 = w2.setCells b 0 (barC l 0).toList := ⟨_, rfl⟩
 rw [← hw3] at br1 ⊢
 have ST : Aside0 (BR w r b (barC l 0) w3) := ⟨br1⟩
 clear br0 br1 h1 h2 l1 l2 e1 e2 hrlt
 clear hw3
 go_wp2_with fail
 go_loopw [11] (fun i wq => ∃ k : Nat, k ≤ l.length ∧ i = .int .i64 k ∧ Aside0 (BR w r b (barC l k) wq)) (fun i _ => l.length - (intOf i).toNat)
 case atStart => exact ⟨0, Nat.zero_le _, rfl, ST⟩
 case round =>
  clear ST
  obtain ⟨k, hk, rfl, tr⟩ := hrel
  by_cases hlt : k < l.length
  · obtain ⟨ad, rfl, hx⟩ := Kd.at_int (Kd.C_below HR.out tr.out.low) (k : Int) (by omega) (by omega)
    rw [Int.toNat_natCast, rd_D, getD_lt _ _ _ hlt] at hx
    have fc := tr.out.cell (k + 1)
    rw [barC_at l k hlt hl] at fc
    have ff := tr.out.frozen (k + 1)
    have HS : Aside0 (BR w r b (barC l (k + 1)) (wr.setCell ⟨b, k + 1, none⟩ (.int .i64 (mx l[k])))) := ⟨by rw [← barC_set l k hlt hl]; exact tr.out.set _ _⟩
    unfold mx at HS
    generalize l[k] = x at hx HS
    have hk32 : (k : Int) + 1 < 33 := by omega
    by_cases hx1 : x < -1
    · rw [if_pos hx1] at HS
      go_wp2_with fail
      go_roundw
      case measure => simp [intOf]; omega
      case rel => exact ⟨k + 1, by omega, by go_num, HS⟩
    · rw [if_neg hx1] at HS
      go_wp2_with fail
      go_roundw
      case measure => simp [intOf]; omega
      case rel => exact ⟨k + 1, by omega, by go_num, HS⟩
  · obtain rfl : k = l.length := by omega
    have hsz := barC_size l l.length (Nat.le_refl _) hl
    have HKB := Aside0.mk tr.out.kb
    have HI : Aside0 ((Tryd.prog.info? 59).map (·.size) = some (barC l l.length).size) := ⟨by rw [hsz]; exact infoKey⟩
    have hrb := tr.out.rb
    have HTH : Aside0 (wr.there r 0 (barC l l.length).size) := ⟨fun j hj => by
     rw [hsz] at hj
     refine ⟨?_, frozen_of_row wr _ _ _ _ hrb⟩
     rw [cell_of_row wr _ _ _ _ _ hrb, Nat.zero_add, Array.getElem?_eq_getElem (by simpa [zK] using hj)]
     rfl⟩
    have HON := Aside0.mk (barC_one l l.length)
    have HF : Aside0 ((wr.setCells r 0 (barC l l.length).toList).heap[r]? = some (.cells (barC l l.length) 59 (0, 0))) := ⟨by
     have := setCells_block r 59 (barC l l.length).toList [] zK.toList wr (by rw [Array.length_toList, Array.length_toList, hsz]; rfl) (by simpa using hrb)
     simpa using this⟩
    have HL : Aside0 (Below w.heap.size w (wr.setCells r 0 (barC l l.length).toList)) := ⟨below_setCells tr.out.hr _ _ _ tr.out.low⟩
    rw [← HCA.out] at HKB HI HTH HON HF HL
    clear hrb tr hsz
    go_wp2_with (first
     | ((with_reducible refine gate_dst (N := 22) rfl ?_); refine wpList_load_row rfl 59 (.tmp 3) rfl b rfl 59 ca (0, 0) _ HKB.out Tryd.underlying59 rfl HI.out ?_)
     | ((with_reducible refine gate_store (t := 59) (p := 2) (v := .tmp 22) rfl ?_); refine wpList_store_mid rfl 59 (.tmp 2) (.tmp 22) rfl r 0 ca rfl rfl HTH.out HI.out HON.out ?_))
    refine bodyPost_ret (results_cell_row rfl _ _ r 59 ca (0, 0) _ rfl HF.out Tryd.underlying59 rfl HI.out) rfl ?_
    exact ⟨rfl, HL.out⟩
end Go.Proofs.YtaeaookonhaliaaDoor.R6
/- opform.Skeleton: walked. -/
namespace Go.Proofs.YtaeaookonhaliaaDoor.R6
open Go.RowKit YtaeaookonhaliaaDoorW.PrintWords YtaeaookonhaliaaDoorW.PrintLast YtaeaookonhaliaaDoorW.PrintMore
open B H F

theorem plain_int : Tryd.prog.plainKey 3 = true := by kernel_rfl
theorem eqItems_same (d : Nat) (w : World) (L : List Int) : ∀ is : List Nat, (∀ i ∈ is, i < L.length) → (Op.eqItems (d + 1) 3 1 (L.map (Value.int .i64)).toArray (L.map (Value.int .i64)).toArray is).run Tryd.prog w = .ok true w
 | [], _ => rfl
 | i :: is, h => by
  have hi := h i List.mem_cons_self
  have hp : (part 3 (L.map (Value.int .i64)).toArray (i * 1)).run Tryd.prog w = .ok (.int .i64 L[i]) w := run_part_plain w plain_int (by simp [hi])
  have he := run_equalIn_int (P := Tryd.prog) w d 3 .i64 .i64 L[i] L[i] Tryd.underlying3
  have ih := eqItems_same d w L is (fun j hj => h j (List.mem_cons_of_mem _ hj))
  simp only [Op.eqItems, Sem.run_bind, hp, Result.andThen_ok, he, beq_self_eq_true, Bool.not_true, Bool.false_eq_true, if_false]
  exact ih
theorem eqItems_first (d : Nat) (w : World) (a b : Int) (hab : a ≠ b) (xs ys : Array Value) (hx : xs[0]? = some (.int .i64 a)) (hy : ys[0]? = some (.int .i64 b)) (is : List Nat) : (Op.eqItems (d + 1) 3 1 xs ys (0 :: is)).run Tryd.prog w = .ok false w := by
 have h1 : (part 3 xs (0 * 1)).run Tryd.prog w = .ok (.int .i64 a) w := run_part_plain w plain_int hx
 have h2 : (part 3 ys (0 * 1)).run Tryd.prog w = .ok (.int .i64 b) w := run_part_plain w plain_int hy
 have he := run_equalIn_int (P := Tryd.prog) w d 3 .i64 .i64 a b Tryd.underlying3
 have hb : (a == b) = false := beq_false_of_ne hab
 simp only [Op.eqItems, Sem.run_bind, h1, h2, Result.andThen_ok, he, hb, Bool.not_false, if_true, Sem.run_pure]
theorem cells_int : Tryd.prog.cellsOf 3 = 1 := by kernel_rfl
theorem keyEq (l : List Int) (hl : l.length ≤ 32) (w : World) : (Op.equal 59 (.agg (barC l l.length)) (.agg (barC [] 0))).run Tryd.prog w = .ok (decide (l = [])) w := by
 obtain ⟨i, hi⟩ : ∃ i, Tryd.prog.info? 3 = some i := by
  have : (Tryd.prog.info? 3).isSome = true := by kernel_rfl
  exact Option.isSome_iff_exists.1 this
 have hr := run_equalIn_array (P := Tryd.prog) (w := w) 9999 (barC l l.length) (barC [] 0) Tryd.underlying59 hi
 unfold Op.equal
 refine hr.trans ?_
 rw [cells_int]
 by_cases h : l = []
 · subst h
   exact eqItems_same 9998 w (barL [] 0) (List.range 33) (fun i hi => by rw [barL_len [] 0 (Nat.le_refl _) (by simp)]; exact List.mem_range.1 hi)
 · rw [decide_eq_false h]
   have hl0 : (l.length : Int) ≠ 0 := by
    have := List.length_pos_iff.2 h
    omega
   exact eqItems_first 9998 w l.length 0 hl0 _ _ rfl rfl (List.range' 1 32)
theorem infoI : (Tryd.prog.info? 3).map (fun i => (i.zero, i.size, i.bytes)) = some (some (.int .i64 0), 1, 8) := by kernel_rfl
set_option maxRecDepth 100000 in
theorem clip_calls (A : Option Addr) (n c : Nat) (w : World) (hc : n ≤ c) (hm : n ≤ 9223372036854775807) :
 Calls Tryd.prog 29 #[.slice A n c] w fun e w' => e = .returned (.slice A n n) ∧ Below w.heap.size w w' := by
 go_enter Tryd.func29, Tryd.ntmps29
 go_wp2_with fail
 go_ret
 exact ⟨rfl, Below.refl _ w⟩
theorem mx_max (s : Int) : mx s = max s (-1) := by unfold mx; split <;> omega
theorem run_load_row {P : Program} {o : Oper} {a : Act} {w : World} (ty : TypeId) (x : Operand) (ho : o.op = .load ty x) (g : Nat) (hx : a.eval x = .pointer (some ⟨g, 0, none⟩)) (t : TypeId) (cs : Array Value) (fr : Nat × Nat) (d : TypeDesc) (hg : w.heap[g]? = some (.cells cs t fr))
 (hu : P.underlying ty = some d) (hd : (match d with | .struct _ | .array _ _ => true | _ => false) = true) (hi : (P.info? ty).map (·.size) = some cs.size) : (execOp a.eval o).run P w = .ok (.value (.agg cs)) w := by
 unfold execOp
 simp only [ho, hx, Instr.loadAt, Instr.sureAddr, Sem.run_bind, Sem.run_pure, Result.andThen_ok, run_loadVar_row w g t ty cs fr d hg hu hd hi]
theorem add1 (b n : Nat) : (⟨b, 1, none⟩ : Addr).add n = ⟨b, 1 + n, none⟩ := by
 unfold Addr.add
 by_cases h : n = 0
 · rw [if_pos h, h]
 · rw [if_neg h]
theorem key_row {W : World} {b : Nat} {t : TypeId} (r : List Int) (hl : r.length ≤ 32) (h : W.heap[b]? = some (.cells (barC r r.length) t (0, 0))) : Kd.C (Kd.int .i64) W (some ⟨b, 1, none⟩) r.length (r.map mx) :=
 ⟨by rw [List.length_map], by omega, fun _ => ⟨_, rfl, fun i p hp => ⟨[.int .i64 p], rfl, rfl, fun ii u hu => by
  obtain rfl : ii = 0 := by
   rcases ii with _ | ii
   · rfl
   · simp at hu
  obtain rfl : Value.int .i64 p = u := by simpa using hu
  show W.cell? ((⟨b, 1, none⟩ : Addr).add (i * 1 + 0)) = _
  have hi : i < r.length := by
   have := (List.getElem?_eq_some_iff.1 hp).1
   rwa [List.length_map] at this
  rw [add1, cell_of_row W _ _ _ _ _ h, Nat.mul_one, Nat.add_zero, Nat.add_comm]
  have hb : (barL r r.length)[i + 1]? = some p := by
   unfold barL
   rw [List.getElem?_cons_succ, List.take_length, List.getElem?_append_left (by rw [List.length_map]; exact hi)]
   exact hp
  unfold barC
  rw [List.getElem?_toArray, List.getElem?_map, hb]
  rfl⟩⟩⟩
theorem arrLen : Tryd.prog.arrayLen 59 = 33 := by kernel_rfl
theorem arrUnd : Tryd.prog.underlying 59 = some (.array (Tryd.prog.arrayLen 59) (Tryd.prog.elem 59)) := by kernel_rfl
theorem arrElem : Tryd.prog.elem 59 = 3 := by kernel_rfl
theorem run_sliceKey (w : World) (b m : Nat) (hm : m ≤ 32) : (Instr.sliceAt 59 (.pointer (some ⟨b, 0, none⟩)) (some (.int .i64 1)) (some (.int .i64 ((m : Int) + 1))) none).run Tryd.prog w = .ok (.slice (some ⟨b, 1, none⟩) m 32) w := by
 obtain ⟨i, hi⟩ : ∃ i, Tryd.prog.info? 3 = some i := by
  have : (Tryd.prog.info? 3).isSome = true := by kernel_rfl
  exact Option.isSome_iff_exists.1 this
 rw [run_sliceAt_array_lh (P := Tryd.prog) w 59 ⟨b, 0, none⟩ arrUnd .i64 .i64 1 ((m : Int) + 1) (by decide) (by omega) (by rw [arrLen]; omega), arrElem, run_sizeOf w hi, Result.andThen_ok, cells_int, arrLen]
 have h1 : ((m : Int) + 1).toNat - (1 : Int).toNat = m := by omega
 unfold slicedAt
 rw [h1]
 rfl
def lenV : Value → Nat
 | .slice _ n _ => n
 | _ => 0
set_option maxRecDepth 100000 in
set_option maxHeartbeats 4000000 in
theorem Skeleton_calls (A : Option Addr) (c : Nat) (l : List Int) (w : World) (hr : Kd.C (Kd.int .i64) w A l.length l) (hc : l.length ≤ c) (hl : l.length < 17592186044415) :
 Calls Tryd.prog 8 #[.slice A l.length c] w fun e w' => ∃ B cap, e = .returned (.slice B l.length l.length) ∧ Kd.R (Kd.int .i64) 3 w' w.heap.size (fun _ => True) (.slice B l.length cap) (l.map mx) ∧ Below w.heap.size w w' := by
 have HR : Aside0 (Kd.C (Kd.int .i64) w A (l.drop 0).length (l.drop 0)) := ⟨hr⟩
 clear hr
 go_enter Tryd.func8, Tryd.ntmps8
 go_wp2_with fail
 go_loopw [0, 3] (fun r o wq => ∃ (j : Nat) (B : Option Addr) (d m : Nat), j ≤ l.length ∧ Hid (m = (l.drop j).length) ∧ r = .slice B m d ∧ m ≤ d ∧ Aside0 (Kd.C (Kd.int .i64) w B (l.drop j).length (l.drop j)) ∧ Aside0 (Kd.R (Kd.int .i64) 3 wq w.heap.size (fun _ => True) o ((l.take j).map mx)) ∧ Aside0 (Below w.heap.size w wq)) (fun r _ _ => lenV r)
 case atStart => exact ⟨0, A, c, l.length, Nat.zero_le _, Lib.hid rfl, rfl, hc, HR, ⟨Kd.R_nil _ _ _ _ _⟩, ⟨Below.refl _ _⟩⟩
 case round =>
  clear HR
  obtain ⟨j, B, d, m, hj, hm, rfl, hmd, hB, ho, hw⟩ := hrel
  have hml := hm.out
  rw [List.length_drop] at hml
  by_cases hlt : 32 < m
  · have hcb := hB.out
    rw [← hm.out] at hcb
    obtain ⟨ad, rfl, hx⟩ := Kd.at_int (Kd.C_below hcb hw.out) (0 : Int) (by omega) (by omega)
    have hrd : rd (l.drop j) (0 : Int) = l[j] := by simp [rd, List.getD_eq_getElem?_getD, List.getElem?_drop, show j < l.length by omega]
    rw [hrd] at hx
    replace hx : wr.cell? ad = some (.int .i64 l[j]) := hx
    have HT : Hid ((l.take (j + 1)).map mx = (l.take j).map mx ++ [mx l[j]]) := Lib.hid (by rw [List.take_succ_eq_append_getElem (by omega), List.map_append]; rfl)
    have HTL : Hid (((l.take j).map mx).length ≤ l.length) := Lib.hid (by rw [List.length_map, List.length_take]; omega)
    have HD : Aside0 (Kd.C (Kd.int .i64) w (some (ad.add 1)) (l.drop (j + 1)).length (l.drop (j + 1))) := ⟨by
     have := Kd.C_drop (m := 1) (c := d) hB.out (by rw [← hm.out]; omega) (by rw [← hm.out]; exact hmd)
     rw [if_neg (by omega), List.drop_drop] at this
     exact this⟩
    have hsz := hw.out.size
    rw [mx_max] at HT
    generalize l[j] = x at hx HT
    have d1 : decide ((32 : Int) < (m : Int)) = true := decide_eq_true (by omega)
    have d2 : decide (32 < m) = true := decide_eq_true hlt
    have HML := Lib.hid hml
    have HLT := Lib.hid hlt
    clear hcb hrd hml
    go_wp2_with (first
     | ((with_reducible refine gate_builtin (b := .append) (xs := #[.tmp 8, .tmp 13]) rfl ?_); at_builtin; go_loud (refine Kd.R_append (Kd.int .i64) (w0 := w) w.heap.size rfl (.tmp 8) (.tmp 13) 22 3 (.int .i64 0) 8 rfl Tryd.underlying22 infoI rfl (by decide) (by decide) u3 ((l.take j).map mx) (max x (-1)) [.int .i64 (max x (-1))] (fun _ => True) (fun _ => False) rfl rfl rfl (fun _ hk => hk.elim) (fun _ _ => trivial) ho.out hw.out hsz ?aL ?_; (case aL => have := HTL.out; omega); intro v1 w5 hR hB5 hg hat'; have T5 := Aside0.mk (And.intro hR hB5); clear hR hB5 hg hat')))
    go_roundw
    case measure => simp [lenV]; omega
    case rel => exact ⟨j + 1, some (ad.add 1), d - 1, m - 1, by have := HML.out; omega, Lib.hid (by have := HML.out; rw [List.length_drop]; omega), by simp [Addr.add], by omega, HD, ⟨by rw [HT.out]; exact T5.out.1⟩, ⟨T5.out.2⟩⟩
  · have d1 : decide ((32 : Int) < (m : Int)) = false := decide_eq_false (by omega)
    have d2 : decide (32 < m) = false := decide_eq_false hlt
    have hm32 : (l.drop j).length ≤ 32 := by rw [List.length_drop]; omega
    have KB1 : Aside0 (∀ W, Below w.heap.size w W → Calls Tryd.prog 28 #[.slice B m d] W fun e w' => e = .returned (.agg (barC (l.drop j) (l.drop j).length)) ∧ Below W.heap.size W w') := ⟨fun W hW => by
     rw [hm.out]; exact bare_calls B d (l.drop j) W (Kd.C_below hB.out hW) hm32⟩
    obtain ⟨ka, hka⟩ : ∃ ka, ka = barC (l.drop j) (l.drop j).length := ⟨_, rfl⟩
    rw [← hka] at KB1
    have HKA := Lib.hid hka
    have HML := Lib.hid hml
    clear hka hml hm32
    go_wp2_with (first
     | (go_at_call 28; (with_reducible refine (KB1.out _ hw.out).mono ?_); rintro e w4 ⟨rfl, b4⟩; have B4 := Aside0.mk b4; clear b4)
     | ((with_reducible refine gate_dst (N := 4) rfl ?_); refine box_event rfl (N := 4) rfl (cs := zK) (t := 59) ?hr ?_; (case hr => kernel_rfl); intro b hb w5 h5 l5; have B5 := Aside0.mk (And.intro hb (And.intro h5 l5)); clear hb h5 l5)
     | ((with_reducible refine gate_store (t := 59) (p := 4) (v := .tmp 18) rfl ?_); refine Aside0.out ?_))
    refine Aside0.mk ?_
    obtain ⟨eb, h5, l5⟩ := B5.out
    have b4 := B4.out
    have hks : ka.size = 33 := by rw [HKA.out]; exact barC_size _ _ (Nat.le_refl _) (by have := HML.out; rw [List.length_drop]; omega)
    have hko : ka.all (·.oneCell') = true := by rw [HKA.out]; exact barC_one _ _
    have hth : w5.there b 0 ka.size := fun i hi => by
     rw [hks] at hi
     refine ⟨?_, frozen_of_row w5 _ _ _ _ h5⟩
     rw [cell_of_row w5 _ _ _ _ _ h5, Nat.zero_add, Array.getElem?_eq_getElem (by simpa [zK] using hi)]
     rfl
    have hinf : (Tryd.prog.info? 59).map (·.size) = some ka.size := by rw [hks]; exact infoKey
    refine wpList_store_mid rfl 59 (.tmp 4) (.tmp 18) rfl b 0 ka rfl rfl hth hinf hko ?_
    have h6 : (w5.setCells b 0 ka.toList).heap[b]? = some (.cells ka 59 (0, 0)) := by
     have := setCells_block b 59 ka.toList [] zK.toList w5 (by rw [Array.length_toList, Array.length_toList, hks]; rfl) (by simpa using h5)
     simpa using this
    have hwb : w.heap.size ≤ b := by have := hw.out.size; have := b4.size; omega
    have low4 : Below w.heap.size w w4 := hw.out.trans (b4.mono hw.out.size)
    have low6 : Below w.heap.size w (w5.setCells b 0 ka.toList) := below_setCells hwb _ _ _ (low4.trans (l5.mono low4.size))
    have up6 : Below w4.heap.size w4 (w5.setCells b 0 ka.toList) := below_setCells (by omega) _ _ _ l5
    have R6 : Kd.R (Kd.int .i64) 3 (w5.setCells b 0 ka.toList) w.heap.size (fun _ => True) u3 ((l.take j).map mx) := Kd.R_below (Kd.R_below ho.out b4) up6
    obtain ⟨w6, hw6⟩ : ∃ w6, w6 = w5.setCells b 0 ka.toList := ⟨_, rfl⟩
    rw [← hw6] at h6 low6 R6 ⊢
    have H6 := Aside0.mk h6
    have L6 := Aside0.mk low6
    have HR6 := Aside0.mk R6
    have HI := Aside0.mk hinf
    have HKE : Aside0 (∀ W : World, (Op.equal 59 (.agg ka) (.agg (barC [] 0))).run Tryd.prog W = .ok (decide (l.drop j = [])) W) := ⟨fun W => by rw [HKA.out]; exact keyEq _ (by have := HML.out; rw [List.length_drop]; omega) W⟩
    have KB0 : Aside0 (∀ W, Calls Tryd.prog 28 #[.slice none 0 0] W fun e w' => e = .returned (.agg (barC [] 0)) ∧ Below W.heap.size W w') := ⟨fun W => bare_calls none 0 [] W (Kd.C_nil _ _) (by simp)⟩
    clear h6 low6 R6 hw6 up6 low4 h5 l5 b4 eb hko hth hinf B4 B5 KB1 hks
    obtain ⟨k0, hk0⟩ : ∃ k0, k0 = barC [] 0 := ⟨_, rfl⟩
    rw [← hk0] at HKE KB0
    clear hk0
    go_wp2_with fail
    simp only [Act.put]
    refine start_ (n := 3) (S := fun W => W.heap[b]? = some (.cells ka 59 (0, 0))) (ds := []) #[false, false, false] ?h1 ?h2 ?h3 H6.out (fun hHeld => ?_)
    case h1 => kernel_rfl
    case h2 => rfl
    case h3 => rfl
    refine take_ (i := 0) (N := some 19) (v := .agg ka) #[true, false, false] rfl rfl (by kernel_rfl) (fun _ _ _ h => h) (Or.inl ⟨by rfl, fun w' s0 => run_load_row 59 (.tmp 4) rfl b rfl 59 ka (0, 0) _ s0 Tryd.underlying59 rfl HI.out⟩) hHeld rfl ?_
    refine one_ (i := 1) (N := some 20) #[true, true, false] rfl rfl (by kernel_rfl) (by simp) (fun K hK => ?_)
    refine goes_ Tryd.func28 (by kernel_rfl) rfl #[.slice none 0 0] (by rfl) rfl rfl (by simp only [List.map_toArray, List.map_cons, List.map_nil]; rfl) ?_
    refine (KB0.out _).mono ?_
    rintro e w7 ⟨rfl, b7⟩
    have h7 : w7.heap[b]? = some (.cells ka 59 (0, 0)) := (b7.block b (Array.getElem?_eq_some_iff.1 hHeld).1).trans hHeld
    refine ⟨_, rfl, hK.out _ _ h7 (fun hHeld7 => ?_)⟩
    clear hK K
    refine one_ (i := 2) (N := some 21) #[true, true, true] rfl rfl (by kernel_rfl) (by simp) (fun K hK => ?_)
    obtain ⟨q, hqd⟩ : ∃ q : Bool, q = decide (l.drop j = []) := ⟨_, rfl⟩
    have hq : (Op.equalIn 10000 59 (.agg ka) (.agg k0)).run Tryd.prog w7 = .ok q w7 := by rw [hqd]; exact HKE.out w7
    refine value_ (w1 := w7) (v := .bool q) (by rfl) rfl ?_ ?_
    · go_simp
    refine hK.out _ _ h7 (fun hHeld8 => ?_)
    clear hK K
    refine done_ (by kernel_rfl) ?_
    simp only [Act.put, List.setIfInBounds_toArray, List.set_cons_zero, List.set_cons_succ]
    have low7 := (L6.out.drew).trans (b7.mono L6.out.drew.size)
    have R7 := Kd.R_below (Kd.R_drew HR6.out) b7
    have HQ := Lib.hid hqd
    clear hq hHeld hHeld7 hHeld8 b7
    by_cases hm0 : m = 0
    · have hjl : j = l.length := by have := HML.out; omega
      have hqt : q = true := by rw [HQ.out, decide_eq_true]; rw [hjl]; exact List.drop_length
      subst hqt
      rw [hjl, List.take_length] at R7
      obtain ⟨B', cap, ev⟩ := Kd.R_slice R7
      rw [ev] at R7
      obtain ⟨_, hcl, hcr⟩ := Kd.R_reads' R7
      rw [List.length_map] at ev hcl R7
      subst ev
      have R7A := Aside0.mk R7
      have L7 := Aside0.mk low7
      have KCl : Aside0 (∀ W, Calls Tryd.prog 29 #[.slice B' l.length cap] W fun e w' => e = .returned (.slice B' l.length l.length) ∧ Below W.heap.size W w') := ⟨fun W => clip_calls B' l.length cap W hcl (by omega)⟩
      clear R7 low7 hcr h7
      go_wp2_with (first
       | (go_at_call 29; (with_reducible refine (KCl.out _).mono ?_); rintro e w8 ⟨rfl, b8⟩))
      have hv := Ending.returned.inj (by assumption : Ending.returned (Value.slice B' l.length l.length) = Ending.returned _)
      subst hv
      go_ret
      exact ⟨B', cap, rfl, Kd.R_below R7A.out b8, L7.out.trans (b8.mono L7.out.size)⟩
    · have hqf : q = false := by
       rw [HQ.out, decide_eq_false]
       intro e
       have := congrArg List.length e
       rw [List.length_drop] at this
       have h2 := HML.out
       rw [List.length_nil] at this
       omega
      subst hqf
      have hm32 : (l.drop j).length ≤ 32 := by have := HML.out; rw [List.length_drop]; omega
      have h7k := h7
      rw [HKA.out] at h7k
      have hrow := key_row (l.drop j) hm32 h7k
      rw [← hm.out] at hrow
      have HROW := Aside0.mk hrow
      have R7A := Aside0.mk R7
      have L7 := Aside0.mk low7
      have hsz7 : w.heap.size ≤ w7.heap.size := low7.size
      have hm33 : (m : Int) + 1 ≤ ((Tryd.prog.arrayLen 59 : Nat) : Int) := by rw [arrLen]; omega
      have hm34 : (1 : Int) ≤ (m : Int) + 1 := by omega
      have hsl := run_sliceKey w7 b m (by omega)
      have HLT : Hid (((l.take j).map mx).length + m ≤ l.length) := Lib.hid (by have := HML.out; rw [List.length_map, List.length_take]; omega)
      clear R7 low7 hrow h7k hm32
      go_wp2_with (first
       | ((with_reducible refine gate_builtin (b := .append) (xs := #[.tmp 24, .tmp 28]) rfl ?_); at_builtin; refine Aside0.out ?_))
      refine Aside0.mk ?_
      refine Kd.R_append_row (Value.int .i64) 0 (w0 := w) w.heap.size rfl (.tmp 24) (.tmp 28) 22 3 (.int .i64 0) 8 rfl Tryd.underlying22 infoI rfl (by decide) u3 ((l.take j).map mx) ((l.drop j).map mx) (some ⟨b, 1, none⟩) m 32 (fun _ => True) rfl rfl (fun _ _ => trivial) R7A.out HROW.out L7.out hsz7 (by have := HLT.out; omega) ?_
      intro v1 w9 hR hB9 hg hat'
      have hmm : (l.take j).map mx ++ (l.drop j).map mx = l.map mx := by rw [← List.map_append, List.take_append_drop]
      rw [hmm] at hR
      obtain ⟨B', cap, ev⟩ := Kd.R_slice hR
      rw [ev] at hR
      obtain ⟨_, hcl, hcr⟩ := Kd.R_reads' hR
      rw [List.length_map] at ev hcl hR
      subst ev
      have R9 := Aside0.mk hR
      have L9 := Aside0.mk hB9
      have KCl : Aside0 (∀ W, Calls Tryd.prog 29 #[.slice B' l.length cap] W fun e w' => e = .returned (.slice B' l.length l.length) ∧ Below W.heap.size W w') := ⟨fun W => clip_calls B' l.length cap W hcl (by omega)⟩
      clear hR hB9 hg hat' hcr hmm h7 hsl
      go_wp2_with (first
       | (go_at_call 29; (with_reducible refine (KCl.out _).mono ?_); rintro e w8 ⟨rfl, b8⟩))
      go_ret
      exact ⟨B', cap, rfl, Kd.R_below R9.out b8, L9.out.trans (b8.mono L9.out.size)⟩
end Go.Proofs.YtaeaookonhaliaaDoor.R6
/- opform.faults: the iterator's contract. -/
namespace Go.Proofs.YtaeaookonhaliaaDoor.R6
open Go.RowKit Go.Shelf YtaeaookonhaliaaDoorW.PrintWords YtaeaookonhaliaaDoorW.PrintLast YtaeaookonhaliaaDoorW.PrintMore
attribute [local go_sem] Oper.semAt_some

def badAt (l : List Int) (i : Nat) : Bool := decide (l.getD (i - 1) 0 < 0) && decide (l.getD i 0 < 0)
def fsTo (l : List Int) (k : Nat) : List Nat := (List.range k).filter fun i => decide (1 ≤ i) && badAt l i
def fsL (l : List Int) : List Nat := if l = [] then [0] else fsTo l l.length
theorem fsTo_succ (l : List Int) (k : Nat) (hk : 1 ≤ k) : fsTo l (k + 1) = fsTo l k ++ if badAt l k = true then [k] else [] := by
 unfold fsTo
 rw [List.range_succ, List.filter_append]
 congr 1
 by_cases h : badAt l k = true
 · rw [if_pos h]; simp [h, hk]
 · rw [if_neg h]; simp [h]
theorem fsTo_one (l : List Int) : fsTo l 1 = [] := by simp [fsTo, List.range_succ]
theorem fsTo_prefix (l : List Int) {k n : Nat} (h : k ≤ n) : fsTo l k <+: fsTo l n := by
 unfold fsTo
 obtain ⟨d, rfl⟩ : ∃ d, n = k + d := ⟨n - k, by omega⟩
 rw [List.range_add, List.filter_append]
 exact List.prefix_append _ _

def KB (n₀ Bs : Nat) (W W' : World) : Prop := Below n₀ W W' ∧ W'.heap[Bs]? = W.heap[Bs]?
theorem KB.refl (n₀ Bs : Nat) (W : World) : KB n₀ Bs W W := ⟨Below.refl _ _, rfl⟩
theorem KB.trans {n₀ Bs : Nat} {A B C : World} (h : KB n₀ Bs A B) (h' : KB n₀ Bs B C) : KB n₀ Bs A C := ⟨h.1.trans h'.1, h'.2.trans h.2⟩
theorem KB.put {n₀ Bs : Nat} {w : World} (h0 : n₀ ≤ w.heap.size) (hB : Bs < w.heap.size) (W : World) (l : Nat) (o o' : Obj) (hl : w.heap.size ≤ l) (ho : W.heap[l]? = some o) (h1 : o.isCells = false) (h2 : o.isWalk = false) : KB n₀ Bs W (W.putObj l o') :=
 ⟨⟨rfl, rfl, rfl, by simp, fun k hk => World.putObj_heap_other (by omega)⟩, World.putObj_heap_other (by omega)⟩
set_option maxRecDepth 100000 in
set_option maxHeartbeats 2000000 in
theorem faults1_in (F : Fence) (n : Nat) (hF : F.fn 43) (hro : F.round = none) (hn : 1 ≤ n) (y Bs n₀ : Nat) (A : Option Addr) (c : Nat) (l : List Int) (hm : l.length ≤ 9223372036854775807) (w0 : World) (hsz : w0.heap.size ≤ n₀) (hl : Kd.C (Kd.int .i64) w0 A l.length l) (J Jx : List Nat → World → Prop)
 (hY : ∀ pre x W, J pre W → pre.length < l.length + 1 → YieldAt F (n - 1) Tryd.prog y #[.int .i64 (x : Nat)] W fun e W' =>
  (e = .returned (.bool true) ∧ J (pre ++ [x]) W' ∧ KB n₀ Bs W W') ∨ (e = .returned (.bool false) ∧ Jx (pre ++ [x]) W'))
 (W : World) (h0W : Below w0.heap.size w0 W) (hbB : W.heap[Bs]? = some (.cells #[.slice A l.length c] 22 (0, 0))) (h0 : J [] W) :
 CallsIn F n Tryd.prog 43 #[.func (.yield y) #[] #[], .pointer (some ⟨Bs, 0, none⟩)] W fun e W' => (∃ v, e = .returned v) ∧
  ((∃ ys, ys = fsL l ∧ J ys W') ∨ (∃ pre, (pre <+: fsL l ∧ pre ≠ []) ∧ Jx pre W')) := by
 refine callsIn_of_wp Tryd.func43 rfl hF ?_ hro
 simp only [Tryd.ntmps43, List.size_toArray, List.length_cons, List.length_nil, Nat.reduceAdd, Nat.reduceSub, Array.replicate_succ, Array.replicate_zero, List.push_toArray, List.append_toArray, List.nil_append, List.cons_append]
 have hcB : W.cell? ⟨Bs, 0, none⟩ = some (.slice A l.length c) := by rw [Lib.cell_of_heap hbB]; rfl
 by_cases hnil : l = []
 · obtain ⟨fn, tmps, assign, body, hy0, hR⟩ := hY [] 0 W h0 (by simp)
   have hy : (Instr.yield y #[Value.int .i64 0]).run Tryd.prog W = .ok (.round y fn tmps assign body) W := hy0
   clear hy0
   subst hnil
   gi_wp2
   refine hR.mono ?_
   rintro e W3 (⟨rfl, hJ3, hk3⟩ | ⟨rfl, hJx3⟩)
   · gi_wp2
     refine bodyPost_ret (results_none rfl _ _ _) rfl ?_
     exact ⟨⟨_, rfl⟩, .inl ⟨_, rfl, hJ3⟩⟩
   · gi_wp2
     refine bodyPost_ret (results_none rfl _ _ _) rfl ?_
     exact ⟨⟨_, rfl⟩, .inr ⟨[0], ⟨(List.prefix_rfl : [0] <+: [0]), by simp⟩, hJx3⟩⟩
 · have hpos : 0 < l.length := List.length_pos_iff.2 hnil
   have hz2 : ((l.length : Int) == 0) = false := beq_false_of_ne (by omega)
   have hfl : fsL l = fsTo l l.length := if_neg hnil
   gi_wp2
   gi_loopw [3] (fun i wr => ∃ j : Nat, j + 1 ≤ l.length ∧ i = .int .i64 ((j : Int) + 1) ∧ J (fsTo l (j + 1)) wr ∧ KB n₀ Bs W wr) (fun i _ => l.length - (intOf i).toNat)
   case atStart => exact ⟨0, hpos, rfl, by rw [fsTo_one]; exact h0, KB.refl _ _ _⟩
   case round =>
    obtain ⟨j, hj, rfl, hJs, hnx⟩ := hrel
    have hcs : wr.cell? ⟨Bs, 0, none⟩ = some (.slice A l.length c) := by rw [Lib.cell_of_heap (hnx.2.trans hbB)]; rfl
    by_cases hlt : j + 1 < l.length
    · have hlw := Kd.C_below hl (h0W.trans (hnx.1.mono hsz))
      obtain ⟨ad, rfl, hx⟩ := Kd.at_int hlw (j : Int) (by omega) (by omega)
      obtain ⟨ad', ead, hx'⟩ := Kd.at_int hlw ((j : Int) + 1) (by omega) (by omega)
      obtain rfl := Option.some.inj ead
      rw [Int.toNat_natCast] at hx
      rw [show ((j : Int) + 1).toNat = j + 1 by omega] at hx'
      have hr : rd l (j : Int) = l.getD j 0 := rfl
      have hr' : rd l ((j : Int) + 1) = l.getD (j + 1) 0 := by unfold rd; rw [show ((j : Int) + 1).toNat = j + 1 by omega]
      rw [hr] at hx
      rw [hr', show ad.add (j + 1) = ⟨ad.block, ad.off + (j + 1), none⟩ from if_neg (by omega)] at hx'
      have hsu := fsTo_succ l (j + 1) (by omega)
      have hbad : badAt l (j + 1) = (decide (l.getD j 0 < 0) && decide (l.getD (j + 1) 0 < 0)) := rfl
      have hlen : (fsTo l (j + 1)).length < l.length + 1 := by
       have := List.length_filter_le (fun i => decide (1 ≤ i) && badAt l i) (List.range (j + 1))
       rw [List.length_range] at this
       unfold fsTo; omega
      generalize l.getD j 0 = u at hx hbad
      generalize l.getD (j + 1) 0 = v at hx' hbad
      by_cases hu : u < 0
      · by_cases hv : v < 0
        · have hbad : badAt l (j + 1) = true := by rw [hbad, decide_eq_true hu, decide_eq_true hv]; rfl
          obtain ⟨fn, tmps, assign, body, hy0, hR⟩ := hY _ (j + 1) wr hJs hlen
          have hy : (Instr.yield y #[Value.int .i64 ((j : Int) + 1)]).run Tryd.prog wr = .ok (.round y fn tmps assign body) wr := hy0
          clear hy0
          rw [if_pos hbad] at hsu
          gi_wp2
          refine hR.mono ?_
          rintro e W3 (⟨rfl, hJ3, hk3⟩ | ⟨rfl, hJx3⟩)
          · rw [← hsu] at hJ3
            gi_wp2
            go_roundw
            case rel => exact ⟨j + 1, by omega, by go_num, hJ3, hnx.trans hk3⟩
            case measure => simp [intOf]; omega
          · rw [← hsu] at hJx3
            gi_wp2
            refine bodyPost_ret (results_none rfl _ _ _) rfl ?_
            exact ⟨⟨_, rfl⟩, .inr ⟨_, ⟨by rw [hfl]; exact fsTo_prefix l hlt, by rw [hsu]; simp⟩, hJx3⟩⟩
        · rw [hbad, decide_eq_true hu, decide_eq_false hv, if_neg (by decide), List.append_nil] at hsu
          gi_wp2
          refine ⟨fun _ h => (by cases h), ?_⟩
          gi_wp2
          go_roundw
          case rel => exact ⟨j + 1, by omega, by go_num, by rw [hsu]; exact hJs, hnx⟩
          case measure => simp [intOf]; omega
      · rw [hbad, decide_eq_false hu, Bool.false_and, if_neg (by decide), List.append_nil] at hsu
        gi_wp2
        refine ⟨fun _ h => (by cases h), ?_⟩
        gi_wp2
        go_roundw
        case rel => exact ⟨j + 1, by omega, by go_num, by rw [hsu]; exact hJs, hnx⟩
        case measure => simp [intOf]; omega
    · have hjl : j + 1 = l.length := by omega
      rw [hjl] at hJs
      have hjz : (j : Int) + 1 = (l.length : Int) := by omega
      gi_wp2
      go_end0
      exact ⟨⟨_, rfl⟩, .inl ⟨_, hfl.symm, hJs⟩⟩
theorem faults_stops (F : Fence) (n : Nat) (hF : F.fn 43) (hro : F.round = none) (hn : 1 ≤ n) (Bs n₀ : Nat) (A : Option Addr) (c : Nat) (l : List Int) (hm : l.length ≤ 9223372036854775807) (w0 w : World) (hsz : w0.heap.size ≤ n₀) (hl : Kd.C (Kd.int .i64) w0 A l.length l) (h0w : Below w0.heap.size w0 w) (hBs : Bs < w.heap.size)
 (hbB : w.heap[Bs]? = some (.cells #[.slice A l.length c] 22 (0, 0))) :
 SeqStopsK F n Tryd.prog 43 #[.pointer (some ⟨Bs, 0, none⟩)] (fun x : Nat => #[Value.int .i64 (x : Int)]) (KB n₀ Bs) (fun ys => ys = fsL l) (fun pre => pre <+: fsL l ∧ pre ≠ []) (l.length + 1) w := fun y J Jx W hW _ _ hY h0 =>
 faults1_in F n hF hro hn y Bs n₀ A c l hm w0 hsz hl J Jx hY W (h0w.trans (hW.mono h0w.size)) ((hW.block _ hBs).trans hbB) h0
theorem faults_calls (A : Option Addr) (m c : Nat) (w : World) : Calls Tryd.prog 32 #[.slice A m c] w fun e w' => e = .returned (.func (.func 43) #[] #[.pointer (some ⟨w.heap.size, 0, none⟩)]) ∧ w' = w.alloc (.cells #[.slice A m c] 22) := by
 go_enter Tryd.func32, Tryd.ntmps32
 go_wp2_with fail
 go_ret
 exact ⟨rfl, rfl⟩
end Go.Proofs.YtaeaookonhaliaaDoor.R6
/- Literals as rows. -/
namespace Go.Proofs.YtaeaookonhaliaaDoor.R6
open Go.RowKit YtaeaookonhaliaaDoorW.PrintWords YtaeaookonhaliaaDoorW.PrintLast YtaeaookonhaliaaDoorW.PrintMore
open B
theorem add0 (b n : Nat) : (⟨b, 0, none⟩ : Addr).add n = ⟨b, n, none⟩ := by
 unfold Addr.add
 by_cases h : n = 0
 · rw [if_pos h, h]
 · rw [if_neg h]; simp
theorem halloc (w : World) (o : Obj) : (w.alloc o).heap = w.heap.push o := rfl
theorem lit_row {α : Type} (d : Kd α) {W : World} {b : Nat} {t : TypeId} {cells : Array Value} (h : W.heap[b]? = some (.cells cells t (0, 0))) (xs : List α) (hm : xs.length ≤ 9223372036854775807)
 (hx : ∀ j p, xs[j]? = some p → ∃ c, c.length = d.sz ∧ d.K W p c ∧ ∀ i u, c[i]? = some u → cells[j * d.sz + i]? = some u) : Kd.C d W (some ⟨b, 0, none⟩) xs.length xs :=
 ⟨rfl, hm, fun _ => ⟨_, rfl, fun j p hj => by
  obtain ⟨c, h1, h2, h3⟩ := hx j p hj
  refine ⟨c, h1, h2, fun i u hu => ?_⟩
  have h4 := h3 i u hu
  rw [add0, Lib.cell_of_heap h, h4]⟩⟩
theorem lit_I {W : World} {b : Nat} {t : TypeId} (l : List Int) (hm : l.length ≤ 9223372036854775807) (h : W.heap[b]? = some (.cells (l.map (Value.int .i64)).toArray t (0, 0))) : Kd.C (Kd.int .i64) W (some ⟨b, 0, none⟩) l.length l :=
 lit_row _ h l hm fun j p hj => ⟨[.int .i64 p], rfl, rfl, fun i u hu => by
  obtain rfl : i = 0 := by
   rcases i with _ | i
   · rfl
   · simp at hu
  obtain rfl : Value.int .i64 p = u := by simpa using hu
  show (l.map (Value.int .i64)).toArray[j * 1 + 0]? = _
  simp [hj]⟩
theorem lit_L {W : World} {b : Nat} {t : TypeId} (L : List (List Int × (Option Addr × Nat))) (hm : L.length ≤ 9223372036854775807) (h : W.heap[b]? = some (.cells (L.map fun x => Value.slice x.2.1 x.1.length x.2.2).toArray t (0, 0)))
 (hR : ∀ x ∈ L, x.1.length ≤ x.2.2 ∧ Kd.C (Kd.int .i64) W x.2.1 x.1.length x.1) : Kd.C (Kd.slice 3 (Kd.int .i64)) W (some ⟨b, 0, none⟩) L.length (L.map Prod.fst) := by
 have := lit_row (Kd.slice 3 (Kd.int .i64)) h (L.map Prod.fst) (by rw [List.length_map]; exact hm) fun j p hj => by
  rw [List.getElem?_map] at hj
  obtain ⟨x, hx, rfl⟩ := Option.map_eq_some_iff.1 hj
  have h1 := hR x (List.mem_of_getElem? hx)
  refine ⟨[.slice x.2.1 x.1.length x.2.2], rfl, ⟨x.2.1, x.2.2, rfl, h1.1, h1.2⟩, fun i u hu => ?_⟩
  obtain rfl : i = 0 := by
   rcases i with _ | i
   · rfl
   · simp at hu
  obtain rfl : Value.slice x.2.1 x.1.length x.2.2 = u := by simpa using hu
  show (L.map fun x => Value.slice x.2.1 x.1.length x.2.2).toArray[j * 1 + 0]? = _
  simp [hx]
 rw [List.length_map] at this
 exact this
end Go.Proofs.YtaeaookonhaliaaDoor.R6
/- opform.Terms: walked; the contract of its iterator. -/
namespace Go.Proofs.YtaeaookonhaliaaDoor.R6
open Go.RowKit Go.Shelf YtaeaookonhaliaaDoorW.PrintWords YtaeaookonhaliaaDoorW.PrintLast YtaeaookonhaliaaDoorW.PrintMore
open B H F
set_option maxRecDepth 100000 in
set_option maxHeartbeats 4000000 in
theorem clone_calls (A : Option Addr) (c : Nat) (l : List Int) (w : World) (hr : Kd.C (Kd.int .i64) w A l.length l) (hc : l.length ≤ c) (hz : l.length < 17592186044415) :
 Calls Tryd.prog 39 #[.slice A l.length c] w fun e w' => ∃ v, e = .returned v ∧ Kd.R (Kd.int .i64) 3 w' w.heap.size (fun _ => True) v l ∧ Below w.heap.size w w' := by
 have HR := Aside0.mk hr
 cases A with
 | none =>
  have hl0 : l = [] := by
   have := hr.2.2
   by_cases h : l = []
   · exact h
   · obtain ⟨ad, e, _⟩ := this (List.length_pos_iff.2 h)
     cases e
  subst hl0
  clear hr
  have he : ∀ w : World, (binOp .eql 22 (.slice none 0 c) (.slice none 0 0)).run Tryd.prog w = .ok (.bool true) w := fun _ => rfl
  go_enter Tryd.func39, Tryd.ntmps39
  go_wp2_with fail
  go_ret
  exact ⟨_, rfl, Kd.R_nil _ _ _ _ _, Below.refl _ _⟩
 | some ad =>
  clear hr
  have he : ∀ w : World, (binOp .eql 22 (.slice (some ad) l.length c) (.slice none 0 0)).run Tryd.prog w = .ok (.bool false) w := fun _ => rfl
  obtain ⟨w1, hw1⟩ : ∃ w1, w1 = w.alloc (.cells #[] 3) := ⟨_, rfl⟩
  have hb1 : Below w.heap.size w w1 := by rw [hw1]; exact (Below.refl _ w).alloc (Nat.le_refl _) _
  have hg1 : w1.heap[w.heap.size]? = some (.cells #[] 3 (0, 0)) := by rw [hw1]; exact World.alloc_heap_new w _
  have hR1 : Kd.R (Kd.int .i64) 3 w1 w.heap.size (fun _ => True) (.slice (some ⟨w.heap.size, 0, none⟩) 0 0) [] :=
   Kd.R_of_own (enc := Value.int .i64) (h1 := fun _ => rfl) (xs := ([] : List Int)) ⟨rfl, .inr ⟨w.heap.size, 0, #[], rfl, Nat.le_refl _, hg1, Nat.le_refl _, by unfold maxLen; omega, rfl, rfl⟩⟩ (fun _ _ => trivial)
  have hC1 := Kd.C_below HR.out hb1
  have HR1 := Aside0.mk hR1
  have HC1 := Aside0.mk hC1
  have HB1 := Aside0.mk hb1
  have hs1 : w.heap.size ≤ w1.heap.size := hb1.size
  clear hR1 hC1 hb1 hg1
  go_enter Tryd.func39, Tryd.ntmps39
  go_wp2_with (first
   | ((with_reducible refine gate_builtin (b := .append) (xs := #[.tmp 5, .tmp 6]) rfl ?_); at_builtin; refine Aside0.out ?_))
  rw [← hw1]
  refine Aside0.mk ?_
  refine Kd.R_append_row (Value.int .i64) 0 (w0 := w) w.heap.size rfl (.tmp 5) (.tmp 6) 22 3 (.int .i64 0) 8 rfl Tryd.underlying22 infoI rfl (by decide) (.slice (some ⟨w.heap.size, 0, none⟩) 0 0) [] l (some ad) l.length c (fun _ => True) rfl rfl (fun _ _ => trivial) HR1.out HC1.out HB1.out hs1 (by rw [List.length_nil]; omega) ?_
  intro v1 w9 hR hB9 hg hat'
  rw [List.nil_append] at hR
  have HRR := Aside0.mk hR
  have HB := Aside0.mk hB9
  clear hR hB9 hg hat'
  go_wp2_with fail
  go_ret
  exact ⟨_, rfl, HRR.out, HB.out⟩
theorem Terms_calls (A : Option Addr) (c : Nat) (l : List Int) (w : World) (hr : Kd.C (Kd.int .i64) w A l.length l) (hc : l.length ≤ c) (hz : l.length < 17592186044415) :
 Calls Tryd.prog 21 #[.slice A l.length c] w fun e w' => ∃ B cap b, e = .returned (.func (.func 40) #[] #[.pointer (some ⟨b, 0, none⟩)]) ∧ w'.heap[b]? = some (.cells #[.slice B l.length cap] 22 (0, 0)) ∧ Kd.C (Kd.int .i64) w' B l.length l ∧ (w.heap.size ≤ b ∧ b < w'.heap.size) ∧ (∀ ad, B = some ad → w.heap.size ≤ ad.block ∧ ad.block < w'.heap.size) ∧ Below w.heap.size w w' := by
 have KC : Aside0 (Calls Tryd.prog 39 #[.slice A l.length c] w fun e w' => ∃ B cap, e = .returned (.slice B l.length cap) ∧ Aside0 (Kd.C (Kd.int .i64) w' B l.length l ∧ (∀ ad, B = some ad → w.heap.size ≤ ad.block ∧ ad.block < w'.heap.size) ∧ Below w.heap.size w w')) := ⟨(clone_calls A c l w hr hc hz).mono fun e w' ⟨v, he, hR, hb⟩ => by
  obtain ⟨B, cap, ev⟩ := Kd.R_slice hR
  subst ev
  refine ⟨B, cap, he, ⟨(Kd.R_reads' hR).2.2, fun ad e => ?_, hb⟩⟩
  subst e
  have ho := Kd.own_of_R (enc := Value.int .i64) (h1 := fun _ => rfl) hR
  exact ⟨own_base ho _ rfl, own_lt ho _ rfl⟩⟩
 clear hr hc hz
 go_enter Tryd.func21, Tryd.ntmps21
 go_wp2_with (first
  | (go_at_call 39; (with_reducible refine KC.out.mono ?_); rintro e w1 ⟨B, cap, rfl, t1⟩))
 go_ret
 obtain ⟨hC, hB, hb⟩ := t1.out
 have hb2 : Below w1.heap.size w1 (w1.alloc (.cells #[.slice B l.length cap] 22)) := (Below.refl _ w1).alloc (Nat.le_refl _) _
 refine ⟨B, cap, w1.heap.size, rfl, World.alloc_heap_new w1 _, Kd.C_below hC hb2, ⟨hb.size, by simp⟩, fun ad e => ⟨(hB ad e).1, by have := (hB ad e).2; simp; omega⟩, hb.trans (hb2.mono hb.size)⟩

def tmTo (l : List Int) (k : Nat) : List Nat := (List.range k).filter fun i => decide (0 ≤ l.getD i 0)
theorem tmTo_succ (l : List Int) (k : Nat) : tmTo l (k + 1) = tmTo l k ++ if 0 ≤ l.getD k 0 then [k] else [] := by
 unfold tmTo
 rw [List.range_succ, List.filter_append]
 congr 1
 by_cases h : 0 ≤ l.getD k 0
 · rw [if_pos h, List.filter_cons, if_pos (decide_eq_true h)]; rfl
 · rw [if_neg h, List.filter_cons, if_neg (by simpa using h)]; rfl
theorem tmTo_prefix (l : List Int) {k n : Nat} (h : k ≤ n) : tmTo l k <+: tmTo l n := by
 unfold tmTo
 obtain ⟨d, rfl⟩ : ∃ d, n = k + d := ⟨n - k, by omega⟩
 rw [List.range_add, List.filter_append]
 exact List.prefix_append _ _
theorem tmTo_len (l : List Int) (k : Nat) : (tmTo l k).length ≤ k := by
 have := List.length_filter_le (fun i => decide (0 ≤ l.getD i 0)) (List.range k)
 rw [List.length_range] at this
 exact this
def KS (ks : List Nat) (W W' : World) : Prop := ∀ k ∈ ks, W'.heap[k]? = W.heap[k]?
theorem KS.refl (ks : List Nat) (W : World) : KS ks W W := fun _ _ => rfl
theorem KS.trans {ks : List Nat} {A B C : World} (h : KS ks A B) (h' : KS ks B C) : KS ks A C := fun k hk => (h' k hk).trans (h k hk)
theorem KS.put {ks : List Nat} {w : World} (h0 : ∀ k ∈ ks, k < w.heap.size) (W : World) (l : Nat) (o o' : Obj) (hl : w.heap.size ≤ l) (ho : W.heap[l]? = some o) (h1 : o.isCells = false) (h2 : o.isWalk = false) : KS ks W (W.putObj l o') :=
 fun k hk => World.putObj_heap_other (by have := h0 k hk; omega)
theorem C_block {W W' : World} {A : Option Addr} {l : List Int} (h : Kd.C (Kd.int .i64) W A l.length l) (hm : ∀ ad, A = some ad → W'.heap[ad.block]? = W.heap[ad.block]?) : Kd.C (Kd.int .i64) W' A l.length l := by
 refine ⟨h.1, h.2.1, fun hp => ?_⟩
 obtain ⟨ad, e, hc⟩ := h.2.2 hp
 refine ⟨ad, e, fun j p hj => ?_⟩
 obtain ⟨c, h1, h2, h3⟩ := hc j p hj
 refine ⟨c, h1, h2, fun i u hu => ?_⟩
 rw [← h3 i u hu]
 exact World.cell?_of_block (by rw [add_block]; exact hm ad e)
set_option maxRecDepth 100000 in
set_option maxHeartbeats 2000000 in
theorem terms1_in (F : Fence) (n : Nat) (hF : F.fn 40) (hro : F.round = none) (hn : 1 ≤ n) (y b : Nat) (B : Option Addr) (cap : Nat) (l : List Int) (hm : l.length ≤ 9223372036854775807) (w0 : World) (ks : List Nat) (hks : ∀ ad, B = some ad → ad.block ∈ ks) (hl : Kd.C (Kd.int .i64) w0 B l.length l) (J Jx : List Nat → World → Prop)
 (hY : ∀ pre x W, J pre W → pre.length < l.length + 1 → YieldAt F (n - 1) Tryd.prog y #[.int .i64 (x : Nat), .int .i64 (l.getD x 0)] W fun e W' =>
  (e = .returned (.bool true) ∧ J (pre ++ [x]) W' ∧ KS ks W W') ∨ (e = .returned (.bool false) ∧ Jx (pre ++ [x]) W'))
 (W : World) (h0W : KS ks w0 W) (hbB : W.heap[b]? = some (.cells #[.slice B l.length cap] 22 (0, 0))) (h0 : J [] W) :
 CallsIn F n Tryd.prog 40 #[.func (.yield y) #[] #[], .pointer (some ⟨b, 0, none⟩)] W fun e W' => (∃ v, e = .returned v) ∧
  ((∃ ys, ys = tmTo l l.length ∧ J ys W') ∨ (∃ pre, (pre <+: tmTo l l.length ∧ pre ≠ []) ∧ Jx pre W')) := by
 refine callsIn_of_wp Tryd.func40 rfl hF ?_ hro
 simp only [Tryd.ntmps40, List.size_toArray, List.length_cons, List.length_nil, Nat.reduceAdd, Nat.reduceSub, Array.replicate_succ, Array.replicate_zero, List.push_toArray, List.append_toArray, List.nil_append, List.cons_append]
 have hcB : W.cell? ⟨b, 0, none⟩ = some (.slice B l.length cap) := by rw [Lib.cell_of_heap hbB]; rfl
 gi_wp2
 gi_loopw [7] (fun i wr => ∃ j : Nat, j ≤ l.length ∧ i = .int .i64 (j : Int) ∧ J (tmTo l j) wr ∧ KS ks W wr) (fun i _ => l.length - (intOf i).toNat)
 case atStart => exact ⟨0, Nat.zero_le _, rfl, h0, KS.refl _ _⟩
 case round =>
  obtain ⟨j, hj, rfl, hJs, hnx⟩ := hrel
  by_cases hlt : j < l.length
  · have hlw := C_block hl (fun ad e => (hnx ad.block (hks ad e)).trans (h0W ad.block (hks ad e)))
    obtain ⟨ad, rfl, hx⟩ := Kd.at_int hlw (j : Int) (by omega) (by omega)
    rw [Int.toNat_natCast, show rd l (j : Int) = l.getD j 0 from rfl] at hx
    have hsu := tmTo_succ l j
    have hlen : (tmTo l j).length < l.length + 1 := by have := tmTo_len l j; omega
    by_cases hu : 0 ≤ l.getD j 0
    · obtain ⟨fn, tmps, assign, body, hy0, hR⟩ := hY _ j wr hJs hlen
      rw [if_pos hu] at hsu
      generalize l.getD j 0 = u at hx hu hy0
      have hy : (Instr.yield y #[Value.int .i64 (j : Int), Value.int .i64 u]).run Tryd.prog wr = .ok (.round y fn tmps assign body) wr := hy0
      clear hy0
      have hu' : u ≥ 0 := hu
      gi_wp2
      refine hR.mono ?_
      rintro e W3 (⟨rfl, hJ3, hk3⟩ | ⟨rfl, hJx3⟩)
      · rw [← hsu] at hJ3
        gi_wp2
        go_roundw
        case rel => exact ⟨j + 1, by omega, by go_num, hJ3, hnx.trans hk3⟩
        case measure => simp [intOf]; omega
      · rw [← hsu] at hJx3
        gi_wp2
        refine bodyPost_ret (results_none rfl _ _ _) rfl ?_
        exact ⟨⟨_, rfl⟩, .inr ⟨_, ⟨tmTo_prefix l hlt, by rw [hsu]; simp⟩, hJx3⟩⟩
    · rw [if_neg hu, List.append_nil] at hsu
      generalize l.getD j 0 = u at hx hu
      gi_wp2
      refine ⟨fun _ h => (by cases h), ?_⟩
      gi_wp2
      go_roundw
      case rel => exact ⟨j + 1, by omega, by go_num, by rw [hsu]; exact hJs, hnx⟩
      case measure => simp [intOf]; omega
  · have hjl : j = l.length := by omega
    rw [hjl] at hJs
    gi_wp2
    go_end0
    exact ⟨⟨_, rfl⟩, .inl ⟨_, rfl, hJs⟩⟩
theorem terms_stops (F : Fence) (n : Nat) (hF : F.fn 40) (hro : F.round = none) (hn : 1 ≤ n) (b : Nat) (B : Option Addr) (cap : Nat) (l : List Int) (hm : l.length ≤ 9223372036854775807) (w : World) (ks : List Nat) (hkb : b ∈ ks) (hks : ∀ ad, B = some ad → ad.block ∈ ks) (hl : Kd.C (Kd.int .i64) w B l.length l) (hbl : b < w.heap.size) (hBl : ∀ k ∈ ks, k < w.heap.size)
 (hbB : w.heap[b]? = some (.cells #[.slice B l.length cap] 22 (0, 0))) :
 SeqStopsK F n Tryd.prog 40 #[.pointer (some ⟨b, 0, none⟩)] (fun x : Nat => #[Value.int .i64 (x : Int), Value.int .i64 (l.getD x 0)]) (KS ks) (fun ys => ys = tmTo l l.length) (fun pre => pre <+: tmTo l l.length ∧ pre ≠ []) (l.length + 1) w := fun y J Jx W hW _ _ hY h0 =>
 terms1_in F n hF hro hn y b B cap l hm w ks hks hl J Jx hY W (fun k hk => hW.block k (hBl k hk)) ((hW.block _ hbl).trans hbB) h0
end Go.Proofs.YtaeaookonhaliaaDoor.R6
/- The marks that ranges over functions leave, where they stand in a plain loop. -/
namespace Go.Proofs.YtaeaookonhaliaaDoor.R6
open Go Go.RowKit
def marks (Ds : List Nat) : List Deferred := Ds.map fun D => { target := .collected D, args := #[] }
theorem leaves_marks {F : Fence} {n : Nat} {P : Program} {fn : Func} {tmps : Array Value} {R : Ending → World → Prop} (base : Nat) : ∀ (Ds : List Nat) (w : World), Ds.Nodup → (∀ D ∈ Ds, base ≤ D ∧ w.heap[D]? = some (.deferred (some []))) →
 (∀ w', Below base w w' → (∀ k, k ∉ Ds → w'.heap[k]? = w.heap[k]?) → LeavesIn F n P fn tmps R [] .returning w') → LeavesInM F n P fn tmps R (marks Ds) .returning w
 | [], w, _, _, h => h w (Below.refl _ _) (fun _ _ => rfl)
 | D :: Ds, w, hn, hD, h => by
  have hd := hD D List.mem_cons_self
  have hn' := List.nodup_cons.1 hn
  refine ⟨by simp, .inl ⟨D, w.putObj D (.deferred none), rfl, run_takeDeferred hd.2, ?_⟩⟩
  have hb0 : Below base w (w.putObj D (.deferred none)) := ⟨rfl, rfl, rfl, by simp, fun k hk2 => World.putObj_heap_other (by have := hd.1; omega)⟩
  refine leaves_marks base Ds _ hn'.2 (fun D' h' => ?_) (fun w' hb hk => ?_)
  · have := hD D' (List.mem_cons_of_mem _ h')
    have hne : D' ≠ D := fun e => hn'.1 (by rw [← e]; exact h')
    exact ⟨this.1, (World.putObj_heap_other hne).trans this.2⟩
  · refine h w' (hb0.trans hb) fun k hk3 => ?_
    rw [List.mem_cons, not_or] at hk3
    exact (hk k hk3.2).trans (World.putObj_heap_other hk3.1)
end Go.Proofs.YtaeaookonhaliaaDoor.R6
/- opform.Check: walked. -/
namespace Go.Proofs.YtaeaookonhaliaaDoor.R6
open Go.RowKit Go.Shelf YtaeaookonhaliaaDoorW.PrintWords YtaeaookonhaliaaDoorW.PrintLast YtaeaookonhaliaaDoorW.PrintMore
open B H F
attribute [local go_sem] Oper.semAt_some

def badR (R : List S55) : Option Nat := R.findIdx? fun x => !(fsL x.f1).isEmpty
def opP (l0 l1 : List ByteArray) (a2 : Int) (R : List S55) : Int × Int :=
 if (chk (namesOK l0) (namesOK l1) l0.length l1.length a2 R).1 = 0 then match badR R with | some i => (4, (i : Int)) | none => (0, -1)
 else chk (namesOK l0) (namesOK l1) l0.length l1.length a2 R
theorem sent_op {ad : Int → Addr} {w : World} (h : SentsK ad w) : w.cell? ⟨0, 0, none⟩ = some (.iface 114 (.pointer (some (ad 4)))) := by
 obtain ⟨⟨h1, h2, h3, h4, h5, h6, h7, h8, h9, h10, h11, h12, h13, h14, h15⟩, _, _⟩ := h
 exact h4
theorem frozen0 {W : World} {b : Nat} {cs : Array Value} {t : TypeId} (h : W.heap[b]? = some (.cells cs t (0, 0))) : W.frozen? ⟨b, 0, none⟩ = false := by simp [World.frozen?, h]
structure OC (w : World) (cs : Array Value) (v : Value) (W : World) : Prop where
 low : Below w.heap.size w W
 gb : W.heap[w.heap.size]? = some (.cells cs 29 (0, 0))
 eb : W.heap[w.heap.size + 1]? = some (.cells #[v] 32 (0, 0))
section
variable {w W W' : World} {cs : Array Value} {v : Value}
theorem OC.start (w : World) (cs : Array Value) (v : Value) : OC w cs v ((w.alloc (.cells cs 29)).alloc (.cells #[v] 32)) := by
 have h1 : (w.alloc (.cells cs 29)).heap[w.heap.size]? = some (.cells cs 29 (0, 0)) := World.alloc_heap_new w _
 have h2 := World.alloc_heap_new (w.alloc (.cells cs 29)) (.cells #[v] 32)
 rw [World.size_alloc] at h2
 exact ⟨((Below.refl _ w).alloc (Nat.le_refl _) _).alloc (by simp) _, (Below.heap_alloc _ _ _ (by simp)).trans h1, h2⟩
theorem OC.sz (h : OC w cs v W) : w.heap.size + 2 ≤ W.heap.size := by
 have h2 := h.eb
 rcases Nat.lt_or_ge (w.heap.size + 1) W.heap.size with h1 | h1
 · exact h1
 · rw [Array.getElem?_eq_none h1] at h2; cases h2
theorem OC.base (h : OC w cs v W) (base : Nat) (hb : Below base W W') (h0 : w.heap.size + 2 ≤ base) : OC w cs v W' := ⟨h.low.trans (hb.mono (by omega)), (hb.block _ (by omega)).trans h.gb, (hb.block _ (by omega)).trans h.eb⟩
theorem OC.more (h : OC w cs v W) (hb : Below W.heap.size W W') : OC w cs v W' := h.base W.heap.size hb h.sz
theorem OC.cells {v0 v1 v2 v3 : Value} (h : OC w #[v0, v1, v2, v3] v W) : W.cell? ⟨w.heap.size, 0, none⟩ = some v0 ∧ W.cell? ⟨w.heap.size, 1, none⟩ = some v1 ∧ W.cell? ⟨w.heap.size, 2, none⟩ = some v2 ∧ W.cell? ⟨w.heap.size, 3, none⟩ = some v3 ∧ W.cell? ⟨w.heap.size + 1, 0, none⟩ = some v ∧ W.frozen? ⟨w.heap.size + 1, 0, none⟩ = false :=
 ⟨by rw [Lib.cell_of_heap h.gb]; rfl, by rw [Lib.cell_of_heap h.gb]; rfl, by rw [Lib.cell_of_heap h.gb]; rfl, by rw [Lib.cell_of_heap h.gb]; rfl, by rw [Lib.cell_of_heap h.eb]; rfl, frozen0 h.eb⟩
end
theorem errW_put {ad : Int → Addr} {W : World} {E : Value} {p : Int × Int} {b : Nat} (h : ErrW ad W E p) (hb : ∃ v, W.heap[b]? = some (.cells #[v] 32 (0, 0))) (u : Value) : ErrW ad (W.setCell ⟨b, 0, none⟩ u) E p := by
 rcases h with h | h | ⟨h1, h2, h3, c, h4, h5⟩
 · exact .inl h
 · exact .inr (.inl h)
 · refine .inr (.inr ⟨h1, h2, h3, c, h4, blk_far h5 (fun e => ?_) u⟩)
   obtain ⟨v, hv⟩ := hb
   have e2 : c = b := e
   rw [e2, hv] at h5
   cases h5
theorem badR_some {R : List S55} {k : Nat} (hk : k < R.length) (h1 : ∀ x ∈ R.take k, fsL x.f1 = []) (h2 : fsL R[k].f1 ≠ []) : badR R = some k := by
 unfold badR
 rw [List.findIdx?_eq_some_iff_getElem]
 refine ⟨hk, by simpa using h2, fun j hj => ?_⟩
 have := h1 R[j] (List.mem_take_iff_getElem.2 ⟨j, by omega, rfl⟩)
 simp [this]
theorem badR_none {R : List S55} (h1 : ∀ x ∈ R, fsL x.f1 = []) : badR R = none := by
 unfold badR
 rw [List.findIdx?_eq_none_iff]
 intro x hx
 simp [h1 x hx]
structure CI (w : World) (cs : Array Value) (v : Value) (ib k : Nat) (Ds : List Nat) (B : Nat) (W : World) : Prop where
 oc : OC w cs v W
 ibx : W.heap[ib]? = some (.cells #[.int .i64 (k : Int)] 3 (0, 0))
 ds : ∀ D ∈ Ds, w.heap.size + 2 ≤ D ∧ D < B ∧ W.heap[D]? = some (.deferred (some []))
section
variable {w W W' : World} {cs : Array Value} {v : Value} {ib k B : Nat} {Ds : List Nat}
theorem grown_cells {row : Option Nat} (hg : W.grownBy W' row) (hr : ∀ r, row = some r → B ≤ r ∧ ∃ o : Obj, W.heap[r]? = some o ∧ o.isCells = false) {b : Nat} {cells : Array Value} {t : TypeId} {fr : Nat × Nat} (h : W.heap[b]? = some (.cells cells t fr)) : W'.heap[b]? = some (.cells cells t fr) :=
 (hg.block b (Array.getElem?_eq_some_iff.1 h).1 (fun e => by
  obtain ⟨_, o, ho, hc⟩ := hr b e.symm
  rw [h] at ho
  cases ho
  cases hc)).trans h
theorem CI.grown {row : Option Nat} (h : CI w cs v ib k Ds B W) (hB : w.heap.size ≤ B) (hg : W.grownBy W' row) (hr : ∀ r, row = some r → B ≤ r ∧ ∃ o : Obj, W.heap[r]? = some o ∧ o.isCells = false) : CI w cs v ib k Ds B W' := by
 refine ⟨⟨h.oc.low.grown hg h.oc.low.size (fun r e => Nat.le_trans hB (hr r e).1), grown_cells hg hr h.oc.gb, grown_cells hg hr h.oc.eb⟩, grown_cells hg hr h.ibx, fun D hD => ?_⟩
 obtain ⟨d1, d2, d3⟩ := h.ds D hD
 exact ⟨d1, d2, (hg.block D (Array.getElem?_eq_some_iff.1 d3).1 (fun e => by have := (hr D e.symm).1; omega)).trans d3⟩
theorem CI.alloc (h : CI w cs v ib k Ds B W) (o : Obj) : CI w cs v ib k Ds B (W.alloc o) :=
 ⟨h.oc.more ((Below.refl _ W).alloc (Nat.le_refl _) o), (Below.heap_alloc W o _ (Array.getElem?_eq_some_iff.1 h.ibx).1).trans h.ibx, fun D hD => ⟨(h.ds D hD).1, (h.ds D hD).2.1, (Below.heap_alloc W o _ (Array.getElem?_eq_some_iff.1 (h.ds D hD).2.2).1).trans (h.ds D hD).2.2⟩⟩
theorem OC.put (h : OC w cs v W) (u : Value) : OC w cs u (W.setCell ⟨w.heap.size + 1, 0, none⟩ u) := ⟨h.low.setCell (p := ⟨w.heap.size + 1, 0, none⟩) (by simp) u, blk_far h.gb (by simp) u, by simpa using blk_set h.eb 0 u⟩
theorem CI.put (h : CI w cs v ib k Ds B W) (hib : ib ≠ w.heap.size + 1) (u : Value) : CI w cs u ib k Ds B (W.setCell ⟨w.heap.size + 1, 0, none⟩ u) := by
 have hne : ∀ D ∈ Ds, D ≠ w.heap.size + 1 := fun D hD => by have := (h.ds D hD).1; omega
 exact ⟨⟨h.oc.low.setCell (p := ⟨w.heap.size + 1, 0, none⟩) (by simp) u, blk_far h.oc.gb (by simp) u, by simpa using blk_set h.oc.eb 0 u⟩, blk_far h.ibx hib u, fun D hD => ⟨(h.ds D hD).1, (h.ds D hD).2.1, (KeepsOthers.setCell W _ u).same D _ (h.ds D hD).2.2 rfl⟩⟩
end
set_option maxRecDepth 100000 in
set_option maxHeartbeats 4000000 in
theorem Check_1 (ad : Int → Addr) (A0 : Option Addr) (c0 : Nat) (l0 : List ByteArray) (A1 : Option Addr) (c1 : Nat) (l1 : List ByteArray) (a2 : Int) (A3 : Option Addr) (c3 : Nat) (R : List S55) (w : World) (hs : SentsK ad w) (hr0 : Kd.C Kd.string w A0 l0.length l0) (hc0 : l0.length ≤ c0) (hr1 : Kd.C Kd.string w A1 l1.length l1) (hc1 : l1.length ≤ c1) (hr3 : Kd.C k55 w A3 R.length R) (hc3 : R.length ≤ c3) (hp : (chk (namesOK l0) (namesOK l1) l0.length l1.length a2 R).1 = 0) :
 Calls Tryd.prog 12 #[.agg #[.slice A0 l0.length c0, .slice A1 l1.length c1, .int .i64 a2, .slice A3 R.length c3]] w fun e w' => ∃ E, e = .returned E ∧ ErrW ad w' E (match badR R with | some i => (4, (i : Int)) | none => (0, -1)) ∧ Below w.heap.size w w' := by
 obtain ⟨q1, q2, q3, q4, q5, q6, q7⟩ := chk_ok hp
 obtain ⟨cs, hcs⟩ : ∃ cs : Array Value, cs = #[.slice A0 l0.length c0, .slice A1 l1.length c1, .int .i64 a2, .slice A3 R.length c3] := ⟨_, rfl⟩
 have st : OC w cs .nilIface ((w.alloc (.cells #[.slice A0 l0.length c0, .slice A1 l1.length c1, .int .i64 a2, .slice A3 R.length c3] 29)).alloc (.cells #[.nilIface] 32)) := by subst hcs; exact OC.start w _ _
 have CE : Aside0 (∀ v W, OC w cs v W → W.cell? ⟨w.heap.size, 0, none⟩ = some (.slice A0 l0.length c0) ∧ W.cell? ⟨w.heap.size, 1, none⟩ = some (.slice A1 l1.length c1) ∧ W.cell? ⟨w.heap.size, 2, none⟩ = some (.int .i64 a2) ∧ W.cell? ⟨w.heap.size, 3, none⟩ = some (.slice A3 R.length c3) ∧ W.cell? ⟨w.heap.size + 1, 0, none⟩ = some v ∧ W.frozen? ⟨w.heap.size + 1, 0, none⟩ = false) := ⟨by
  intro v W hW; subst hcs; exact hW.cells⟩
 have KC : Aside0 (∀ W, OC w cs .nilIface W → Calls Tryd.prog 26 #[.agg #[.slice A0 l0.length c0, .slice A1 l1.length c1, .int .i64 a2, .slice A3 R.length c3]] W fun e w' => e = .returned .nilIface ∧ Aside0 (OC w cs .nilIface w')) := ⟨fun W hW =>
  (Check_any ad A0 c0 l0 A1 c1 l1 a2 A3 c3 R W (hs.below hW.low) (Kd.C_below hr0 hW.low) hc0 (Kd.C_below hr1 hW.low) hc1 (Kd.C_below hr3 hW.low) hc3).mono fun e w' ⟨⟨v, he, hv⟩, hb⟩ => by
   obtain rfl := (ErrW.of hv).nil hp
   exact ⟨he, ⟨hW.more hb⟩⟩⟩
 have KG : Aside0 (∀ W, Below w.heap.size w W → W.cell? ⟨0, 0, none⟩ = some (.iface 114 (.pointer (some (ad 4))))) := ⟨fun W hW => sent_op (hs.below hW)⟩
 have ST := Aside0.mk st
 have HR3 := Aside0.mk hr3
 have HCS := Lib.hid hcs
 have hok : ∀ x ∈ R, x.f1.length ≤ 32 := fun x hx => (okR_sides (q7 x hx)).1
 clear st hcs hs hr0 hr1 hr3 hp q3 q4 q5 q6 q7
 obtain ⟨br, hbr⟩ : ∃ br : Int × Int, br = (match badR R with | some i => (4, (i : Int)) | none => (0, -1)) := ⟨_, rfl⟩
 rw [← hbr]
 have HBR := Lib.hid hbr
 clear hbr
 refine (callsIn_wide (n := 7)).1 ?_
 refine callsIn_of_wp_marks Tryd.func12 rfl trivial ?_ rfl
 simp only [Tryd.ntmps12, List.size_toArray, List.length_cons, List.length_nil, Nat.reduceAdd, Nat.reduceSub, Array.replicate_succ, Array.replicate_zero, List.push_toArray, List.append_toArray, List.nil_append, List.cons_append]
 gi_wp2_with (first
  | (refine ⟨trivial, ?_⟩; gi_at_call 26; refine (callsIn_wide.2 (KC.out _ ST.out)).mono ?_; rintro e w2 ⟨rfl, t2⟩; obtain ⟨f0, f1, f2, f3, f4, f5⟩ := CE.out _ _ t2.out))
 refine wpIn_loop (fun a' W => ∃ (k : Nat) (u4 u5 u15 u16 u17 u18 u19 u20 u21 u22 u23 u24 u25 u26 u27 u28 : Value) (Ds : List Nat), a' = { tmps := #[.agg #[.slice A0 l0.length c0, .slice A1 l1.length c1, .int .i64 a2, .slice A3 R.length c3], .pointer (some ⟨w.heap.size, 0, none⟩), .pointer (some ⟨w.heap.size + 1, 0, none⟩), .nilIface, u4, u5, .agg #[.slice A0 l0.length c0, .slice A1 l1.length c1, .int .i64 a2, .slice A3 R.length c3], .nilIface, .nilIface, .bool false, undef, .pointer (some ⟨w.heap.size, 3, none⟩), .slice A3 R.length c3, .int .i64 R.length, .int .i64 k, u15, u16, u17, u18, u19, u20, u21, u22, u23, u24, u25, u26, u27, u28], defers := marks Ds } ∧ k ≤ R.length ∧ Aside0 (OC w cs .nilIface W) ∧ Aside0 (∀ x ∈ R.take k, fsL x.f1 = []) ∧ Aside0 (Ds.Nodup ∧ ∀ D ∈ Ds, w.heap.size + 2 ≤ D ∧ W.heap[D]? = some (.deferred (some []))))
  (fun a' _ => R.length - (intOf (a'.tmps.getD 14 undef)).toNat) ⟨0, _, _, _, _, _, _, _, _, _, _, _, _, _, _, _, _, [], rfl, Nat.zero_le _, t2, ⟨fun x hx => absurd hx (by simp)⟩, ⟨List.nodup_nil, fun D hD => absurd hD List.not_mem_nil⟩⟩ ?_
 clear t2 f0 f1 f2 f3 f4 f5
 rintro a' W ⟨k, u4, u5, u15, u16, u17, u18, u19, u20, u21, u22, u23, u24, u25, u26, u27, u28, Ds, rfl, hk, tr, hno, hds⟩
 by_cases hlt : k < R.length
 · have hmem := List.getElem_mem hlt
   obtain ⟨ad3, A', c', e1, y0, y1, e4, e5⟩ := at_T55 HR3.out (k : Int) (by omega) (by omega)
   have hrd : rd_T55 R (k : Int) = R[k] := by rw [rdR_D, getD_lt R k _ hlt]
   rw [Int.toNat_natCast, hrd] at y0 y1
   rw [hrd] at e4 e5
   have htk := List.take_succ_eq_append_getElem hlt
   have hx32 := hok _ hmem
   have HXK : Aside0 (∀ h : k < R.length, ∀ y, y = R[k] → R[k] = y) := ⟨fun _ _ e => e.symm⟩
   obtain ⟨x, hxk⟩ : ∃ x, x = R[k] := ⟨_, rfl⟩
   rw [← hxk] at y0 y1 e4 e5 hx32
   have HX := Lib.hid hxk
   clear hxk HXK
   subst e1
   have c0' := (tr.out.low.cell (World.block_lt_of_cell? w _ y0)).trans y0
   have c1' := (tr.out.low.cell (World.block_lt_of_cell? w _ y1)).trans y1
   obtain ⟨f0, f1, f2, f3, f4, f5⟩ := CE.out _ _ tr.out
   clear hmem htk hrd
   have hok2 := Aside0.mk hok
   have hx2 := Aside0.mk e5
   clear hok e5
   gi_wp2_with (first
    | (refine ⟨trivial, ?_⟩; gi_at_call 32; refine (callsIn_wide.2 (faults_calls _ _ _ _)).mono ?_; rintro e w3 ⟨rfl, rfl⟩))
   obtain ⟨Wf, hWf⟩ : ∃ Wf, Wf = ((W.alloc (.cells #[.int .i64 k] 3)).alloc (.cells #[.int .i64 x.f0, .slice A' x.f1.length c'] 55)).alloc (.cells #[.slice A' x.f1.length c'] 22) := ⟨_, rfl⟩
   have szf : Wf.heap.size = W.heap.size + 3 := by rw [hWf]; simp
   have bwf : Below W.heap.size W Wf := by rw [hWf]; exact (((Below.refl _ W).alloc (Nat.le_refl _) _).alloc (by simp) _).alloc (by simp; omega) _
   have ocf := tr.out.more bwf
   have ibf : Wf.heap[W.heap.size]? = some (.cells #[.int .i64 (k : Int)] 3 (0, 0)) := by
    rw [hWf]
    exact ((Below.heap_alloc _ _ _ (by simp; omega)).trans (Below.heap_alloc _ _ _ (by simp))).trans (World.alloc_heap_new W _)
   have bsf : Wf.heap[W.heap.size + 1 + 1]? = some (.cells #[.slice A' x.f1.length c'] 22 (0, 0)) := by
    rw [hWf]
    have := World.alloc_heap_new ((W.alloc (.cells #[.int .i64 k] 3)).alloc (.cells #[.int .i64 x.f0, .slice A' x.f1.length c'] 55)) (.cells #[.slice A' x.f1.length c'] 22)
    rwa [World.size_alloc, World.size_alloc] at this
   have cif : CI w cs .nilIface W.heap.size k Ds Wf.heap.size Wf := ⟨ocf, ibf, fun D hD => by
    have h1 := (hds.out.2 D hD).2
    have h2 := (Array.getElem?_eq_some_iff.1 h1).1
    exact ⟨(hds.out.2 D hD).1, by omega, (bwf.block D h2).trans h1⟩⟩
   have hwsz := tr.out.sz
   rw [← hWf]
   refine wpIn_rangeFunc_ownG (F := Fence.wide) rfl (by omega) (gf := 43) (lb := #[.pointer (some ⟨W.heap.size + 1 + 1, 0, none⟩)]) rfl trivial (enters_of Tryd.func43 (by kernel_rfl) rfl)
    (faults_stops Fence.wide 6 trivial rfl (by omega) (W.heap.size + 1 + 1) w.heap.size A' c' x.f1 (by omega) w Wf (Nat.le_refl _) hx2.out ocf.low (by omega) bsf) KB.trans (KB.put (by omega) (by omega)) (Below.refl _ _) (fun _ => rfl)
    (fun pre W' => pre = [] ∧ CI w cs .nilIface W.heap.size k Ds Wf.heap.size W')
    (fun c _ W' => c = .ret ∧ ∃ eb, CI w cs (.iface 66 (.pointer (some ⟨eb, 0, none⟩))) W.heap.size k Ds Wf.heap.size W' ∧ W'.heap[eb]? = some (.cells #[.int .i64 (k : Int), .iface 114 (.pointer (some (ad 4)))] 68 (0, 0)))
    (fun s X Y row hs hg hr => ⟨hs.1, hs.2.grown (by omega) hg hr⟩)
    (fun c s X Y row hs hg hr => ⟨hs.1, hs.2.imp fun eb h => ⟨h.1.grown (by omega) hg hr, grown_cells hg hr h.2⟩⟩)
    ⟨rfl, cif⟩
    (fun y : Nat => { tmps := #[.agg #[.slice A0 l0.length c0, .slice A1 l1.length c1, .int .i64 a2, .slice (some ad3) R.length c3], .pointer (some ⟨w.heap.size, 0, none⟩), .pointer (some ⟨w.heap.size + 1, 0, none⟩), .nilIface, .pointer (some ⟨W.heap.size, 0, none⟩), .pointer (some ⟨W.heap.size + 1, 0, none⟩), .agg #[.slice A0 l0.length c0, .slice A1 l1.length c1, .int .i64 a2, .slice (some ad3) R.length c3], .nilIface, .nilIface, .bool false, undef, .pointer (some ⟨w.heap.size, 3, none⟩), .slice (some ad3) R.length c3, .int .i64 R.length, .int .i64 k, .bool true, .int .i64 k, .pointer (some (ad3.add (k * 2))), .agg #[.int .i64 x.f0, .slice A' x.f1.length c'], .pointer (some ⟨W.heap.size + 1, 1, none⟩), .slice A' x.f1.length c', .func (.func 43) #[] #[.pointer (some ⟨W.heap.size + 1 + 1, 0, none⟩)], .int .i64 (y : Int), u23, u24, u25, u26, u27, u28], defers := [] }) ?assign ?body ?done ?stop
   case assign =>
    intro l y W' K hK
    gi_wp2
    simpa using hK
   case body =>
    rintro l pre y W' ⟨rfl, ci⟩ _
    obtain ⟨f0, f1, f2, f3, f4, f5⟩ := CE.out _ _ ci.oc
    have fi : W'.cell? ⟨W.heap.size, 0, none⟩ = some (.int .i64 (k : Int)) := by rw [Lib.cell_of_heap ci.ibx]; rfl
    have he := KG.out _ ci.oc.low
    have ci2 := ci.alloc (.cells #[.int .i64 (k : Int), .iface 114 (.pointer (some (ad 4)))] 68)
    obtain ⟨_, _, _, _, f6, f7⟩ := CE.out _ _ ci2.oc
    have CIA := Aside0.mk ci
    clear ci ci2
    gi_wp2
    have h1 := CIA.out.oc.sz
    exact ⟨((KeepsOthers.alloc _ _).trans (KeepsOthers.setCell _ _ _)).from _, rfl, W'.heap.size, (CIA.out.alloc _).put (by omega) _, blk_far (World.alloc_heap_new W' _) (by simp; omega) _⟩
   case done =>
    rintro D ys W' hD hS ⟨hpre, ci⟩ hK
    subst hpre
    have CIA := Aside0.mk ci
    have HK := Aside0.mk hK
    clear ci hK
    gi_wp2
    refine ⟨⟨k + 1, _, _, _, _, _, _, _, _, _, _, _, _, _, _, _, _, D :: Ds, rfl, by omega, ⟨CIA.out.oc⟩, ⟨?_⟩, ⟨?_, ?_⟩⟩, by simp [intOf]; omega⟩
    · intro z hz
      rw [List.take_succ_eq_append_getElem hlt, List.mem_append, List.mem_singleton] at hz
      rcases hz with hz | hz
      · exact hno.out z hz
      · rw [hz, ← HX.out]; exact hS.symm
    · exact List.nodup_cons.2 ⟨fun h => by have := (CIA.out.ds D h).2.1; omega, hds.out.1⟩
    · intro D' hD'
      rcases List.mem_cons.1 hD' with rfl | hD'
      · exact ⟨by omega, HK.out⟩
      · exact ⟨(CIA.out.ds D' hD').1, (CIA.out.ds D' hD').2.2⟩
   case stop =>
    rintro D c pre W' hD ⟨hpre, hne⟩ ⟨rfl, eb, ci, hblk⟩ hK
    gi_wp2
    have hfs : fsL x.f1 ≠ [] := fun e => hne (List.prefix_nil.1 (e ▸ hpre))
    have hbr : br = (4, (k : Int)) := by rw [HBR.out, badR_some hlt hno.out (by rw [← HX.out]; exact hfs)]
    refine leaves_marks w.heap.size (D :: Ds) W' (List.nodup_cons.2 ⟨fun h => by have := (ci.ds D h).2.1; omega, hds.out.1⟩) ?_ ?_
    · intro D' hD'
      rcases List.mem_cons.1 hD' with rfl | hD'
      · exact ⟨by omega, hK⟩
      · exact ⟨by have := (ci.ds D' hD').1; omega, (ci.ds D' hD').2.2⟩
    · intro w' hb hk'
      have hnm : ∀ (b : Nat) (cells : Array Value) (t : TypeId), W'.heap[b]? = some (.cells cells t (0, 0)) → w'.heap[b]? = some (.cells cells t (0, 0)) := fun b cells t h => by
       refine (hk' b fun hm => ?_).trans h
       rcases List.mem_cons.1 hm with rfl | hm
       · rw [hK] at h; cases h
       · rw [(ci.ds b hm).2.2] at h; cases h
      have hc : w'.cell? ⟨w.heap.size + 1, 0, none⟩ = some (.iface 66 (.pointer (some ⟨eb, 0, none⟩))) := by rw [Lib.cell_of_heap (hnm _ _ _ ci.oc.eb)]; rfl
      refine ⟨.iface 66 (.pointer (some ⟨eb, 0, none⟩)), by simp [results, Tryd.f12, go_sem, hc], _, rfl, ?_, ci.oc.low.trans hb⟩
      rw [hbr]
      exact .inr (.inr ⟨⟨by show (1 : Int) ≤ 4; decide, by show (4 : Int) ≤ 15; decide⟩, by show (0 : Int) ≤ (k : Int); omega, by show (k : Int) < 1000; omega, eb, rfl, hnm _ _ _ hblk⟩)
 · obtain rfl : k = R.length := by omega
   obtain ⟨f0, f1, f2, f3, f4, f5⟩ := CE.out _ _ tr.out
   gi_wp2
   have o2 := tr.out.put .nilIface
   have hbr : br = (0, -1) := by
    have := hno.out
    rw [List.take_length] at this
    rw [HBR.out, badR_none this]
   refine leaves_marks w.heap.size Ds _ hds.out.1 (fun D' hD' => ⟨by have := (hds.out.2 D' hD').1; omega, (KeepsOthers.setCell W _ _).same D' _ (hds.out.2 D' hD').2 rfl⟩) ?_
   intro w' hb hk'
   have hc : w'.cell? ⟨w.heap.size + 1, 0, none⟩ = some .nilIface := by
    rw [Lib.cell_of_heap ((hk' _ fun hm => by have := (hds.out.2 _ hm).1; omega).trans o2.eb)]; rfl
   refine ⟨.nilIface, by simp [results, Tryd.f12, go_sem, hc], _, rfl, ?_, o2.low.trans hb⟩
   rw [hbr]
   exact .inl ⟨rfl, rfl, rfl⟩
set_option maxRecDepth 100000 in
set_option maxHeartbeats 2000000 in
theorem Check_0 (ad : Int → Addr) (A0 : Option Addr) (c0 : Nat) (l0 : List ByteArray) (A1 : Option Addr) (c1 : Nat) (l1 : List ByteArray) (a2 : Int) (A3 : Option Addr) (c3 : Nat) (R : List S55) (w : World) (hs : SentsK ad w) (hr0 : Kd.C Kd.string w A0 l0.length l0) (hc0 : l0.length ≤ c0) (hr1 : Kd.C Kd.string w A1 l1.length l1) (hc1 : l1.length ≤ c1) (hr3 : Kd.C k55 w A3 R.length R) (hc3 : R.length ≤ c3) (hp : (chk (namesOK l0) (namesOK l1) l0.length l1.length a2 R).1 ≠ 0) :
 Calls Tryd.prog 12 #[.agg #[.slice A0 l0.length c0, .slice A1 l1.length c1, .int .i64 a2, .slice A3 R.length c3]] w fun e w' => ∃ E, e = .returned E ∧ ErrW ad w' E (chk (namesOK l0) (namesOK l1) l0.length l1.length a2 R) ∧ Below w.heap.size w w' := by
 obtain ⟨cs, hcs⟩ : ∃ cs : Array Value, cs = #[.slice A0 l0.length c0, .slice A1 l1.length c1, .int .i64 a2, .slice A3 R.length c3] := ⟨_, rfl⟩
 have st : OC w cs .nilIface ((w.alloc (.cells #[.slice A0 l0.length c0, .slice A1 l1.length c1, .int .i64 a2, .slice A3 R.length c3] 29)).alloc (.cells #[.nilIface] 32)) := by subst hcs; exact OC.start w _ _
 have KC : Aside0 (∀ W, OC w cs .nilIface W → Calls Tryd.prog 26 #[.agg #[.slice A0 l0.length c0, .slice A1 l1.length c1, .int .i64 a2, .slice A3 R.length c3]] W fun e w' => ∃ t u, e = .returned (.iface t u) ∧ Aside0 (ErrW ad w' (.iface t u) (chk (namesOK l0) (namesOK l1) l0.length l1.length a2 R) ∧ OC w cs .nilIface w')) := ⟨fun W hW =>
  (Check_any ad A0 c0 l0 A1 c1 l1 a2 A3 c3 R W (hs.below hW.low) (Kd.C_below hr0 hW.low) hc0 (Kd.C_below hr1 hW.low) hc1 (Kd.C_below hr3 hW.low) hc3).mono fun e w' ⟨⟨v, he, hv⟩, hb⟩ => by
   have hw := ErrW.of hv
   obtain ⟨t, u, rfl⟩ := hw.any hp
   exact ⟨t, u, he, ⟨hw, hW.more hb⟩⟩⟩
 have ST := Aside0.mk st
 have HCS := Lib.hid hcs
 clear st hcs hs hr0 hr1 hr3 hp
 generalize chk (namesOK l0) (namesOK l1) l0.length l1.length a2 R = pr at KC ⊢
 refine (callsIn_wide (n := 7)).1 ?_
 refine callsIn_of_wp_marks Tryd.func12 rfl trivial ?_ rfl
 simp only [Tryd.ntmps12, List.size_toArray, List.length_cons, List.length_nil, Nat.reduceAdd, Nat.reduceSub, Array.replicate_succ, Array.replicate_zero, List.push_toArray, List.append_toArray, List.nil_append, List.cons_append]
 gi_wp2_with (first
  | (refine ⟨trivial, ?_⟩; gi_at_call 26; refine (callsIn_wide.2 (KC.out _ ST.out)).mono ?_; rintro e w2 ⟨t, u, rfl, t2⟩; have f4 : w2.cell? ⟨w.heap.size + 1, 0, none⟩ = some .nilIface := (by rw [Lib.cell_of_heap t2.out.2.eb]; rfl); have f5 := frozen0 t2.out.2.eb))
 have o2 := t2.out.2.put (.iface t u)
 have hc : (w2.setCell ⟨w.heap.size + 1, 0, none⟩ (.iface t u)).cell? ⟨w.heap.size + 1, 0, none⟩ = some (.iface t u) := by rw [Lib.cell_of_heap o2.eb]; rfl
 exact ⟨.iface t u, by simp [results, Tryd.f12, go_sem, hc], _, rfl, errW_put t2.out.1 ⟨_, t2.out.2.eb⟩ _, o2.low⟩
theorem opCheck_calls (ad : Int → Addr) (A0 : Option Addr) (c0 : Nat) (l0 : List ByteArray) (A1 : Option Addr) (c1 : Nat) (l1 : List ByteArray) (a2 : Int) (A3 : Option Addr) (c3 : Nat) (R : List S55) (w : World) (hs : SentsK ad w) (hr0 : Kd.C Kd.string w A0 l0.length l0) (hc0 : l0.length ≤ c0) (hr1 : Kd.C Kd.string w A1 l1.length l1) (hc1 : l1.length ≤ c1) (hr3 : Kd.C k55 w A3 R.length R) (hc3 : R.length ≤ c3) :
 Calls Tryd.prog 12 #[.agg #[.slice A0 l0.length c0, .slice A1 l1.length c1, .int .i64 a2, .slice A3 R.length c3]] w fun e w' => ∃ E, e = .returned E ∧ ErrW ad w' E (opP l0 l1 a2 R) ∧ Below w.heap.size w w' := by
 unfold opP
 by_cases hp : (chk (namesOK l0) (namesOK l1) l0.length l1.length a2 R).1 = 0
 · rw [if_pos hp]; exact Check_1 ad A0 c0 l0 A1 c1 l1 a2 A3 c3 R w hs hr0 hc0 hr1 hc1 hr3 hc3 hp
 · rw [if_neg hp]; exact Check_0 ad A0 c0 l0 A1 c1 l1 a2 A3 c3 R w hs hr0 hc0 hr1 hc1 hr3 hc3 hp
end Go.Proofs.YtaeaookonhaliaaDoor.R6
/- dovetaillaw06.wrong: walked. -/
namespace Go.Proofs.YtaeaookonhaliaaDoor.R6
open Go.RowKit YtaeaookonhaliaaDoorW.PrintWords YtaeaookonhaliaaDoorW.PrintLast YtaeaookonhaliaaDoorW.PrintMore
open B H F
structure WM (w : World) (cs : Array Value) (W : World) : Prop where
 low : Below w.heap.size w W
 gb : W.heap[w.heap.size]? = some (.cells cs 29 (0, 0))
 rb : W.heap[w.heap.size + 1]? = some (.cells #[.int .i64 0, .int .i64 0] 44 (0, 0))
section
variable {w W W' : World} {cs : Array Value}
theorem WM.start (w : World) (cs : Array Value) : WM w cs ((w.alloc (.cells cs 29)).alloc (.cells #[.int .i64 0, .int .i64 0] 44)) :=
 ⟨((Below.refl _ w).alloc (Nat.le_refl _) _).alloc (by simp) _, heap_alloc2_old w _ _, heap_alloc2_new w _ _⟩
theorem WM.sz (h : WM w cs W) : w.heap.size + 2 ≤ W.heap.size := by
 have h2 := (Array.getElem?_eq_some_iff.1 h.rb).1
 omega
theorem WM.more (h : WM w cs W) (hb : Below W.heap.size W W') : WM w cs W' := by
 have := h.sz
 exact ⟨h.low.trans (hb.mono (by omega)), (hb.block _ (by omega)).trans h.gb, (hb.block _ (by omega)).trans h.rb⟩
theorem WM.cells {v0 v1 v2 v3 : Value} (h : WM w #[v0, v1, v2, v3] W) : W.cell? ⟨w.heap.size, 0, none⟩ = some v0 ∧ W.cell? ⟨w.heap.size, 1, none⟩ = some v1 ∧ W.cell? ⟨w.heap.size, 2, none⟩ = some v2 ∧ W.cell? ⟨w.heap.size, 3, none⟩ = some v3 :=
 ⟨by rw [Lib.cell_of_heap h.gb]; rfl, by rw [Lib.cell_of_heap h.gb]; rfl, by rw [Lib.cell_of_heap h.gb]; rfl, by rw [Lib.cell_of_heap h.gb]; rfl⟩
end
set_option maxRecDepth 100000 in
set_option maxHeartbeats 4000000 in
theorem wrong_calls (ad : Int → Addr) (A0 : Option Addr) (c0 : Nat) (l0 : List ByteArray) (A1 : Option Addr) (c1 : Nat) (l1 : List ByteArray) (a2 : Int) (A3 : Option Addr) (c3 : Nat) (R : List S55) (w : World) (hs : SentsK ad w) (hg : HandleP w) (hr0 : Kd.C Kd.string w A0 l0.length l0) (hc0 : l0.length ≤ c0) (hr1 : Kd.C Kd.string w A1 l1.length l1) (hc1 : l1.length ≤ c1) (hr3 : Kd.C k55 w A3 R.length R) (hc3 : R.length ≤ c3) :
 Calls Tryd.prog 25 #[.agg #[.slice A0 l0.length c0, .slice A1 l1.length c1, .int .i64 a2, .slice A3 R.length c3]] w fun e w' => e = .returned (.agg #[.int .i64 (opP l0 l1 a2 R).1, .int .i64 (opP l0 l1 a2 R).2]) ∧ Below w.heap.size w w' := by
 obtain ⟨cs, hcs⟩ : ∃ cs : Array Value, cs = #[.slice A0 l0.length c0, .slice A1 l1.length c1, .int .i64 a2, .slice A3 R.length c3] := ⟨_, rfl⟩
 have st : WM w cs ((w.alloc (.cells #[.slice A0 l0.length c0, .slice A1 l1.length c1, .int .i64 a2, .slice A3 R.length c3] 29)).alloc (.cells #[.int .i64 0, .int .i64 0] 44)) := by subst hcs; exact WM.start w _
 have KC : Aside0 (∀ W, WM w cs W → Calls Tryd.prog 12 #[.agg #[.slice A0 l0.length c0, .slice A1 l1.length c1, .int .i64 a2, .slice A3 R.length c3]] W fun e w' => ∃ E, e = .returned E ∧ Aside0 (ErrW ad w' E (opP l0 l1 a2 R) ∧ WM w cs w')) := ⟨fun W hW =>
  (opCheck_calls ad A0 c0 l0 A1 c1 l1 a2 A3 c3 R W (hs.below hW.low) (Kd.C_below hr0 hW.low) hc0 (Kd.C_below hr1 hW.low) hc1 (Kd.C_below hr3 hW.low) hc3).mono fun e w' ⟨E, he, hE, hb⟩ => ⟨E, he, ⟨hE, hW.more hb⟩⟩⟩
 have ST := Aside0.mk st
 have HCS := Lib.hid hcs
 obtain ⟨pr, hpr⟩ : ∃ pr, pr = opP l0 l1 a2 R := ⟨_, rfl⟩
 rw [← hpr] at KC ⊢
 obtain ⟨k, r⟩ := pr
 have KD : Aside0 (∀ E W, ErrW ad W E (k, r) ∧ WM w cs W → Calls Tryd.prog 16 #[E] W fun e w' => e = .returned (.int .i64 k) ∧ Aside0 (ErrW ad w' E (k, r) ∧ WM w cs w')) := ⟨fun E W h => (Kind_w (hs.below h.2.low) h.1).mono fun e w' ⟨he, hb⟩ => ⟨he, ⟨h.1.below hb, h.2.more hb⟩⟩⟩
 have KR : Aside0 (∀ E W, ErrW ad W E (k, r) ∧ WM w cs W → Calls Tryd.prog 17 #[E] W fun e w' => e = .returned (.int .i64 r) ∧ Aside0 (WM w cs w')) := ⟨fun E W h => (Rule_w (hg.below h.2.low) h.1).mono fun e w' ⟨he, hb⟩ => ⟨he, ⟨h.2.more hb⟩⟩⟩
 clear st hcs hs hg hr0 hr1 hr3 hpr
 go_enter Tryd.func25, Tryd.ntmps25
 go_wp2_with (first
  | (go_at_call 12; (with_reducible refine (KC.out _ ST.out).mono ?_); rintro e w1 ⟨E, rfl, t1⟩)
  | (go_at_call 16; (with_reducible refine (KD.out _ _ t1.out).mono ?_); rintro e w2 ⟨rfl, t2⟩)
  | (go_at_call 17; (with_reducible refine (KR.out _ _ t2.out).mono ?_); rintro e w3 ⟨rfl, t3⟩; have f0 : w3.cell? ⟨w.heap.size + 1, 0, none⟩ = some (.int .i64 0) := (by rw [Lib.cell_of_heap t3.out.rb]; rfl); have f1 : w3.cell? ⟨w.heap.size + 1, 1, none⟩ = some (.int .i64 0) := (by rw [Lib.cell_of_heap t3.out.rb]; rfl); have g0 := frozen_of_row w3 _ 0 _ _ t3.out.rb; have g1 := frozen_of_row w3 _ 1 _ _ t3.out.rb))
 have hf : ((w3.setCell ⟨w.heap.size + 1, 0, none⟩ (.int .i64 k)).setCell ⟨w.heap.size + 1, 1, none⟩ (.int .i64 r)).heap[w.heap.size + 1]? = some (.cells #[.int .i64 k, .int .i64 r] 44 (0, 0)) := by
  have h1 := heap_setCell_same w3 (w.heap.size + 1) 0 _ _ (.int .i64 k) t3.out.rb
  have h2 := heap_setCell_same _ (w.heap.size + 1) 1 _ _ (.int .i64 r) h1
  simpa using h2
 have hl : Below w.heap.size w ((w3.setCell ⟨w.heap.size + 1, 0, none⟩ (.int .i64 k)).setCell ⟨w.heap.size + 1, 1, none⟩ (.int .i64 r)) := (t3.out.low.setCell (p := ⟨w.heap.size + 1, 0, none⟩) (by simp) _).setCell (p := ⟨w.heap.size + 1, 1, none⟩) (by simp) _
 refine bodyPost_ret (results_cell_row rfl _ _ (w.heap.size + 1) 44 #[.int .i64 k, .int .i64 r] (0, 0) _ rfl hf Tryd.underlying44 rfl (by kernel_rfl)) rfl ?_
 exact ⟨rfl, hl⟩
end Go.Proofs.YtaeaookonhaliaaDoor.R6
/- dovetaillaw06.awake: walked. -/
namespace Go.Proofs.YtaeaookonhaliaaDoor.R6
open Go.RowKit YtaeaookonhaliaaDoorW.PrintWords YtaeaookonhaliaaDoorW.PrintLast YtaeaookonhaliaaDoorW.PrintMore
open B H F

def oT : List ByteArray := [⟨#[97]⟩, ⟨#[98]⟩]
def oN : List ByteArray := [⟨#[83]⟩]
def oR (a b : List Int) : List S55 := [⟨0, a⟩, ⟨0, b⟩]
def WO (W : World) (a b : List Int) : World :=
 ((W.alloc (.cells (a.map (Value.int .i64)).toArray 3)).alloc (.cells (b.map (Value.int .i64)).toArray 3)).alloc (.cells #[.slice (some ⟨W.heap.size, 0, none⟩) a.length a.length, .slice (some ⟨W.heap.size + 1, 0, none⟩) b.length b.length] 22)
theorem WO_size (W : World) (a b : List Int) : (WO W a b).heap.size = W.heap.size + 3 := by simp [WO]
theorem WO_below (W : World) (a b : List Int) : Below W.heap.size W (WO W a b) := by
 unfold WO
 exact (((Below.refl _ W).alloc (Nat.le_refl _) _).alloc (by simp) _).alloc (by simp; omega) _
theorem WO_row (W : World) (a b : List Int) (ha : a.length ≤ 100) (hb : b.length ≤ 100) (W' : World) (h : ∀ k, k < (WO W a b).heap.size → W'.heap[k]? = (WO W a b).heap[k]?) : Kd.C (Kd.slice 3 (Kd.int .i64)) W' (some ⟨W.heap.size + 2, 0, none⟩) 2 [a, b] := by
 have h0 : (WO W a b).heap[W.heap.size]? = some (.cells (a.map (Value.int .i64)).toArray 3 (0, 0)) := by simp only [WO, halloc, Array.getElem?_push, Array.size_push] <;> (repeat (first | rw [if_pos trivial] | rw [if_pos (by omega)] | rw [if_neg (by omega)]))
 have h1 : (WO W a b).heap[W.heap.size + 1]? = some (.cells (b.map (Value.int .i64)).toArray 3 (0, 0)) := by simp only [WO, halloc, Array.getElem?_push, Array.size_push] <;> (repeat (first | rw [if_pos trivial] | rw [if_pos (by omega)] | rw [if_neg (by omega)]))
 have h2 : (WO W a b).heap[W.heap.size + 2]? = some (.cells #[.slice (some ⟨W.heap.size, 0, none⟩) a.length a.length, .slice (some ⟨W.heap.size + 1, 0, none⟩) b.length b.length] 22 (0, 0)) := by simp only [WO, halloc, Array.getElem?_push, Array.size_push] <;> (repeat (first | rw [if_pos trivial] | rw [if_pos (by omega)] | rw [if_neg (by omega)]))
 have hs := WO_size W a b
 have h0' := (h _ (by omega)).trans h0
 have h1' := (h _ (by omega)).trans h1
 have h2' := (h _ (by omega)).trans h2
 refine lit_L [(a, (some ⟨W.heap.size, 0, none⟩, a.length)), (b, (some ⟨W.heap.size + 1, 0, none⟩, b.length))] (by simp) h2' ?_
 intro x hx
 simp only [List.mem_cons, List.not_mem_nil, or_false] at hx
 rcases hx with rfl | rfl
 · exact ⟨Nat.le_refl _, lit_I a (by omega) h0'⟩
 · exact ⟨Nat.le_refl _, lit_I b (by omega) h1'⟩
theorem one_f (a b : List Int) : dovetaillaw06_one.f 10 [a, b] = some (oT, oN, 0, oR a b) := by kernel_rfl
theorem one_lit (a b : List Int) (ha : a.length ≤ 100) (hb : b.length ≤ 100) (W : World) : Calls Tryd.prog 24 #[.slice (some ⟨W.heap.size + 2, 0, none⟩) 2 2] (WO W a b) fun e w' => ∃ A0 c0 A1 c1 A3 c3, e = .returned (.agg #[.slice A0 2 c0, .slice A1 1 c1, .int .i64 0, .slice A3 2 c3]) ∧
 Aside0 (Kd.C Kd.string w' A0 2 oT ∧ 2 ≤ c0 ∧ Kd.C Kd.string w' A1 1 oN ∧ 1 ≤ c1 ∧ Kd.C k55 w' A3 2 (oR a b) ∧ 2 ≤ c3 ∧ Below W.heap.size W w') := by
 have hV : Kd.V (Kd.slice 3 (Kd.int .i64)) 22 (WO W a b) (WO W a b).heap.size (fun k => k < (WO W a b).heap.size) (.slice (some ⟨W.heap.size + 2, 0, none⟩) [a, b].length 2) [a, b] := Kd.V_mk (Nat.le_refl 2) (fun W' h' => WO_row W a b ha hb W' (fun k hk => h' k hk hk))
 refine (dovetaillaw06_one.calls 10 (fun k => k < (WO W a b).heap.size) _ 2 [a, b] oT oN 0 (oR a b) (WO W a b) hV (one_f a b)).mono ?_
 rintro e w' ⟨v0, v1, v3, rfl, r0, r1, r3, hbl⟩
 obtain ⟨A0, c0, rfl⟩ := Kd.R_slice r0
 obtain ⟨A1, c1, rfl⟩ := Kd.R_slice r1
 obtain ⟨A3, c3, rfl⟩ := Kd.N_slice r3
 exact ⟨A0, c0, A1, c1, A3, c3, rfl, ⟨(Kd.R_reads' r0).2.2, (Kd.R_reads' r0).2.1, (Kd.R_reads' r1).2.2, (Kd.R_reads' r1).2.1, (Kd.N_reads' r3).2.2, (Kd.N_reads' r3).2.1, (WO_below W a b).trans (hbl.mono (WO_below W a b).size)⟩⟩
theorem eq2 (W : World) (a b : Int) : (Op.equalIn 10000 44 (.agg #[.int .i64 a, .int .i64 b]) (.agg #[.int .i64 a, .int .i64 b])).run Tryd.prog W = .ok true W := by
 obtain ⟨i, hi⟩ : ∃ i, Tryd.prog.info? 3 = some i := by
  have : (Tryd.prog.info? 3).isSome = true := by kernel_rfl
  exact Option.isSome_iff_exists.1 this
 have hr := run_equalIn_array (P := Tryd.prog) (w := W) 9999 #[.int .i64 a, .int .i64 b] #[.int .i64 a, .int .i64 b] Tryd.underlying44 hi
 refine hr.trans ?_
 rw [cells_int]
 exact eqItems_same 9998 W [a, b] (List.range 2) (fun i hi => List.mem_range.1 hi)
def awk : Bool := decide (opP oT oN 0 (oR [0, -1, 1] [-1]) = (0, -1)) && decide (opP oT oN 0 (oR [0] [0, -1, -1]) = (4, 1)) && decide (dovetailkit_Ints.f 50 [-1, 0, -1, 1] [-1, 0, -1, 1] = some true)
theorem awk_true : awk = true := by kernel_rfl
set_option maxRecDepth 100000 in
set_option maxHeartbeats 4000000 in
theorem awake_calls (ad : Int → Addr) (w : World) (hs : SentsK ad w) (hg : HandleP w) : Calls Tryd.prog 10 #[] w fun e w' => e = .returned (.bool true) ∧ Below w.heap.size w w' := by
 obtain ⟨⟨h1, h2⟩, h3⟩ : (opP oT oN 0 (oR [0, -1, 1] [-1]) = (0, -1) ∧ opP oT oN 0 (oR [0] [0, -1, -1]) = (4, 1)) ∧ dovetailkit_Ints.f 50 [-1, 0, -1, 1] [-1, 0, -1, 1] = some true := by
  have h := awk_true
  unfold awk at h
  simpa only [Bool.and_eq_true, decide_eq_true_eq] using h
 have KO1 : Aside0 (∀ (W : World) (q : Nat), q = W.heap.size + 2 → Below w.heap.size w W → Calls Tryd.prog 24 #[.slice (some ⟨q, 0, none⟩) 2 2] (((W.alloc (.cells #[.int .i64 0, .int .i64 (-1), .int .i64 1] 3)).alloc (.cells #[.int .i64 (-1)] 3)).alloc (.cells #[.slice (some ⟨W.heap.size, 0, none⟩) 3 3, .slice (some ⟨W.heap.size + 1, 0, none⟩) 1 1] 22)) fun e w' => ∃ A0 c0 A1 c1 A3 c3, e = .returned (.agg #[.slice A0 2 c0, .slice A1 1 c1, .int .i64 0, .slice A3 2 c3]) ∧
  Aside0 (Kd.C Kd.string w' A0 2 oT ∧ 2 ≤ c0 ∧ Kd.C Kd.string w' A1 1 oN ∧ 1 ≤ c1 ∧ Kd.C k55 w' A3 2 (oR [0, -1, 1] [-1]) ∧ 2 ≤ c3 ∧ Below w.heap.size w w')) := ⟨fun W q hq hW => by
  subst hq
  refine (one_lit [0, -1, 1] [-1] (by simp) (by simp) W).mono ?_
  rintro e w' ⟨A0, c0, A1, c1, A3, c3, he, h⟩
  exact ⟨A0, c0, A1, c1, A3, c3, he, ⟨h.out.1, h.out.2.1, h.out.2.2.1, h.out.2.2.2.1, h.out.2.2.2.2.1, h.out.2.2.2.2.2.1, hW.trans (h.out.2.2.2.2.2.2.mono hW.size)⟩⟩⟩
 have KO2 : Aside0 (∀ (W : World) (q : Nat), q = W.heap.size + 2 → Below w.heap.size w W → Calls Tryd.prog 24 #[.slice (some ⟨q, 0, none⟩) 2 2] (((W.alloc (.cells #[.int .i64 0] 3)).alloc (.cells #[.int .i64 0, .int .i64 (-1), .int .i64 (-1)] 3)).alloc (.cells #[.slice (some ⟨W.heap.size, 0, none⟩) 1 1, .slice (some ⟨W.heap.size + 1, 0, none⟩) 3 3] 22)) fun e w' => ∃ A0 c0 A1 c1 A3 c3, e = .returned (.agg #[.slice A0 2 c0, .slice A1 1 c1, .int .i64 0, .slice A3 2 c3]) ∧
  Aside0 (Kd.C Kd.string w' A0 2 oT ∧ 2 ≤ c0 ∧ Kd.C Kd.string w' A1 1 oN ∧ 1 ≤ c1 ∧ Kd.C k55 w' A3 2 (oR [0] [0, -1, -1]) ∧ 2 ≤ c3 ∧ Below w.heap.size w w')) := ⟨fun W q hq hW => by
  subst hq
  refine (one_lit [0] [0, -1, -1] (by simp) (by simp) W).mono ?_
  rintro e w' ⟨A0, c0, A1, c1, A3, c3, he, h⟩
  exact ⟨A0, c0, A1, c1, A3, c3, he, ⟨h.out.1, h.out.2.1, h.out.2.2.1, h.out.2.2.2.1, h.out.2.2.2.2.1, h.out.2.2.2.2.2.1, hW.trans (h.out.2.2.2.2.2.2.mono hW.size)⟩⟩⟩
 have KW1 : Aside0 (∀ (W : World) A0 c0 A1 c1 A3 c3, (Kd.C Kd.string W A0 2 oT ∧ 2 ≤ c0 ∧ Kd.C Kd.string W A1 1 oN ∧ 1 ≤ c1 ∧ Kd.C k55 W A3 2 (oR [0, -1, 1] [-1]) ∧ 2 ≤ c3 ∧ Below w.heap.size w W) → Calls Tryd.prog 25 #[.agg #[.slice A0 2 c0, .slice A1 1 c1, .int .i64 0, .slice A3 2 c3]] W fun e w' => e = .returned (.agg #[.int .i64 0, .int .i64 (-1)]) ∧ Aside0 (Below w.heap.size w w')) := ⟨fun W A0 c0 A1 c1 A3 c3 h => by
  refine (wrong_calls ad A0 c0 oT A1 c1 oN 0 A3 c3 (oR [0, -1, 1] [-1]) W (hs.below h.2.2.2.2.2.2) (hg.below h.2.2.2.2.2.2) h.1 h.2.1 h.2.2.1 h.2.2.2.1 h.2.2.2.2.1 h.2.2.2.2.2.1).mono ?_
  rw [h1]
  exact fun e w' ⟨he, hb⟩ => ⟨he, ⟨h.2.2.2.2.2.2.trans (hb.mono h.2.2.2.2.2.2.size)⟩⟩⟩
 have KW2 : Aside0 (∀ (W : World) A0 c0 A1 c1 A3 c3, (Kd.C Kd.string W A0 2 oT ∧ 2 ≤ c0 ∧ Kd.C Kd.string W A1 1 oN ∧ 1 ≤ c1 ∧ Kd.C k55 W A3 2 (oR [0] [0, -1, -1]) ∧ 2 ≤ c3 ∧ Below w.heap.size w W) → Calls Tryd.prog 25 #[.agg #[.slice A0 2 c0, .slice A1 1 c1, .int .i64 0, .slice A3 2 c3]] W fun e w' => e = .returned (.agg #[.int .i64 4, .int .i64 1]) ∧ Aside0 (Below w.heap.size w w')) := ⟨fun W A0 c0 A1 c1 A3 c3 h => by
  refine (wrong_calls ad A0 c0 oT A1 c1 oN 0 A3 c3 (oR [0] [0, -1, -1]) W (hs.below h.2.2.2.2.2.2) (hg.below h.2.2.2.2.2.2) h.1 h.2.1 h.2.2.1 h.2.2.2.1 h.2.2.2.2.1 h.2.2.2.2.2.1).mono ?_
  rw [h2]
  exact fun e w' ⟨he, hb⟩ => ⟨he, ⟨h.2.2.2.2.2.2.trans (hb.mono h.2.2.2.2.2.2.size)⟩⟩⟩
 have KS : Aside0 (∀ (W : World) (q : Nat), q = W.heap.size → Below w.heap.size w W → Calls Tryd.prog 8 #[.slice (some ⟨q, 0, none⟩) 4 4] (W.alloc (.cells #[.int .i64 (-3), .int .i64 0, .int .i64 (-1), .int .i64 1] 3)) fun e w' => ∃ B, e = .returned (.slice B 4 4) ∧ Aside0 (Kd.C (Kd.int .i64) w' B 4 [-1, 0, -1, 1] ∧ Below w.heap.size w w')) := ⟨fun W q hq hW => by
  subst hq
  have hb' : Below W.heap.size W (W.alloc (.cells #[.int .i64 (-3), .int .i64 0, .int .i64 (-1), .int .i64 1] 3)) := (Below.refl _ W).alloc (Nat.le_refl _) _
  refine (Skeleton_calls (some ⟨W.heap.size, 0, none⟩) 4 [-3, 0, -1, 1] _ (lit_I [-3, 0, -1, 1] (by simp) (World.alloc_heap_new W _)) (Nat.le_refl 4) (by decide)).mono ?_
  rintro e w' ⟨B, cap, he, hR, hb⟩
  exact ⟨B, he, ⟨(Kd.R_reads' hR).2.2, hW.trans ((hb'.trans (hb.mono hb'.size)).mono hW.size)⟩⟩⟩
 have KI : Aside0 (∀ (W : World) (B : Option Addr) (q : Nat), q = W.heap.size → (Kd.C (Kd.int .i64) W B 4 [-1, 0, -1, 1] ∧ Below w.heap.size w W) → Calls Tryd.prog 9 #[.slice B 4 4, .slice (some ⟨q, 0, none⟩) 4 4] (W.alloc (.cells #[.int .i64 (-1), .int .i64 0, .int .i64 (-1), .int .i64 1] 3)) fun e w' => e = .returned (.bool true) ∧ Aside0 (Below w.heap.size w w')) := ⟨fun W B q hq h => by
  subst hq
  have hb' : Below W.heap.size W (W.alloc (.cells #[.int .i64 (-1), .int .i64 0, .int .i64 (-1), .int .i64 1] 3)) := (Below.refl _ W).alloc (Nat.le_refl _) _
  refine (dovetailkit_Ints.calls 50 B 4 [-1, 0, -1, 1] (some ⟨W.heap.size, 0, none⟩) 4 [-1, 0, -1, 1] true _ (Kd.C_below h.1 hb') (Nat.le_refl 4) (lit_I [-1, 0, -1, 1] (by simp) (World.alloc_heap_new W _)) (Nat.le_refl 4) h3).mono ?_
  exact fun e w' ⟨he, hd⟩ => ⟨he, ⟨h.2.trans ((hb'.trans (hd.below.mono hb'.size)).mono h.2.size)⟩⟩⟩
 have B0 : Aside0 (Below w.heap.size w w) := ⟨Below.refl _ _⟩
 clear h1 h2 h3 hs hg
 go_enter Tryd.func10, Tryd.ntmps10
 go_wp2_with (first
  | (go_at_call 24; (with_reducible refine (KO1.out _ _ ?hq B0.out).mono ?_); (case hq => simp); clear B0; rintro e w1 ⟨A0, c0, A1, c1, A3, c3, rfl, t1⟩)
  | (go_at_call 25; (with_reducible refine (KW1.out _ _ _ _ _ _ _ t1.out).mono ?_); clear t1; rintro e w2 ⟨rfl, t2⟩; have hq1 := eq2 w2 0 (-1))
  | (go_at_call 24; (with_reducible refine (KO2.out _ _ ?hq t2.out).mono ?_); (case hq => simp); clear t2; rintro e w3 ⟨A0, c0, A1, c1, A3, c3, rfl, t3⟩)
  | (go_at_call 25; (with_reducible refine (KW2.out _ _ _ _ _ _ _ t3.out).mono ?_); clear t3; rintro e w4 ⟨rfl, t4⟩; have hq2 := eq2 w4 4 1)
  | (go_at_call 8; (with_reducible refine (KS.out _ _ ?hq t4.out).mono ?_); (case hq => simp); clear t4; rintro e w5 ⟨B, rfl, t5⟩)
  | (go_at_call 9; (with_reducible refine (KI.out _ _ _ ?hq t5.out).mono ?_); (case hq => simp); clear t5; rintro e w6 ⟨rfl, t6⟩))
 go_ret
 exact ⟨rfl, t6.out⟩
end Go.Proofs.YtaeaookonhaliaaDoor.R6
/- Rows of cells that own their block, or were cut with their length for a capacity: read, written, gone on with. -/
namespace Go.Proofs.YtaeaookonhaliaaDoor.CO
open Go.RowKit YtaeaookonhaliaaDoorW.PrintWords YtaeaookonhaliaaDoorW.PrintLast YtaeaookonhaliaaDoorW.PrintMore
section
variable {E size base : Nat} {W W' : World} {v : Value} {n : Nat} {cs : List Value}
def CutO (E size base : Nat) (W : World) (v : Value) (n : Nat) (cs : List Value) : Prop :=
 W.ownsRow base E size v n cs ∨ (cs.length = n * size ∧ ∃ g cur, v = .slice (some ⟨g, 0, none⟩) n n ∧ base ≤ g ∧ W.heap[g]? = some (.cells cur E (0, 0)) ∧ n ≤ maxLen ∧ cur.toList.take (n * size) = cs)
theorem CutO.clip {A : Option Addr} {c : Nat} (h : W.ownsRow base E size (.slice A n c) n cs) : CutO E size base W (.slice A n n) n cs := by
 rcases h with ⟨hl, ⟨e, h0⟩ | ⟨g, cap, cur, e, hb, hg, hn, hc, hs, ht⟩⟩
 · injection e with e1 e2 e3
   subst e1 h0
   exact .inl ⟨hl, .inl ⟨rfl, rfl⟩⟩
 · injection e with e1 e2 e3
   subst e1
   exact .inr ⟨hl, g, cur, rfl, hb, hg, by omega, ht⟩
theorem CutO.form (h : CutO E size base W v n cs) : (v = .slice none 0 0 ∧ n = 0) ∨ ∃ g c cur, v = .slice (some ⟨g, 0, none⟩) n c ∧ n ≤ c ∧ base ≤ g ∧ W.heap[g]? = some (.cells cur E (0, 0)) ∧ cur.toList.take (n * size) = cs := by
 rcases h with ⟨hl, ⟨e, h0⟩ | ⟨g, cap, cur, e, hb, hg, hn, hc, hs, ht⟩⟩ | ⟨hl, g, cur, e, hb, hg, hn, ht⟩
 · exact .inl ⟨e, h0⟩
 · exact .inr ⟨g, cap, cur, e, hn, hb, hg, ht⟩
 · exact .inr ⟨g, n, cur, e, Nat.le_refl _, hb, hg, ht⟩
theorem CutO.sl (h : CutO E size base W v n cs) : ∃ A c, v = .slice A n c ∧ n ≤ c := by
 rcases h.form with ⟨e, h0⟩ | ⟨g, c, cur, e, hc, _⟩
 · subst h0; exact ⟨_, _, e, Nat.le_refl _⟩
 · exact ⟨_, _, e, hc⟩
theorem CutO.lo (h : CutO E size base W v n cs) (k : Nat) (hk : v.ownBlock = some k) : base ≤ k ∧ k < W.heap.size ∧ ∃ cur, W.heap[k]? = some (.cells cur E (0, 0)) := by
 rcases h.form with ⟨e, h0⟩ | ⟨g, c, cur, e, hc, hb, hg, _⟩
 · subst e; simp [Value.ownBlock] at hk
 · subst e
   obtain rfl : g = k := by simpa [Value.ownBlock] using hk
   exact ⟨hb, (Array.getElem?_eq_some_iff.1 hg).1, cur, hg⟩
theorem CutO.cell {g m c : Nat} (h : CutO E size base W (.slice (some ⟨g, 0, none⟩) m c) n cs) (j : Nat) (hj : j < n * size) : W.cell? ⟨g, j, none⟩ = cs[j]? ∧ W.frozen? ⟨g, j, none⟩ = false := by
 rcases h.form with ⟨e, h0⟩ | ⟨g', c', cur, e, hc, hb, hg, ht⟩
 · cases e
 · injection e with e1 e2 e3
   injection e1 with e1
   injection e1 with e1
   subst e1
   refine ⟨?_, by simp [World.frozen?, hg]⟩
   rw [cell_of_row W g j cur E (0, 0) hg, ← ht, List.getElem?_take, if_pos hj]
   simp
theorem CutO.set {g m c : Nat} (h : CutO E size base W (.slice (some ⟨g, 0, none⟩) m c) n cs) (j : Nat) (u : Value) : CutO E size base (W.setCell ⟨g, j, none⟩ u) (.slice (some ⟨g, 0, none⟩) m c) n (cs.set j u) := by
 rcases h with ⟨hl, ⟨e, h0⟩ | ⟨g', cap, cur, e, hb, hg, hn, hc, hs, ht⟩⟩ | ⟨hl, g', cur, e, hb, hg, hn, ht⟩
 · cases e
 · have hgg : g = g' := by injection e with e1 e2 e3; injection e1 with e1; injection e1
   subst hgg
   refine .inl ⟨by rw [List.length_set]; exact hl, .inr ⟨g, cap, cur.setIfInBounds j u, e, hb, blk_set hg j u, hn, hc, by rw [Array.size_setIfInBounds]; exact hs, ?_⟩⟩
   rw [Array.toList_setIfInBounds, List.take_set, ht]
 · have hgg : g = g' := by injection e with e1 e2 e3; injection e1 with e1; injection e1
   subst hgg
   refine .inr ⟨by rw [List.length_set]; exact hl, g, cur.setIfInBounds j u, e, hb, blk_set hg j u, hn, ?_⟩
   rw [Array.toList_setIfInBounds, List.take_set, ht]
theorem CutO.same (h : CutO E size base W v n cs) (hm : ∀ k, v.ownBlock = some k → W'.heap[k]? = W.heap[k]?) : CutO E size base W' v n cs := by
 rcases h with ⟨hl, ⟨e, h0⟩ | ⟨g', cap, cur, e, hb, hg, hn, hc, hs, ht⟩⟩ | ⟨hl, g', cur, e, hb, hg, hn, ht⟩
 · exact .inl ⟨hl, .inl ⟨e, h0⟩⟩
 · exact .inl ⟨hl, .inr ⟨g', cap, cur, e, hb, (hm g' (by rw [e]; rfl)).trans hg, hn, hc, hs, ht⟩⟩
 · exact .inr ⟨hl, g', cur, e, hb, (hm g' (by rw [e]; rfl)).trans hg, hn, ht⟩
theorem CutO.below (h : CutO E size base W v n cs) (hb : Below W.heap.size W W') : CutO E size base W' v n cs := h.same fun k hk => hb.block k (h.lo k hk).2.1
theorem CutO.lower {base' : Nat} (h : CutO E size base W v n cs) (hb : base' ≤ base) : CutO E size base' W v n cs := by
 rcases h with h | ⟨hl, g', cur, e, hg, h'⟩
 · exact .inl (h.mono hb)
 · exact .inr ⟨hl, g', cur, e, Nat.le_trans hb hg, h'⟩
end
end Go.Proofs.YtaeaookonhaliaaDoor.CO
/- opform.Faults: walked. -/
namespace Go.Proofs.YtaeaookonhaliaaDoor.R6
open Go.RowKit Go.Shelf YtaeaookonhaliaaDoorW.PrintWords YtaeaookonhaliaaDoorW.PrintLast YtaeaookonhaliaaDoorW.PrintMore
open B H F CO
attribute [local go_sem] Oper.semAt_some

def fltG : Nat → List S55 → List (Int × Int)
 | _, [] => []
 | i, x :: r => (fsL x.f1).map (fun a : Nat => ((i : Int), (a : Int))) ++ fltG (i + 1) r
def prC (L : List (Int × Int)) : List Value := L.flatMap fun p => [.int .i64 p.1, .int .i64 p.2]
theorem prC_snoc (L : List (Int × Int)) (p : Int × Int) : prC (L ++ [p]) = prC L ++ [.int .i64 p.1, .int .i64 p.2] := by simp [prC]
theorem fltG_take : ∀ (R : List S55) (i k : Nat) (h : k < R.length), fltG i (R.take (k + 1)) = fltG i (R.take k) ++ (fsL R[k].f1).map (fun a : Nat => (((i + k : Nat) : Int), (a : Int)))
 | [], i, k, h => by simp at h
 | x :: R, i, 0, h => by simp [fltG]
 | x :: R, i, k + 1, h => by
  have h' : k < R.length := by simpa using h
  have := fltG_take R (i + 1) k h'
  rw [List.take_succ_cons, List.take_succ_cons, fltG, fltG, this]
  have e : i + 1 + k = i + (k + 1) := by omega
  simp [e]
theorem fsL_len (l : List Int) : (fsL l).length ≤ l.length + 1 := by
 unfold fsL fsTo
 by_cases h : l = []
 · rw [if_pos h]; simp
 · rw [if_neg h]
   have := List.length_filter_le (fun i => decide (1 ≤ i) && badAt l i) (List.range l.length)
   rw [List.length_range] at this
   omega
theorem fltG_len : ∀ (R : List S55) (i m : Nat), (∀ x ∈ R, x.f1.length ≤ m) → (fltG i R).length ≤ R.length * (m + 1)
 | [], _, _, _ => by simp [fltG]
 | x :: R, i, m, h => by
  have h1 := fltG_len R (i + 1) m (fun y hy => h y (List.mem_cons_of_mem _ hy))
  have h2 := h x List.mem_cons_self
  have h3 := fsL_len x.f1
  rw [fltG, List.length_append, List.length_map, List.length_cons, Nat.succ_mul]
  omega
theorem infoFt : (Tryd.prog.info? 43).map (fun i => (i.zero, i.size, i.bytes)) = some (some (.agg #[.int .i64 0, .int .i64 0]), 2, 16) := by kernel_rfl

structure FM (w : World) (cs : Array Value) (L : List (Int × Int)) (v : Value) (W : World) : Prop where
 low : Below w.heap.size w W
 gb : W.heap[w.heap.size]? = some (.cells cs 29 (0, 0))
 lb : W.heap[w.heap.size + 1]? = some (.cells #[v] 36 (0, 0))
 row : W.ownsRow w.heap.size 43 2 v L.length (prC L)
section
variable {w W W' : World} {cs : Array Value} {L : List (Int × Int)} {v : Value}
theorem FM.start (w : World) (cs : Array Value) : FM w cs [] (.slice none 0 0) ((w.alloc (.cells cs 29)).alloc (.cells #[.slice none 0 0] 36)) :=
 ⟨((Below.refl _ w).alloc (Nat.le_refl _) _).alloc (by simp) _, heap_alloc2_old w _ _, heap_alloc2_new w _ _, own_nil _ _ _ _⟩
theorem FM.sz (h : FM w cs L v W) : w.heap.size + 2 ≤ W.heap.size := by
 have h2 := (Array.getElem?_eq_some_iff.1 h.lb).1
 omega
theorem FM.more (h : FM w cs L v W) (hb : Below W.heap.size W W') : FM w cs L v W' := by
 have := h.sz
 exact ⟨h.low.trans (hb.mono (by omega)), (hb.block _ (by omega)).trans h.gb, (hb.block _ (by omega)).trans h.lb, pw_own_below h.row hb⟩
theorem FM.cells {v0 v1 v2 v3 : Value} (h : FM w #[v0, v1, v2, v3] L v W) : W.cell? ⟨w.heap.size, 0, none⟩ = some v0 ∧ W.cell? ⟨w.heap.size, 1, none⟩ = some v1 ∧ W.cell? ⟨w.heap.size, 2, none⟩ = some v2 ∧ W.cell? ⟨w.heap.size, 3, none⟩ = some v3 ∧ W.cell? ⟨w.heap.size + 1, 0, none⟩ = some v ∧ W.frozen? ⟨w.heap.size + 1, 0, none⟩ = false :=
 ⟨by rw [Lib.cell_of_heap h.gb]; rfl, by rw [Lib.cell_of_heap h.gb]; rfl, by rw [Lib.cell_of_heap h.gb]; rfl, by rw [Lib.cell_of_heap h.gb]; rfl, by rw [Lib.cell_of_heap h.lb]; rfl, frozen0 h.lb⟩
end
structure FI (w : World) (cs : Array Value) (L : List (Int × Int)) (v : Value) (ib k bs : Nat) (vs : Value) (Ds : List Nat) (B : Nat) (W : World) : Prop where
 fm : FM w cs L v W
 ibx : W.heap[ib]? = some (.cells #[.int .i64 (k : Int)] 3 (0, 0))
 bsx : W.heap[bs]? = some (.cells #[vs] 22 (0, 0))
 ds : ∀ D ∈ Ds, w.heap.size + 2 ≤ D ∧ D < B ∧ W.heap[D]? = some (.deferred (some []))
section
variable {w W W' : World} {cs : Array Value} {L : List (Int × Int)} {v vs : Value} {ib k bs B : Nat} {Ds : List Nat}
theorem row_cells {base E size n : Nat} {cs : List Value} (h : W.ownsRow base E size v n cs) {j : Nat} {o : Obj} (ho : W.heap[j]? = some o) (hc : o.isCells = false) : v.ownBlock ≠ some j := by
 rcases h.2 with ⟨rfl, _⟩ | ⟨g, cap, cur, rfl, _, hg, _⟩
 · simp [Value.ownBlock]
 · intro e
   obtain rfl : g = j := by simpa [Value.ownBlock] using e
   rw [hg] at ho
   cases ho
   cases hc
theorem FI.grown {row : Option Nat} (h : FI w cs L v ib k bs vs Ds B W) (hB : w.heap.size ≤ B) (hg : W.grownBy W' row) (hr : ∀ r, row = some r → B ≤ r ∧ ∃ o : Obj, W.heap[r]? = some o ∧ o.isCells = false) : FI w cs L v ib k bs vs Ds B W' := by
 refine ⟨⟨h.fm.low.grown hg h.fm.low.size (fun r e => Nat.le_trans hB (hr r e).1), grown_cells hg hr h.fm.gb, grown_cells hg hr h.fm.lb, own_other h.fm.row hg ?_⟩, grown_cells hg hr h.ibx, grown_cells hg hr h.bsx, fun D hD => ?_⟩
 · cases row with
   | none =>
    cases hv : v.ownBlock with
    | none => exact .inl rfl
    | some k => exact .inr (by simp)
   | some r =>
    obtain ⟨_, o, ho, hc⟩ := hr r rfl
    exact .inr (row_cells h.fm.row ho hc)
 · obtain ⟨d1, d2, d3⟩ := h.ds D hD
   exact ⟨d1, d2, (hg.block D (Array.getElem?_eq_some_iff.1 d3).1 (fun e => by have := (hr D e.symm).1; omega)).trans d3⟩
theorem FI.app (h : FI w cs L v ib k bs vs Ds B W) (hib : ib ≠ w.heap.size + 1) (hbs : bs ≠ w.heap.size + 1) {p : Int × Int} {v' : Value} {tmp : Obj} {w1 : World} (ho : w1.ownsRow w.heap.size 43 2 v' (L.length + 1) (prC L ++ [.int .i64 p.1, .int .i64 p.2])) (hg : (W.alloc tmp).grownBy w1 v.ownBlock) :
 FI w cs (L ++ [p]) v' ib k bs vs Ds B (w1.setCell ⟨w.heap.size + 1, 0, none⟩ v') ∧ KB w.heap.size bs W (w1.setCell ⟨w.heap.size + 1, 0, none⟩ v') ∧ KeepsOthers W (w1.setCell ⟨w.heap.size + 1, 0, none⟩ v') ∧ w1.cell? ⟨w.heap.size + 1, 0, none⟩ = some v ∧ w1.frozen? ⟨w.heap.size + 1, 0, none⟩ = false := by
 have sz := h.fm.sz
 have hv : Boxed W (w.heap.size + 1) 36 v := h.fm.lb
 have hte : 36 ≠ 43 := by decide
 obtain ⟨q1, q2, q3, q4, q5⟩ := hv.appended hte h.fm.row (by omega) (by omega) ho hg
 have keep : ∀ (b : Nat) (o : Obj), W.heap[b]? = some o → b ≠ w.heap.size + 1 → some b ≠ v.ownBlock → (w1.setCell ⟨w.heap.size + 1, 0, none⟩ v').heap[b]? = some o := fun b o hb hne hnv => by
  have hlt := (Array.getElem?_eq_some_iff.1 hb).1
  rw [Below.heap_setCell _ _ _ _ hne, hg.block b (by simp; omega) hnv, Below.heap_alloc W tmp b hlt]
  exact hb
 have hbx := keep bs _ h.bsx hbs (own_ne h.fm.row h.bsx (by decide))
 refine ⟨⟨⟨h.fm.low.trans q5, keep _ _ h.fm.gb (by simp) (own_ne h.fm.row h.fm.gb (by decide)), q2, by rw [prC_snoc, List.length_append]; exact q3⟩, keep _ _ h.ibx hib (own_ne h.fm.row h.ibx (by decide)), hbx, fun D hD => ?_⟩, ⟨q5, hbx.trans h.bsx.symm⟩, q4, q1.cell, q1.frozen⟩
 obtain ⟨d1, d2, d3⟩ := h.ds D hD
 exact ⟨d1, d2, keep D _ d3 (by omega) (row_cells h.fm.row d3 rfl).symm⟩
end
set_option maxRecDepth 100000 in
theorem clipF_calls (A : Option Addr) (n c : Nat) (w : World) (hc : n ≤ c) (hm : n ≤ 9223372036854775807) :
 Calls Tryd.prog 34 #[.slice A n c] w fun e w' => e = .returned (.slice A n n) ∧ Below w.heap.size w w' := by
 go_enter Tryd.func34, Tryd.ntmps34
 go_wp2_with fail
 go_ret
 exact ⟨rfl, Below.refl _ w⟩
set_option maxRecDepth 100000 in
set_option maxHeartbeats 4000000 in
theorem Faults_calls (A0 : Option Addr) (n0 c0 : Nat) (A1 : Option Addr) (n1 c1 : Nat) (a2 : Int) (A3 : Option Addr) (c3 : Nat) (R : List S55) (w : World) (hr3 : Kd.C k55 w A3 R.length R) (hc3 : R.length ≤ c3) (hR : R.length ≤ 1048576) (hx : ∀ x ∈ R, x.f1.length ≤ 1048576) :
 Calls Tryd.prog 14 #[.agg #[.slice A0 n0 c0, .slice A1 n1 c1, .int .i64 a2, .slice A3 R.length c3]] w fun e w' => ∃ v, e = .returned v ∧ CutO 43 2 w.heap.size w' v (fltG 0 R).length (prC (fltG 0 R)) ∧ Below w.heap.size w w' := by
 obtain ⟨cs, hcs⟩ : ∃ cs : Array Value, cs = #[.slice A0 n0 c0, .slice A1 n1 c1, .int .i64 a2, .slice A3 R.length c3] := ⟨_, rfl⟩
 have st : FM w cs [] (.slice none 0 0) ((w.alloc (.cells #[.slice A0 n0 c0, .slice A1 n1 c1, .int .i64 a2, .slice A3 R.length c3] 29)).alloc (.cells #[.slice none 0 0] 36)) := by subst hcs; exact FM.start w _
 have CE : Aside0 (∀ L v W, FM w cs L v W → W.cell? ⟨w.heap.size, 0, none⟩ = some (.slice A0 n0 c0) ∧ W.cell? ⟨w.heap.size, 1, none⟩ = some (.slice A1 n1 c1) ∧ W.cell? ⟨w.heap.size, 2, none⟩ = some (.int .i64 a2) ∧ W.cell? ⟨w.heap.size, 3, none⟩ = some (.slice A3 R.length c3) ∧ W.cell? ⟨w.heap.size + 1, 0, none⟩ = some v ∧ W.frozen? ⟨w.heap.size + 1, 0, none⟩ = false) := ⟨by
  intro L v W hW; subst hcs; exact hW.cells⟩
 have hbnd : ∀ k, k ≤ R.length → (fltG 0 (R.take k)).length ≤ 1048576 * 1048577 := fun k hk => by
  have := fltG_len (R.take k) 0 1048576 (fun x h => hx x (List.mem_of_mem_take h))
  refine Nat.le_trans this (Nat.mul_le_mul_right _ ?_)
  rw [List.length_take]; omega
 have ST := Aside0.mk st
 have HR3 := Aside0.mk hr3
 have HCS := Lib.hid hcs
 have HBND := Aside0.mk hbnd
 clear st hcs hr3 hbnd
 obtain ⟨i0, hi, hz0, hz1, hz2⟩ := info_parts infoFt
 have HI := Aside0.mk hi
 have HZ0 := Aside0.mk hz0
 have HZ1 := Aside0.mk hz1
 have HZ2 := Aside0.mk hz2
 clear hi hz0 hz1 hz2
 refine (callsIn_wide (n := 7)).1 ?_
 refine callsIn_of_wp_marks Tryd.func14 rfl trivial ?_ rfl
 simp only [Tryd.ntmps14, List.size_toArray, List.length_cons, List.length_nil, Nat.reduceAdd, Nat.reduceSub, Array.replicate_succ, Array.replicate_zero, List.push_toArray, List.append_toArray, List.nil_append, List.cons_append]
 obtain ⟨f0, f1, f2, f3, f4, f5⟩ := CE.out _ _ _ ST.out
 gi_wp2
 refine wpIn_loop (fun a' W => ∃ (k : Nat) (u4 u5 u6 u11 u12 u13 u14 u15 u16 u17 u18 u19 u20 u21 u22 u23 u24 u25 u26 u27 : Value) (Ds : List Nat), a' = { tmps := #[.agg #[.slice A0 n0 c0, .slice A1 n1 c1, .int .i64 a2, .slice A3 R.length c3], .pointer (some ⟨w.heap.size, 0, none⟩), .slice none 0 0, .pointer (some ⟨w.heap.size + 1, 0, none⟩), u4, u5, u6, .pointer (some ⟨w.heap.size, 3, none⟩), .slice A3 R.length c3, .int .i64 R.length, .int .i64 k, u11, u12, u13, u14, u15, u16, u17, u18, u19, u20, u21, u22, u23, u24, u25, u26, u27], defers := marks Ds } ∧ k ≤ R.length ∧ Aside0 (∃ v, FM w cs (fltG 0 (R.take k)) v W) ∧ Aside0 (Ds.Nodup ∧ ∀ D ∈ Ds, w.heap.size + 2 ≤ D ∧ W.heap[D]? = some (.deferred (some []))))
  (fun a' _ => R.length - (intOf (a'.tmps.getD 10 undef)).toNat) ⟨0, _, _, _, _, _, _, _, _, _, _, _, _, _, _, _, _, _, _, _, _, [], rfl, Nat.zero_le _, ⟨_, ST.out⟩, ⟨List.nodup_nil, fun D hD => absurd hD List.not_mem_nil⟩⟩ ?_
 clear ST f0 f1 f2 f3 f4 f5
 rintro a' W ⟨k, u4, u5, u6, u11, u12, u13, u14, u15, u16, u17, u18, u19, u20, u21, u22, u23, u24, u25, u26, u27, Ds, rfl, hk, ⟨v0, tr⟩, hds⟩
 by_cases hlt : k < R.length
 · have hmem := List.getElem_mem hlt
   obtain ⟨ad3, A', c', e1, y0, y1, e4, e5⟩ := at_T55 HR3.out (k : Int) (by omega) (by omega)
   have hrd : rd_T55 R (k : Int) = R[k] := by rw [rdR_D, getD_lt R k _ hlt]
   rw [Int.toNat_natCast, hrd] at y0 y1
   rw [hrd] at e4 e5
   have hx20 := hx _ hmem
   have htk := fltG_take R 0 k hlt
   have hbk := HBND.out k (by omega)
   obtain ⟨x, hxk⟩ : ∃ x, x = R[k] := ⟨_, rfl⟩
   rw [← hxk] at y0 y1 e4 e5 hx20 htk
   rw [Nat.zero_add] at htk
   have HX := Lib.hid hxk
   have HTK := Lib.hid htk
   clear hxk htk
   obtain ⟨L, hL⟩ : ∃ L, L = fltG 0 (R.take k) := ⟨_, rfl⟩
   rw [← hL] at tr hbk HTK
   have HL := Lib.hid hL
   clear hL
   subst e1
   have c0' := (tr.low.cell (World.block_lt_of_cell? w _ y0)).trans y0
   have c1' := (tr.low.cell (World.block_lt_of_cell? w _ y1)).trans y1
   obtain ⟨f0, f1, f2, f3, f4, f5⟩ := CE.out _ _ _ tr
   clear hmem hrd
   have hx2 := Aside0.mk e5
   have TR := Aside0.mk tr
   clear e5 tr
   gi_wp2_with (first
    | (refine ⟨trivial, ?_⟩; gi_at_call 32; refine (callsIn_wide.2 (faults_calls _ _ _ _)).mono ?_; rintro e w3 ⟨rfl, rfl⟩))
   obtain ⟨Wf, hWf⟩ : ∃ Wf, Wf = ((W.alloc (.cells #[.int .i64 k] 3)).alloc (.cells #[.int .i64 x.f0, .slice A' x.f1.length c'] 55)).alloc (.cells #[.slice A' x.f1.length c'] 22) := ⟨_, rfl⟩
   have szf : Wf.heap.size = W.heap.size + 3 := by rw [hWf]; simp
   have bwf : Below W.heap.size W Wf := by rw [hWf]; exact (((Below.refl _ W).alloc (Nat.le_refl _) _).alloc (by simp) _).alloc (by simp; omega) _
   have ocf := TR.out.more bwf
   have ibf : Wf.heap[W.heap.size]? = some (.cells #[.int .i64 (k : Int)] 3 (0, 0)) := by
    rw [hWf]
    exact ((Below.heap_alloc _ _ _ (by simp; omega)).trans (Below.heap_alloc _ _ _ (by simp))).trans (World.alloc_heap_new W _)
   have bsf : Wf.heap[W.heap.size + 1 + 1]? = some (.cells #[.slice A' x.f1.length c'] 22 (0, 0)) := by
    rw [hWf]
    have := World.alloc_heap_new ((W.alloc (.cells #[.int .i64 k] 3)).alloc (.cells #[.int .i64 x.f0, .slice A' x.f1.length c'] 55)) (.cells #[.slice A' x.f1.length c'] 22)
    rwa [World.size_alloc, World.size_alloc] at this
   have cif : FI w cs L v0 W.heap.size k (W.heap.size + 1 + 1) (.slice A' x.f1.length c') Ds Wf.heap.size Wf := ⟨ocf, ibf, bsf, fun D hD => by
    have h1 := (hds.out.2 D hD).2
    have h2 := (Array.getElem?_eq_some_iff.1 h1).1
    exact ⟨(hds.out.2 D hD).1, by omega, (bwf.block D h2).trans h1⟩⟩
   have hwsz := TR.out.sz
   rw [← hWf]
   clear hWf f0 f1 f2 f3 f4 f5 c0' c1' y0 y1
   refine wpIn_rangeFunc_ownG (F := Fence.wide) rfl (by omega) (gf := 43) (lb := #[.pointer (some ⟨W.heap.size + 1 + 1, 0, none⟩)]) rfl trivial (enters_of Tryd.func43 (by kernel_rfl) rfl)
    (faults_stops Fence.wide 6 trivial rfl (by omega) (W.heap.size + 1 + 1) w.heap.size A' c' x.f1 (by omega) w Wf (Nat.le_refl _) hx2.out ocf.low (by omega) bsf) KB.trans (KB.put (by omega) (by omega)) (Below.refl _ _) (fun _ => rfl)
    (fun pre W' => Aside0 (∃ v, FI w cs (L ++ pre.map (fun a : Nat => ((k : Int), (a : Int)))) v W.heap.size k (W.heap.size + 1 + 1) (.slice A' x.f1.length c') Ds Wf.heap.size W'))
    (fun _ _ _ => False)
    (fun s X Y row hs hg hr => ⟨hs.out.imp fun v h => h.grown (by omega) hg hr⟩)
    (fun c s X Y row hs hg hr => hs)
    ⟨⟨v0, by simpa using cif⟩⟩
    (fun y : Nat => { tmps := #[.agg #[.slice A0 n0 c0, .slice A1 n1 c1, .int .i64 a2, .slice (some ad3) R.length c3], .pointer (some ⟨w.heap.size, 0, none⟩), .slice none 0 0, .pointer (some ⟨w.heap.size + 1, 0, none⟩), .pointer (some ⟨W.heap.size, 0, none⟩), .pointer (some ⟨W.heap.size + 1, 0, none⟩), .int .i64 (y : Int), .pointer (some ⟨w.heap.size, 3, none⟩), .slice (some ad3) R.length c3, .int .i64 R.length, .int .i64 k, .bool true, .int .i64 k, .pointer (some (ad3.add (k * 2))), .agg #[.int .i64 x.f0, .slice A' x.f1.length c'], .pointer (some ⟨W.heap.size + 1, 1, none⟩), .slice A' x.f1.length c', .func (.func 43) #[] #[.pointer (some ⟨W.heap.size + 1 + 1, 0, none⟩)], .int .i64 (y : Int), u19, u20, u21, u22, u23, u24, u25, u26, u27], defers := [] }) ?assign ?body ?done ?stop
   case assign =>
    intro l y W' K hK
    gi_wp2
    simpa using hK
   case body =>
    rintro l pre y W' ⟨v, ci⟩ hpl
    obtain ⟨f0, f1, f2, f3, f4, f5⟩ := CE.out _ _ _ ci.fm
    have fi : W'.cell? ⟨W.heap.size, 0, none⟩ = some (.int .i64 (k : Int)) := by rw [Lib.cell_of_heap ci.ibx]; rfl
    have hrow := ci.fm.row
    have hsz' := ci.fm.sz
    have CIA := Aside0.mk ci
    have hlen : (L ++ pre.map (fun a : Nat => ((k : Int), (a : Int)))).length = L.length + pre.length := by rw [List.length_append, List.length_map]
    obtain ⟨Lp, hLp⟩ : ∃ Lp, Lp = L ++ pre.map (fun a : Nat => ((k : Int), (a : Int))) := ⟨_, rfl⟩
    rw [← hLp] at hrow CIA hlen
    have HLP := Lib.hid hLp
    have hb1 : Lp.length + 1 ≤ 2000000000000 := by omega
    clear ci hLp hlen
    gi_wp2_with (gi_at_builtin; go_loud (refine wpListIn_append_own _ rfl _ _ 36 rfl w.heap.size 43 i0 (.agg #[.int .i64 0, .int .i64 0]) 2 16 Tryd.underlying36 HI.out HZ0.out HZ1.out HZ2.out rfl (by decide) v Lp.length _ rfl (hrow.alloc _) ⟨W'.heap.size, 0, none⟩ 1 1 [.int .i64 (k : Int), .int .i64 (y : Int)] rfl rfl ?hnews (by simp [Value.oneCell']) ?b1 ?b2 (by simp; omega) ?_); (case hnews => intro j u hj; rw [add_plain, cell_of_row _ _ _ _ _ _ (World.alloc_heap_new W' _)]; simpa using hj); (case b1 => unfold maxLen; omega); (case b2 => omega); intro v' w1 hown' hgrow _; obtain ⟨q1, q2, q3, hc1, hf1⟩ := CIA.out.app (by omega) (by omega) (p := ((k : Int), (y : Int))) hown' hgrow; obtain ⟨g', cap', rfl⟩ := ownsRow_succ hown')
    refine ⟨q3.from _, q2, ⟨⟨.slice (some ⟨g', 0, none⟩) (Lp.length + 1) cap', ?_⟩⟩⟩
    have e : L ++ (pre ++ [y]).map (fun a : Nat => ((k : Int), (a : Int))) = Lp ++ [((k : Int), (y : Int))] := by rw [HLP.out, List.map_append, List.append_assoc]; rfl
    rw [e]
    exact q1
   case done =>
    rintro D ys W' hD hS ⟨v, ci⟩ hK
    subst hS
    rw [← HTK.out] at ci
    have CIA := Aside0.mk ci
    have HK := Aside0.mk hK
    clear ci hK
    gi_wp2
    refine ⟨⟨k + 1, _, _, _, _, _, _, _, _, _, _, _, _, _, _, _, _, _, _, _, _, D :: Ds, rfl, by omega, ⟨v, CIA.out.fm⟩, ⟨?_, ?_⟩⟩, by simp [intOf]; omega⟩
    · exact List.nodup_cons.2 ⟨fun h => by have := (CIA.out.ds D h).2.1; omega, hds.out.1⟩
    · intro D' hD'
      rcases List.mem_cons.1 hD' with rfl | hD'
      · exact ⟨by omega, HK.out⟩
      · exact ⟨(CIA.out.ds D' hD').1, (CIA.out.ds D' hD').2.2⟩
   case stop =>
    rintro D c pre W' hD _ h hK
    exact h.elim
 · obtain rfl : k = R.length := by omega
   rw [List.take_length] at tr
   obtain ⟨f0, f1, f2, f3, f4, f5⟩ := CE.out _ _ _ tr
   have hbk := HBND.out R.length (Nat.le_refl _)
   rw [List.take_length] at hbk
   have hsl := (CutO.sl (.inl tr.row))
   obtain ⟨A', c', rfl, hc'⟩ := hsl
   have TR := Aside0.mk tr
   obtain ⟨nF, hnF⟩ : ∃ nF, nF = (fltG 0 R).length := ⟨_, rfl⟩
   rw [← hnF] at f4 hbk hc'
   have HNF := Lib.hid hnF
   clear tr hnF
   gi_wp2_with (first
    | (refine ⟨trivial, ?_⟩; gi_at_call 34; refine (callsIn_wide.2 (clipF_calls A' nF c' _ hc' (by omega))).mono ?_; rintro e w3 ⟨rfl, b3⟩))
   have hsz := TR.out.sz
   refine leaves_marks w.heap.size Ds _ hds.out.1 (fun D' hD' => ⟨by have := (hds.out.2 D' hD').1; omega, (b3.block D' (Array.getElem?_eq_some_iff.1 (hds.out.2 D' hD').2).1).trans (hds.out.2 D' hD').2⟩) ?_
   intro w' hb hk'
   have hrow := TR.out.row
   rw [HNF.out]
   refine ⟨_, results_tmp rfl _ _ _, _, rfl, (CutO.clip hrow).same fun k hk => ?_, TR.out.low.trans ((b3.mono (by omega)).trans hb)⟩
   have hk3 : (Value.slice A' (fltG 0 R).length c').ownBlock = some k := by cases A' <;> exact hk
   have hk2 := (CutO.lo (.inl hrow) k hk3).2.1
   refine (hk' k fun hm => ?_).trans (b3.block k hk2)
   exact row_cells hrow (hds.out.2 k hm).2 rfl hk3
end Go.Proofs.YtaeaookonhaliaaDoor.R6
/- dovetaillaw06.OpformForm: the plain law, what lies while it runs, and the ways without a loop. -/
namespace Go.Proofs.YtaeaookonhaliaaDoor.R6
open Go.RowKit Go.Shelf YtaeaookonhaliaaDoorW.PrintWords YtaeaookonhaliaaDoorW.PrintLast YtaeaookonhaliaaDoorW.PrintMore
open B H F CO
structure GB (w : World) (cs : Array Value) (W : World) : Prop where
 low : Below w.heap.size w W
 gb : Box w.heap.size cs 29 W
section
variable {w W W' : World} {cs : Array Value}
theorem GB.sz (h : GB w cs W) : w.heap.size + 1 ≤ W.heap.size := by
 have := (Array.getElem?_eq_some_iff.1 h.gb).1
 omega
theorem GB.cells {v0 v1 v2 v3 : Value} (h : GB w #[v0, v1, v2, v3] W) : W.cell? ⟨w.heap.size, 0, none⟩ = some v0 ∧ W.cell? ⟨w.heap.size, 1, none⟩ = some v1 ∧ W.cell? ⟨w.heap.size, 2, none⟩ = some v2 ∧ W.cell? ⟨w.heap.size, 3, none⟩ = some v3 :=
 ⟨h.gb.cell 0 _ rfl, h.gb.cell 1 _ rfl, h.gb.cell 2 _ rfl, h.gb.cell 3 _ rfl⟩
end
structure GM (w : World) (A0 : Option Addr) (c0 : Nat) (l0 : List ByteArray) (A1 : Option Addr) (c1 : Nat) (l1 : List ByteArray) (A3 : Option Addr) (c3 : Nat) (R : List S55) : Prop where
 r0 : Kd.C Kd.string w A0 l0.length l0
 h0 : l0.length ≤ c0
 r1 : Kd.C Kd.string w A1 l1.length l1
 h1 : l1.length ≤ c1
 r3 : Kd.C k55 w A3 R.length R
 h3 : R.length ≤ c3
section
variable {ad : Int → Addr} {A0 : Option Addr} {c0 : Nat} {l0 : List ByteArray} {A1 : Option Addr} {c1 : Nat} {l1 : List ByteArray} {a2 : Int} {A3 : Option Addr} {c3 : Nat} {R : List S55} {w : World} {cs : Array Value}
end
end Go.Proofs.YtaeaookonhaliaaDoor.R6
/- kit.Ints, kit.Strings: are two the same? (taken from GramSm and GramKi, for seats without rules' ties) -/
namespace Go.Proofs.YtaeaookonhaliaaDoor.B
open Go.RowKit YtaeaookonhaliaaDoorW.PrintWords YtaeaookonhaliaaDoorW.PrintLast YtaeaookonhaliaaDoorW.PrintMore

end Go.Proofs.YtaeaookonhaliaaDoor.B
/- dovetaillaw06.OpformKnown: the parts. -/
namespace Go.Proofs.YtaeaookonhaliaaDoor.R6
open Go.RowKit Go.Shelf YtaeaookonhaliaaDoorW.PrintWords YtaeaookonhaliaaDoorW.PrintLast YtaeaookonhaliaaDoorW.PrintMore
open B H F CO
theorem eqF (W : World) (a b c d : Int) : (Op.equalIn 10000 43 (.agg #[.int .i64 a, .int .i64 b]) (.agg #[.int .i64 c, .int .i64 d])).run Tryd.prog W = .ok ((a == c) && (b == d)) W :=
 eqA_of Tryd.underlying43 (by kernel_rfl) (eqf_cons rfl (run_part_plain W plain_int rfl) (run_part_plain W plain_int rfl) (run_equalIn_int W _ _ .i64 .i64 a c Tryd.underlying3) (eqf_last rfl (run_part_plain W plain_int rfl) (run_part_plain W plain_int rfl) (run_equalIn_int W _ _ .i64 .i64 b d Tryd.underlying3)))
theorem C_sub {W W' : World} {A : Option Addr} {l : List Int} (h : Kd.C (Kd.int .i64) W A l.length l) (hm : ∀ k, k < W.heap.size → W'.heap[k]? = W.heap[k]?) : Kd.C (Kd.int .i64) W' A l.length l := by
 by_cases hl : 0 < l.length
 · obtain ⟨ad, e, hc⟩ := h.2.2 hl
   refine C_block h fun ad' e' => hm _ ?_
   obtain rfl := Option.some.inj (e.symm.trans e')
   obtain ⟨c, c1, c2, c3⟩ := hc 0 l[0] (List.getElem?_eq_getElem hl)
   have c1' : c.length = 1 := c1
   obtain ⟨v, hv⟩ : ∃ v, c[0]? = some v := ⟨c[0], List.getElem?_eq_getElem (by omega)⟩
   have := World.block_lt_of_cell? W _ (c3 0 v hv)
   rwa [add_block] at this
 · have h0 : l = [] := List.eq_nil_of_length_eq_zero (by omega)
   subst h0
   exact ⟨h.1, h.2.1, fun hp => absurd hp (by simp)⟩
theorem C_nil (W : World) : Kd.C (Kd.int .i64) W none 0 [] := ⟨rfl, by simp, fun h => by cases h⟩
theorem one_gen (k : Nat) (L : List (List Int × (Option Addr × Nat))) (q n : Nat) (W : World) (l0 l1 : List ByteArray) (a2 : Int) (R : List S55) (hn : n = L.length) (hn2 : L.length ≤ 100) (hq : W.heap[q]? = some (.cells (L.map fun x => Value.slice x.2.1 x.1.length x.2.2).toArray 22 (0, 0)))
 (hR : ∀ x ∈ L, x.1.length ≤ x.2.2 ∧ Kd.C (Kd.int .i64) W x.2.1 x.1.length x.1) (hf : dovetaillaw06_one.f k (L.map Prod.fst) = some (l0, l1, a2, R)) :
 Calls Tryd.prog 24 #[.slice (some ⟨q, 0, none⟩) n n] W fun e w' => ∃ A0 c0 A1 c1 A3 c3, e = .returned (.agg #[.slice A0 l0.length c0, .slice A1 l1.length c1, .int .i64 a2, .slice A3 R.length c3]) ∧ Aside0 (GM w' A0 c0 l0 A1 c1 l1 A3 c3 R ∧ Below W.heap.size W w') := by
 subst hn
 have hqs := (Array.getElem?_eq_some_iff.1 hq).1
 have hV : Kd.V (Kd.slice 3 (Kd.int .i64)) 22 W W.heap.size (fun k => k < W.heap.size) (.slice (some ⟨q, 0, none⟩) (L.map Prod.fst).length L.length) (L.map Prod.fst) := Kd.V_mk (by rw [List.length_map]; exact Nat.le_refl _) (fun W' h' => by
  rw [List.length_map]
  exact lit_L L (by omega) ((h' q hqs hqs).trans hq) (fun x hx => ⟨(hR x hx).1, C_sub (hR x hx).2 (fun k hk => h' k hk hk)⟩))
 rw [List.length_map] at hV
 have hc := dovetaillaw06_one.calls k (fun k => k < W.heap.size) (some ⟨q, 0, none⟩) L.length (L.map Prod.fst) l0 l1 a2 R W (by rw [List.length_map]; exact hV) hf
 rw [List.length_map] at hc
 refine hc.mono ?_
 rintro e w' ⟨v0, v1, v3, rfl, r0, r1, r3, hbl⟩
 obtain ⟨A0, c0, rfl⟩ := Kd.R_slice r0
 obtain ⟨A1, c1, rfl⟩ := Kd.R_slice r1
 obtain ⟨A3, c3, rfl⟩ := Kd.N_slice r3
 exact ⟨A0, c0, A1, c1, A3, c3, rfl, ⟨(Kd.R_reads' r0).2.2, (Kd.R_reads' r0).2.1, (Kd.R_reads' r1).2.2, (Kd.R_reads' r1).2.1, (Kd.N_reads' r3).2.2, (Kd.N_reads' r3).2.1⟩, hbl⟩
def kR1 : List S55 := [⟨0, [-1, -1, -1]⟩, ⟨0, []⟩]
def kR2 : List S55 := [⟨0, [0, -1, 1]⟩, ⟨0, [-1]⟩, ⟨0, []⟩]
def kR3 : List S55 := [⟨0, [5]⟩, ⟨0, []⟩]
theorem kR1_f : dovetaillaw06_one.f 10 [[-1, -1, -1], []] = some (oT, oN, 0, kR1) := by kernel_rfl
theorem kR2_f : dovetaillaw06_one.f 10 [[0, -1, 1], [-1], []] = some (oT, oN, 0, kR2) := by kernel_rfl
theorem kR3_f : dovetaillaw06_one.f 10 [[5], []] = some (oT, oN, 0, kR3) := by kernel_rfl
theorem kR1_flt : fltG 0 kR1 = [(0, 1), (0, 2), (1, 0)] := by kernel_rfl
def knw : Bool := decide (opP oT oN 0 kR2 = (4, 2)) && decide (opP oT oN 0 kR3 = (1, 0))
theorem knw_true : knw = true := by kernel_rfl
theorem kR2_op : opP oT oN 0 kR2 = (4, 2) := by
 have h := knw_true
 unfold knw at h
 simp only [Bool.and_eq_true, decide_eq_true_eq] at h
 exact h.1
theorem kR3_op : opP oT oN 0 kR3 = (1, 0) := by
 have h := knw_true
 unfold knw at h
 simp only [Bool.and_eq_true, decide_eq_true_eq] at h
 exact h.2
section
variable {w : World}
theorem kn_one1 (W : World) (q : Nat) (hq : q = W.heap.size + 1) (hW : Below w.heap.size w W) : Calls Tryd.prog 24 #[.slice (some ⟨q, 0, none⟩) 2 2] ((W.alloc (.cells #[.int .i64 (-1), .int .i64 (-1), .int .i64 (-1)] 3)).alloc (.cells #[.slice (some ⟨W.heap.size, 0, none⟩) 3 3, .slice none 0 0] 22)) fun e w' => ∃ A0 c0 A1 c1 A3 c3, e = .returned (.agg #[.slice A0 2 c0, .slice A1 1 c1, .int .i64 0, .slice A3 2 c3]) ∧ Aside0 (GM w' A0 c0 oT A1 c1 oN A3 c3 kR1 ∧ Below w.heap.size w w') := by
 subst hq
 have hb : Below W.heap.size W ((W.alloc (.cells #[.int .i64 (-1), .int .i64 (-1), .int .i64 (-1)] 3)).alloc (.cells #[.slice (some ⟨W.heap.size, 0, none⟩) 3 3, .slice none 0 0] 22)) := ((Below.refl _ W).alloc (Nat.le_refl _) _).alloc (by simp) _
 refine (one_gen 10 [([-1, -1, -1], (some ⟨W.heap.size, 0, none⟩, 3)), ([], (none, 0))] (W.heap.size + 1) 2 _ oT oN 0 kR1 rfl (by simp) (heap_alloc2_new W _ _) ?_ kR1_f).mono ?_
 · intro x hx
   simp only [List.mem_cons, List.not_mem_nil, or_false] at hx
   rcases hx with rfl | rfl
   · exact ⟨Nat.le_refl _, lit_I [-1, -1, -1] (by simp) (heap_alloc2_old W _ _)⟩
   · exact ⟨Nat.le_refl _, C_nil _⟩
 · rintro e w' ⟨A0, c0, A1, c1, A3, c3, rfl, h⟩
   exact ⟨A0, c0, A1, c1, A3, c3, rfl, ⟨h.out.1, hW.trans ((hb.trans (h.out.2.mono hb.size)).mono hW.size)⟩⟩
theorem kn_one3 (W : World) (q : Nat) (hq : q = W.heap.size + 1) : Calls Tryd.prog 24 #[.slice (some ⟨q, 0, none⟩) 2 2] ((W.alloc (.cells #[.int .i64 5] 3)).alloc (.cells #[.slice (some ⟨W.heap.size, 0, none⟩) 1 1, .slice none 0 0] 22)) fun e w' => ∃ A0 c0 A1 c1 A3 c3, e = .returned (.agg #[.slice A0 2 c0, .slice A1 1 c1, .int .i64 0, .slice A3 2 c3]) ∧ Aside0 (GM w' A0 c0 oT A1 c1 oN A3 c3 kR3 ∧ Below W.heap.size W w') := by
 subst hq
 have hb : Below W.heap.size W ((W.alloc (.cells #[.int .i64 5] 3)).alloc (.cells #[.slice (some ⟨W.heap.size, 0, none⟩) 1 1, .slice none 0 0] 22)) := ((Below.refl _ W).alloc (Nat.le_refl _) _).alloc (by simp) _
 refine (one_gen 10 [([5], (some ⟨W.heap.size, 0, none⟩, 1)), ([], (none, 0))] (W.heap.size + 1) 2 _ oT oN 0 kR3 rfl (by simp) (heap_alloc2_new W _ _) ?_ kR3_f).mono ?_
 · intro x hx
   simp only [List.mem_cons, List.not_mem_nil, or_false] at hx
   rcases hx with rfl | rfl
   · exact ⟨Nat.le_refl _, lit_I [5] (by simp) (heap_alloc2_old W _ _)⟩
   · exact ⟨Nat.le_refl _, C_nil _⟩
 · rintro e w' ⟨A0, c0, A1, c1, A3, c3, rfl, h⟩
   exact ⟨A0, c0, A1, c1, A3, c3, rfl, ⟨h.out.1, hb.trans (h.out.2.mono hb.size)⟩⟩
theorem kn_one2 (W : World) (q : Nat) (hq : q = W.heap.size + 2) : Calls Tryd.prog 24 #[.slice (some ⟨q, 0, none⟩) 3 3] (((W.alloc (.cells #[.int .i64 0, .int .i64 (-1), .int .i64 1] 3)).alloc (.cells #[.int .i64 (-1)] 3)).alloc (.cells #[.slice (some ⟨W.heap.size, 0, none⟩) 3 3, .slice (some ⟨W.heap.size + 1, 0, none⟩) 1 1, .slice none 0 0] 22)) fun e w' => ∃ A0 c0 A1 c1 A3 c3, e = .returned (.agg #[.slice A0 2 c0, .slice A1 1 c1, .int .i64 0, .slice A3 3 c3]) ∧ Aside0 (GM w' A0 c0 oT A1 c1 oN A3 c3 kR2 ∧ Below W.heap.size W w') := by
 subst hq
 have hb : Below W.heap.size W (((W.alloc (.cells #[.int .i64 0, .int .i64 (-1), .int .i64 1] 3)).alloc (.cells #[.int .i64 (-1)] 3)).alloc (.cells #[.slice (some ⟨W.heap.size, 0, none⟩) 3 3, .slice (some ⟨W.heap.size + 1, 0, none⟩) 1 1, .slice none 0 0] 22)) := (((Below.refl _ W).alloc (Nat.le_refl _) _).alloc (by simp) _).alloc (by simp; omega) _
 have hnew := World.alloc_heap_new ((W.alloc (.cells #[.int .i64 0, .int .i64 (-1), .int .i64 1] 3)).alloc (.cells #[.int .i64 (-1)] 3)) (.cells #[.slice (some ⟨W.heap.size, 0, none⟩) 3 3, .slice (some ⟨W.heap.size + 1, 0, none⟩) 1 1, .slice none 0 0] 22)
 rw [World.size_alloc, World.size_alloc] at hnew
 refine (one_gen 10 [([0, -1, 1], (some ⟨W.heap.size, 0, none⟩, 3)), ([-1], (some ⟨W.heap.size + 1, 0, none⟩, 1)), ([], (none, 0))] (W.heap.size + 2) 3 _ oT oN 0 kR2 rfl (by simp) hnew ?_ kR2_f).mono ?_
 · intro x hx
   simp only [List.mem_cons, List.not_mem_nil, or_false] at hx
   rcases hx with rfl | rfl | rfl
   · exact ⟨Nat.le_refl _, lit_I [0, -1, 1] (by simp) ((Below.heap_alloc _ _ _ (by simp; omega)).trans (heap_alloc2_old W _ _))⟩
   · exact ⟨Nat.le_refl _, lit_I [-1] (by simp) ((Below.heap_alloc _ _ _ (by simp)).trans (heap_alloc2_new W _ _))⟩
   · exact ⟨Nat.le_refl _, C_nil _⟩
 · rintro e w' ⟨A0, c0, A1, c1, A3, c3, rfl, h⟩
   exact ⟨A0, c0, A1, c1, A3, c3, rfl, ⟨h.out.1, hb.trans (h.out.2.mono hb.size)⟩⟩
end
structure KF (w : World) (g c : Nat) (W : World) : Prop where
 low : Below w.heap.size w W
 fl : CutO 43 2 w.heap.size W (.slice (some ⟨g, 0, none⟩) 3 c) 3 (prC [(0, 1), (0, 2), (1, 0)])
theorem KF.more {w W W' : World} {g c : Nat} (h : KF w g c W) (hb : Below W.heap.size W W') : KF w g c W' := ⟨h.low.trans (hb.mono h.low.size), h.fl.below hb⟩
theorem KF.cells {w W : World} {g c : Nat} (h : KF w g c W) : W.cell? ⟨g, 0, none⟩ = some (.int .i64 0) ∧ W.cell? ⟨g, 1, none⟩ = some (.int .i64 1) ∧ W.cell? ⟨g, 2, none⟩ = some (.int .i64 0) ∧ W.cell? ⟨g, 3, none⟩ = some (.int .i64 2) ∧ W.cell? ⟨g, 4, none⟩ = some (.int .i64 1) ∧ W.cell? ⟨g, 5, none⟩ = some (.int .i64 0) :=
 ⟨(h.fl.cell 0 (by decide)).1, (h.fl.cell 1 (by decide)).1, (h.fl.cell 2 (by decide)).1, (h.fl.cell 3 (by decide)).1, (h.fl.cell 4 (by decide)).1, (h.fl.cell 5 (by decide)).1⟩
section
variable {ad : Int → Addr} {w : World}
theorem kn_faults (W : World) (A0 : Option Addr) (c0 : Nat) (A1 : Option Addr) (c1 : Nat) (A3 : Option Addr) (c3 : Nat) (h : GM W A0 c0 oT A1 c1 oN A3 c3 kR1 ∧ Below w.heap.size w W) : Calls Tryd.prog 14 #[.agg #[.slice A0 2 c0, .slice A1 1 c1, .int .i64 0, .slice A3 2 c3]] W fun e w' => ∃ g c, e = .returned (.slice (some ⟨g, 0, none⟩) 3 c) ∧ Aside0 (KF w g c w') := by
 refine (Faults_calls A0 2 c0 A1 1 c1 0 A3 c3 kR1 W h.1.r3 h.1.h3 (by decide) (by decide)).mono ?_
 rintro e w' ⟨v, he, hv, hb⟩
 rw [kR1_flt] at hv
 rcases hv.form with ⟨e, h0⟩ | ⟨g, c, cur, e, _⟩
 · simp at h0
 · subst e
   exact ⟨g, c, he, ⟨h.2.trans (hb.mono h.2.size), hv.lower h.2.size⟩⟩
theorem kn_wrong (hs : SentsK ad w) (hg : HandleP w) (R : List S55) (g c : Nat) (W : World) (A0 : Option Addr) (c0 : Nat) (A1 : Option Addr) (c1 : Nat) (A3 : Option Addr) (c3 : Nat) (h : GM W A0 c0 oT A1 c1 oN A3 c3 R ∧ KF w g c W) : Calls Tryd.prog 25 #[.agg #[.slice A0 2 c0, .slice A1 1 c1, .int .i64 0, .slice A3 R.length c3]] W fun e w' => e = .returned (.agg #[.int .i64 (opP oT oN 0 R).1, .int .i64 (opP oT oN 0 R).2]) ∧ Aside0 (KF w g c w') :=
 (wrong_calls ad A0 c0 oT A1 c1 oN 0 A3 c3 R W (hs.below h.2.low) (hg.below h.2.low) h.1.r0 h.1.h0 h.1.r1 h.1.h1 h.1.r3 h.1.h3).mono fun e w' ⟨he, hb⟩ => ⟨he, ⟨h.2.more hb⟩⟩
end
end Go.Proofs.YtaeaookonhaliaaDoor.R6
/- What Lent and Kept stand on, in this seat. -/

/- kit.Lent..: lists in memory of their own, a mark behind each. -/
namespace Go.Proofs.YtaeaookonhaliaaDoor.B
open Go.RowKit YtaeaookonhaliaaDoorW.PrintWords YtaeaookonhaliaaDoorW.PrintLast YtaeaookonhaliaaDoorW.PrintMore

def kmx : Kd (List Int × Bool) where
 sz := 1
 E := [3]
 K := fun w x cs => ∃ A c, cs = [.slice A x.1.length c] ∧ match x.2 with
  | true => x.1.length + 1 ≤ c ∧ Kd.C (Kd.int .i64) w A (x.1.length + 1) (x.1 ++ [-7171])
  | false => x.1.length ≤ c ∧ Kd.C (Kd.int .i64) w A x.1.length x.1
 M := fun w base ok x cs => ∃ A c, cs = [.slice A x.1.length c] ∧ match x.2 with
  | true => Kd.R (Kd.int .i64) 3 w base ok (.slice A (x.1.length + 1) c) (x.1 ++ [-7171])
  | false => Kd.R (Kd.int .i64) 3 w base ok (.slice A x.1.length c) x.1
 K_len := by
  rintro w x cs ⟨A, c, rfl, _⟩
  rfl
 K_one := by
  rintro w x cs ⟨A, c, rfl, _⟩ u hu
  rw [List.mem_singleton.1 hu]
  rfl
 K_below := by
  rintro w w1 ⟨xs, b⟩ cs hb ⟨A, c, rfl, h⟩
  cases b
  · exact ⟨A, c, rfl, h.1, Kd.C_below h.2 hb⟩
  · exact ⟨A, c, rfl, h.1, Kd.C_below h.2 hb⟩
 K_of_M := by
  rintro w base ok ⟨xs, b⟩ cs ⟨A, c, rfl, h⟩
  cases b
  · exact ⟨A, c, rfl, (Kd.R_reads' h).2⟩
  · have := Kd.R_reads' h
    rw [List.length_append, List.length_singleton] at this
    exact ⟨A, c, rfl, this.2⟩
 M_mono := by
  rintro w base ok ok' ⟨xs, b⟩ cs hok ⟨A, c, rfl, h⟩
  cases b
  · exact ⟨A, c, rfl, Kd.R_mono h hok⟩
  · exact ⟨A, c, rfl, Kd.R_mono h hok⟩
 M_bound := by
  rintro w base ok ⟨xs, b⟩ cs ⟨A, c, rfl, h⟩
  cases b
  · exact ⟨A, c, rfl, Kd.R_bound h⟩
  · exact ⟨A, c, rfl, Kd.R_bound h⟩
 M_move := by
  rintro w w1 base ok ⟨xs, b⟩ cs hm ⟨A, c, rfl, h⟩
  cases b
  · exact ⟨A, c, rfl, Kd.R_move h hm⟩
  · exact ⟨A, c, rfl, Kd.R_move h hm⟩
 M_lower := by
  rintro w base base' ok ⟨xs, b⟩ cs hb ⟨A, c, rfl, h⟩
  cases b
  · exact ⟨A, c, rfl, Kd.R_lower h hb⟩
  · exact ⟨A, c, rfl, Kd.R_lower h hb⟩
def kRx : Kd (S55 × Bool) := Kd.iso (Kd.pair (Kd.int .i64) kmx) (fun x => (x.1.f0, (x.1.f1, x.2)))
def mk1 (l : List S55) : List (S55 × Bool) := l.map fun x => (x, true)
theorem mk1_length (l : List S55) : (mk1 l).length = l.length := by simp [mk1]
def MR (w : World) (A : Option Addr) (c : Nat) (l : List S55) : Prop := l.length + 1 ≤ c ∧ Kd.C kRx w A (l.length + 1) (mk1 l ++ [(⟨-7171, []⟩, false)])
end Go.Proofs.YtaeaookonhaliaaDoor.B
/- kit.Kept..: what was lent is as it was. -/
namespace Go.Proofs.YtaeaookonhaliaaDoor.B
open Go.RowKit YtaeaookonhaliaaDoorW.PrintWords YtaeaookonhaliaaDoorW.PrintLast YtaeaookonhaliaaDoorW.PrintMore

theorem MR.cells {w : World} {ad : Addr} {c : Nat} {l : List S55} (h : MR w (some ad) c l) (i : Nat) (hi : i < l.length) : ∃ A1 c1, w.cell? (ad.add (i * 2)) = some (.int .i64 l[i].f0) ∧ w.cell? ⟨(ad.add (i * 2)).block, (ad.add (i * 2)).off + 1, none⟩ = some (.slice A1 l[i].f1.length c1) ∧ l[i].f1.length + 1 ≤ c1 ∧ Kd.C (Kd.int .i64) w A1 (l[i].f1.length + 1) (l[i].f1 ++ [-7171]) := by
 obtain ⟨ad', e, hc⟩ := h.2.2.2 (by omega)
 obtain rfl := Option.some.inj e
 obtain ⟨cs, h1, h2, h3⟩ := hc i (l[i], true) (by rw [List.getElem?_append_left (by rw [mk1_length]; exact hi)]; simp [mk1, List.getElem?_eq_getElem hi])
 obtain ⟨a, b, rfl, q1, A1, c1, rfl, q2⟩ := h2
 have q1' : a = [.int .i64 l[i].f0] := q1
 subst q1'
 refine ⟨A1, c1, h3 0 _ rfl, ?_, q2.1, q2.2⟩
 rw [← add_field _ _ 1 (by omega)]
 exact h3 1 _ rfl
end Go.Proofs.YtaeaookonhaliaaDoor.B
/- Lists that own their memory, none sharing with another: what is told of them while they are written and gone on with. -/
namespace Go.Proofs.YtaeaookonhaliaaDoor.AP
open Go.RowKit YtaeaookonhaliaaDoorW.PrintWords YtaeaookonhaliaaDoorW.PrintLast YtaeaookonhaliaaDoorW.PrintMore
open B (getD_lt getD_set)

abbrev OneV : Type := {v : Value // v.oneCell' = true}
def kV : Kd OneV := Kd.scalar (fun x : OneV => x.1) (fun x => x.2)
def zV : OneV := ⟨.slice none 0 0, rfl⟩
def vd (vs : List OneV) (i : Nat) : Value := (vs.getD i zV).1
def okO (vs : List OneV) (i : Nat) (k : Nat) : Prop := ∀ j, j < vs.length → j ≠ i → some k ≠ (vd vs j).ownBlock

section
variable {IK : IntKind} {E base : Nat} {ok ok' : Nat → Prop} {W W' : World} {v : Value} {X : List Int}
def RC (IK : IntKind) (E : Nat) (W : World) (base : Nat) (ok : Nat → Prop) (v : Value) (X : List Int) : Prop :=
 Kd.R (Kd.int IK) E W base ok v X ∨ ∃ (g : Nat) (cur : Array Value), v = .slice (some ⟨g, 0, none⟩) X.length X.length ∧ ok g ∧ base ≤ g ∧ W.heap[g]? = some (.cells cur E (0, 0)) ∧ X.length ≤ 9223372036854775807 ∧ cur.toList.take X.length = nums IK X
theorem RC.form (h : RC IK E W base ok v X) (hp : 0 < X.length) : ∃ g c, v = .slice (some ⟨g, 0, none⟩) X.length c ∧ base ≤ g := by
 rcases h with h | ⟨g, cur, rfl, h1, h2, h3, h4, h5⟩
 · obtain ⟨g, c, e, hb, _⟩ := Kd.R_form h hp
   exact ⟨g, c, e, hb⟩
 · exact ⟨g, _, rfl, h2⟩
theorem RC.cell {g n c : Nat} (h : RC IK E W base ok (.slice (some ⟨g, 0, none⟩) n c) X) (k : Nat) (hk : k < n) : W.cell? ⟨g, k, none⟩ = some (.int IK (X.getD k 0)) ∧ W.frozen? ⟨g, k, none⟩ = false := by
 rcases h with h | ⟨g', cur, e, h1, h2, h3, h4, h5⟩
 · have := Kd.R_celln 0 h (k : Int) (by omega) (by omega)
   rw [Int.toNat_natCast] at this
   exact this
 · injection e with e1 e2 e3
   injection e1 with e1
   injection e1 with e1
   subst e1 e2
   have h6 : (cur.toList.take X.length)[k]? = some (.int IK (X.getD k 0)) := by
    rw [h5]
    simp only [nums, List.getElem?_map, List.getElem?_eq_getElem hk, Option.map_some]
    rw [List.getD_eq_getElem?_getD, List.getElem?_eq_getElem hk]; rfl
   rw [List.getElem?_take_of_lt hk] at h6
   have h7 : cur[k]? = some (.int IK (X.getD k 0)) := by rw [← h6]; simp
   exact ⟨by simp [World.cell?, h3, h7], by simp [World.frozen?, h3]⟩
theorem RC.putn {g n c : Nat} (h : RC IK E W base ok (.slice (some ⟨g, 0, none⟩) n c) X) (k : Nat) (x : Int) : RC IK E (W.setCell ⟨g, k, none⟩ (.int IK x)) base ok (.slice (some ⟨g, 0, none⟩) n c) (X.set k x) := by
 rcases h with h | ⟨g', cur, e, h1, h2, h3, h4, h5⟩
 · have := Kd.R_putn h (k : Int) x
   rw [Int.toNat_natCast] at this
   exact .inl this
 · injection e with e1 e2 e3
   injection e1 with e1
   injection e1 with e1
   subst e1 e2 e3
   refine .inr ⟨g, cur.setIfInBounds k (.int IK x), by rw [List.length_set], h1, h2, blk_put h3 k _ rfl, by rw [List.length_set]; exact h4, ?_⟩
   rw [List.length_set, Array.toList_setIfInBounds, List.take_set, h5]
   simp [nums, List.map_set]
theorem RC.step (h : RC IK E W base ok v X) (hm : ∀ k, ok k → k < W.heap.size → W'.heap[k]? = W.heap[k]?) : RC IK E W' base ok v X := by
 rcases h with h | ⟨g, cur, rfl, h1, h2, h3, h4, h5⟩
 · exact .inl (Kd.R_step h hm)
 · exact .inr ⟨g, cur, rfl, h1, h2, (hm g h1 (Array.getElem?_eq_some_iff.1 h3).1).trans h3, h4, h5⟩
theorem RC.below (h : RC IK E W base ok v X) (hb : Below W.heap.size W W') : RC IK E W' base ok v X := h.step (fun k _ hk => hb.block k hk)
end

section
variable {IK : IntKind} {E base : Nat} {vs : List OneV} {Xs : List (List Int)} {W W' w : World} {A : Option Addr}

def Own (IK : IntKind) (E base : Nat) (vs : List OneV) (Xs : List (List Int)) (W : World) : Prop := ∀ i, i < vs.length → RC IK E W base (okO vs i) (vd vs i) (Xs.getD i [])
theorem Own.store (h : Own IK E base vs Xs W) (hl : Xs.length = vs.length) (i : Nat) (hi : i < vs.length) (g n c : Nat) (hv : vd vs i = .slice (some ⟨g, 0, none⟩) n c) (k : Nat) (x : Int) : Own IK E base vs (Xs.set i ((Xs.getD i []).set k x)) (W.setCell ⟨g, k, none⟩ (.int IK x)) := by
 intro j hj
 rw [getD_set]
 by_cases hij : i = j
 · subst hij
   rw [if_pos ⟨rfl, by omega⟩]
   have := h i hi
   rw [hv] at this ⊢
   exact this.putn k x
 · rw [if_neg (fun hh => hij hh.1)]
   refine RC.step (h j hj) (fun k' hk' _ => Below.heap_setCell _ _ _ _ (fun e => ?_))
   have := hk' i hi hij
   rw [hv] at this
   exact this (by simp [Value.ownBlock]; exact e)
def All (A : Option Addr) (vs : List OneV) (W : World) : Prop := Kd.C kV W A vs.length vs
theorem All.cell (h : All A vs W) (ad : Addr) (hA : A = some ad) (i : Nat) (hi : i < vs.length) : W.cell? (ad.add i) = some (vd vs i) := by
 obtain ⟨ad', c, ha, hc, hk, hx⟩ := Kd.C_get h zV (i : Int) (by omega) (by omega)
 obtain rfl := Option.some.inj (ha.symm.trans hA)
 have hk' : c = [(vs.getD ((i : Int)).toNat zV).1] := hk
 have := hx 0 _ (by rw [hk']; rfl)
 rw [Int.toNat_natCast] at this
 have e : i * kV.sz + 0 = i := by show i * 1 + 0 = i; omega
 rw [e] at this
 exact this
theorem All.move (h : All A vs W) (hm : ∀ ad, A = some ad → 0 < vs.length → W'.heap[ad.block]? = W.heap[ad.block]?) : All A vs W' := by
 refine ⟨h.1, h.2.1, fun hp => ?_⟩
 obtain ⟨ad, e, hc⟩ := h.2.2 hp
 refine ⟨ad, e, fun j p hj => ?_⟩
 obtain ⟨c, h1, h2, h3⟩ := hc j p hj
 refine ⟨c, h1, h2, fun i u hu => ?_⟩
 rw [← h3 i u hu]
 exact World.cell?_of_block (by rw [add_block]; exact hm ad e hp)
def Rds (IK : IntKind) (W : World) (v : Value) (X : List Int) : Prop := ∃ A c, v = .slice A X.length c ∧ X.length ≤ c ∧ Kd.C (Kd.int IK) W A X.length X
theorem Rds.cell {v : Value} {X : List Int} (h : Rds IK W v X) (hp : 0 < X.length) : ∃ ad c, v = .slice (some ad) X.length c ∧ ∀ q, q < X.length → W.cell? (ad.add q) = some (.int IK (X.getD q 0)) := by
 obtain ⟨A, c, hv, hc, hr⟩ := h
 obtain ⟨ad, e, _⟩ := hr.2.2 hp
 subst e
 refine ⟨ad, c, hv, fun q hq => ?_⟩
 obtain ⟨ad', cs, ha, hcl, hk, hx⟩ := Kd.C_get hr 0 (q : Int) (by omega) (by omega)
 obtain rfl := Option.some.inj ha
 have hk' : cs = [.int IK (X.getD ((q : Int)).toNat 0)] := hk
 have := hx 0 _ (by rw [hk']; rfl)
 rw [Int.toNat_natCast] at this
 have e : q * (Kd.int IK).sz + 0 = q := by show q * 1 + 0 = q; omega
 rw [e] at this
 exact this
theorem Rds.cells {v : Value} {X : List Int} (h : Rds IK W v X) (hm : ∀ ad n c, v = .slice (some ad) n c → ∀ q, q < X.length → W'.cell? (ad.add q) = W.cell? (ad.add q)) : Rds IK W' v X := by
 obtain ⟨A, c, hv, hc, hr⟩ := h
 refine ⟨A, c, hv, hc, hr.1, hr.2.1, fun hp => ?_⟩
 obtain ⟨ad, e, hx⟩ := hr.2.2 hp
 refine ⟨ad, e, fun j p hj => ?_⟩
 obtain ⟨cs, h1, h2, h3⟩ := hx j p hj
 have hjl := (List.getElem?_eq_some_iff.1 hj).1
 refine ⟨cs, h1, h2, fun i u hu => ?_⟩
 have hi : i < 1 := by
  have := (List.getElem?_eq_some_iff.1 hu).1
  have h1' : cs.length = 1 := h1
  omega
 have hoff : j * (Kd.int IK).sz + i = j := by show j * 1 + i = j; omega
 have := h3 i u hu
 rw [hoff] at this ⊢
 rw [hm ad X.length c (by rw [hv, e]) j hjl]
 exact this
theorem Rds.block {v : Value} {X : List Int} (h : Rds IK W v X) (hm : ∀ k, v.ownBlock = some k → W'.heap[k]? = W.heap[k]?) : Rds IK W' v X :=
 h.cells (fun ad n c hv q _ => World.cell?_of_block (by rw [add_block]; exact hm ad.block (by rw [hv]; rfl)))
end
end Go.Proofs.YtaeaookonhaliaaDoor.AP
/- Lists that own their memory, written full and gone on with: the states of both loops, one append. -/
namespace Go.Proofs.YtaeaookonhaliaaDoor.AP
open Go.RowKit YtaeaookonhaliaaDoorW.PrintWords YtaeaookonhaliaaDoorW.PrintLast YtaeaookonhaliaaDoorW.PrintMore
open B (getD_lt getD_set)

section
variable {IK : IntKind} {E base : Nat} {vs : List OneV} {W W' w wo wq : World} {A : Option Addr} {n : Nat → Nat}

def mark (p q : Nat) : Int := 1000 * (p : Int) + (q : Int)
structure Old (base : Nat) (vs : List OneV) (w W : World) : Prop where
 low : Below base w W
 old : ∀ k, k < w.heap.size → (∀ j, j < vs.length → (vd vs j).ownBlock ≠ some k) → W.heap[k]? = w.heap[k]?
def S1 (IK : IntKind) (E base : Nat) (w : World) (A : Option Addr) (vs : List OneV) (n : Nat → Nat) (i k : Nat) (W : World) : Prop :=
 (∃ Xs : List (List Int), Xs.length = vs.length ∧ (∀ p, p < vs.length → (Xs.getD p []).length = n p) ∧ (∀ p q, p < vs.length → q < n p → (p < i ∨ p = i ∧ q < k) → (Xs.getD p []).getD q 0 = mark p q) ∧ Own IK E base vs Xs W) ∧ All A vs W ∧ Old base vs w W
theorem S1.step {i k : Nat} (h : S1 IK E base w A vs n i k W) (hi : i < vs.length) (hk : k < n i) (hb : ∀ ad, A = some ad → ∀ j, j < vs.length → (vd vs j).ownBlock ≠ some ad.block) :
 ∃ g c y, vd vs i = .slice (some ⟨g, 0, none⟩) (n i) c ∧ W.cell? ⟨g, k, none⟩ = some (.int IK y) ∧ W.frozen? ⟨g, k, none⟩ = false ∧ S1 IK E base w A vs n i (k + 1) (W.setCell ⟨g, k, none⟩ (.int IK (mark i k))) := by
 obtain ⟨⟨Xs, h1, h2, h3, h4⟩, h5, h6⟩ := h
 obtain ⟨g, c, e, hbg⟩ := RC.form (h4 i hi) (by rw [h2 i hi]; omega)
 rw [h2 i hi] at e
 have hR := h4 i hi
 rw [e] at hR
 obtain ⟨hc, hf⟩ := hR.cell k hk
 refine ⟨g, c, _, e, hc, hf, ⟨Xs.set i ((Xs.getD i []).set k (mark i k)), by rw [List.length_set]; exact h1, fun p hp => ?_, fun p q hp hq hh => ?_, h4.store h1 i hi g (n i) c e k _⟩, ?_, ⟨h6.low.setCell hbg _, fun k' hk' hne => (Below.heap_setCell _ _ _ _ (fun e2 => hne i hi (by rw [e]; exact congrArg some e2.symm))).trans (h6.old k' hk' hne)⟩⟩
 · rw [getD_set]
   by_cases hpi : i = p
   · subst hpi; rw [if_pos ⟨rfl, by omega⟩, List.length_set]; exact h2 i hi
   · rw [if_neg (fun hh => hpi hh.1)]; exact h2 p hp
 · rw [getD_set]
   by_cases hpi : i = p
   · subst hpi
     rw [if_pos ⟨rfl, by omega⟩, getD_set]
     by_cases hkq : k = q
     · subst hkq; rw [if_pos ⟨rfl, by rw [h2 i hi]; omega⟩]
     · rw [if_neg (fun hh => hkq hh.1)]
       exact h3 i q hi hq (by omega)
   · rw [if_neg (fun hh => hpi hh.1)]
     exact h3 p q hp hq (by omega)
 · refine h5.move fun ad ha _ => Below.heap_setCell _ _ _ _ ?_
   intro e2
   have := hb ad ha i hi
   rw [e] at this
   exact this (by simp [Value.ownBlock]; exact e2.symm)

end
end Go.Proofs.YtaeaookonhaliaaDoor.AP
/- Lists that own their memory, gone on with one by one: the state of the loop, one step. -/
namespace Go.Proofs.YtaeaookonhaliaaDoor.AP
open Go.RowKit YtaeaookonhaliaaDoorW.PrintWords YtaeaookonhaliaaDoorW.PrintLast YtaeaookonhaliaaDoorW.PrintMore
open B (getD_lt getD_set)

section
variable {IK : IntKind} {E ES base : Nat} {vs : List OneV} {Xs : List (List Int)} {W W' w wo wq : World} {A : Option Addr}

end
end Go.Proofs.YtaeaookonhaliaaDoor.AP
/- kit.ApartInts: lists that own their memory, none sharing with another: true. -/
namespace Go.Proofs.YtaeaookonhaliaaDoor.AP
open Go.RowKit YtaeaookonhaliaaDoorW.PrintWords YtaeaookonhaliaaDoorW.PrintLast YtaeaookonhaliaaDoorW.PrintMore
open B (getD_lt getD_set)

end Go.Proofs.YtaeaookonhaliaaDoor.AP
/- dovetaillaw06.OpformSides: what lies while it runs. -/
namespace Go.Proofs.YtaeaookonhaliaaDoor.R6
open Go.RowKit Go.Shelf YtaeaookonhaliaaDoorW.PrintWords YtaeaookonhaliaaDoorW.PrintLast YtaeaookonhaliaaDoorW.PrintMore
open B H F CO AP
structure SB (w : World) (rv : Value) (u : Int) (W : World) : Prop where
 low : Below w.heap.size w W
 rb : Box w.heap.size #[rv] 22 W
 ub : Box (w.heap.size + 1) #[.int .i64 u] 3 W
 bb : Box (w.heap.size + 2) #[.bool false] 4 W
section
variable {w W W' : World} {rv : Value} {u : Int}
theorem SB.sz (h : SB w rv u W) : w.heap.size + 3 ≤ W.heap.size := by
 have h2 := (Array.getElem?_eq_some_iff.1 h.bb).1
 omega
theorem SB.cells (h : SB w rv u W) : W.cell? ⟨w.heap.size, 0, none⟩ = some rv ∧ W.cell? ⟨w.heap.size + 1, 0, none⟩ = some (.int .i64 u) ∧ W.cell? ⟨w.heap.size + 2, 0, none⟩ = some (.bool false) ∧ W.frozen? ⟨w.heap.size + 1, 0, none⟩ = false ∧ W.frozen? ⟨w.heap.size + 2, 0, none⟩ = false :=
 ⟨h.rb.cell 0 _ rfl, h.ub.cell 0 _ rfl, h.bb.cell 0 _ rfl, frozen0 h.ub, frozen0 h.bb⟩
end
def Mid (lo hi : Nat) (v : Value) (X : List Int) (W : World) : Prop := RC .i64 3 W lo (fun k => lo ≤ k ∧ k < hi) v X
theorem Mid.below {lo hi : Nat} {v : Value} {X : List Int} {W W' : World} (h : Mid lo hi v X W) (hb : Below W.heap.size W W') : Mid lo hi v X W' := RC.below h hb
theorem Mid.clip {lo : Nat} {ok : Nat → Prop} {A : Option Addr} {n c : Nat} {X : List Int} {W : World} (hn : n = X.length) (h : Kd.R (Kd.int .i64) 3 W lo ok (.slice A n c) X) : Mid lo W.heap.size (.slice A n n) X W := by
 subst hn
 have ho := Kd.own_of_R (enc := Value.int .i64) (h1 := fun _ => rfl) h
 rcases ho with ⟨hl, ⟨e, h0⟩ | ⟨g, cap, cur, e, hb, hg, hn, hc, hs, ht⟩⟩
 · injection e with e1 e2 e3
   have hX : X = [] := List.eq_nil_of_length_eq_zero e2
   subst e1 hX
   exact .inl (Kd.R_nil _ _ _ _ _)
 · injection e with e1 e2 e3
   subst e1
   refine .inr ⟨g, cur, rfl, ⟨hb, (Array.getElem?_eq_some_iff.1 hg).1⟩, hb, hg, by unfold maxLen at hc; omega, ?_⟩
   rw [Nat.mul_one] at ht
   exact ht
structure PH (w : World) (rv : Value) (u : Int) (l : List Int) (q b : Nat) (C : Option Addr) (cc z : Nat) (W : World) : Prop where
 sb : SB w rv u W
 qb : ∃ cur, W.heap[q]? = some (.cells cur 3 (0, 0)) ∧ l.length ≤ cur.size
 bx : Box b #[.slice C l.length cc] 22 W
 rc : Kd.C (Kd.int .i64) W C l.length l
 zs : w.heap.size + 3 ≤ q ∧ q < b ∧ b < z ∧ z ≤ W.heap.size ∧ ∀ ad, C = some ad → q < ad.block ∧ ad.block < z
section
variable {w : World} {rv : Value} {u : Int} {l : List Int} {q b : Nat} {C : Option Addr} {cc z : Nat} {W W' : World}
def ksOf (b : Nat) (C : Option Addr) : List Nat := b :: match C with | some ad => [ad.block] | none => []
theorem ksOf_C {b : Nat} {C : Option Addr} (ad : Addr) (h : C = some ad) : ad.block ∈ ksOf b C := by subst h; simp [ksOf]
end
structure Q2 (w : World) (rv : Value) (x : Int) (l : List Int) (q b : Nat) (C : Option Addr) (cc z NB : Nat) (m : Int) (AB D : Nat) (a k : Int) (W : World) : Prop where
 ph : PH w rv x l q b C cc z W
 nb : Box NB #[.int .i64 m] 3 W
 ab : Box AB #[.int .i64 a] 3 W
 kb : Box (AB + 1) #[.int .i64 k] 3 W
 dd : W.heap[D]? = some (.deferred (some []))
 zs : z ≤ NB ∧ NB < D ∧ D < AB
section
variable {w : World} {rv : Value} {x : Int} {l : List Int} {q b : Nat} {C : Option Addr} {cc z NB : Nat} {m : Int} {AB D : Nat} {a k : Int} {W W' : World}
theorem Q2.cells (h : Q2 w rv x l q b C cc z NB m AB D a k W) : W.cell? ⟨w.heap.size, 0, none⟩ = some rv ∧ W.cell? ⟨w.heap.size + 1, 0, none⟩ = some (.int .i64 x) ∧ W.cell? ⟨NB, 0, none⟩ = some (.int .i64 m) ∧ W.cell? ⟨AB, 0, none⟩ = some (.int .i64 a) ∧ W.cell? ⟨AB + 1, 0, none⟩ = some (.int .i64 k) ∧ W.frozen? ⟨AB, 0, none⟩ = false ∧ W.frozen? ⟨AB + 1, 0, none⟩ = false ∧ W.cell? ⟨w.heap.size + 1 + 1, 0, none⟩ = some (.bool false) ∧ W.frozen? ⟨w.heap.size + 1 + 1, 0, none⟩ = false :=
 ⟨h.ph.sb.cells.1, h.ph.sb.cells.2.1, h.nb.cell 0 _ rfl, h.ab.cell 0 _ rfl, h.kb.cell 0 _ rfl, frozen0 h.ab, frozen0 h.kb, h.ph.sb.cells.2.2.1, h.ph.sb.cells.2.2.2.2⟩
end
end Go.Proofs.YtaeaookonhaliaaDoor.R6
/- dovetaillaw06.OpformSides: walked. -/
namespace Go.Proofs.YtaeaookonhaliaaDoor.R6
open Go.RowKit Go.Shelf YtaeaookonhaliaaDoorW.PrintWords YtaeaookonhaliaaDoorW.PrintLast YtaeaookonhaliaaDoorW.PrintMore
open B H F CO AP
attribute [local go_sem] Oper.semAt_some
theorem Mid.blk {lo hi : Nat} {A : Option Addr} {n c : Nat} {X : List Int} {W : World} (h : Mid lo hi (.slice A n c) X W) (hp : 0 < X.length) : ∃ g cur, A = some ⟨g, 0, none⟩ ∧ lo ≤ g ∧ g < hi ∧ W.heap[g]? = some (.cells cur 3 (0, 0)) ∧ X.length ≤ cur.size := by
 rcases h with h | ⟨g, cur, e, h1, h2, h3, h4, h5⟩
 · have ho := Kd.own_of_R (enc := Value.int .i64) (h1 := fun _ => rfl) h
   have hk := h.1
   rcases ho with ⟨hl, ⟨e, h0⟩ | ⟨g, cap, cur, e, hb, hg, hn, hc, hs, ht⟩⟩
   · omega
   · injection e with e1 e2 e3
     subst e1
     have := hk g rfl
     exact ⟨g, cur, rfl, this.1, this.2, hg, by omega⟩
 · injection e with e1 e2 e3
   subst e1
   refine ⟨g, cur, rfl, h1.1, h1.2, h3, ?_⟩
   have h7 := congrArg List.length h5
   rw [List.length_take, nums_length] at h7
   have h8 : cur.toList.length = cur.size := Array.length_toList
   omega
end Go.Proofs.YtaeaookonhaliaaDoor.R6
/- dovetaillaw06.OpformKnown: walked. -/
namespace Go.Proofs.YtaeaookonhaliaaDoor.R6
open Go.RowKit Go.Shelf YtaeaookonhaliaaDoorW.PrintWords YtaeaookonhaliaaDoorW.PrintLast YtaeaookonhaliaaDoorW.PrintMore
open B H F CO AP
attribute [local go_sem] Oper.semAt_some
def lstK : List Int := [-3, 0, -1, 1]
def flatK (pre : List Nat) : List Value := pre.flatMap fun i : Nat => [.int .i64 (i : Int), .int .i64 (lstK.getD i 0)]
theorem flatK_snoc (pre : List Nat) (y : Nat) : flatK (pre ++ [y]) = flatK pre ++ [.int .i64 (y : Int), .int .i64 (lstK.getD y 0)] := by simp [flatK]
def KG (w : World) (LB z : Nat) (pre : List Nat) (W : World) : Prop := ∃ v, Below w.heap.size w W ∧ Box LB #[v] 22 W ∧ W.ownsRow LB 3 1 v (2 * pre.length) (flatK pre) ∧ (∀ k, v.ownBlock = some k → z ≤ k) ∧ z ≤ W.heap.size
theorem KG.grown {w W W' : World} {LB z : Nat} {pre : List Nat} {row : Option Nat} {B : Nat} (h : KG w LB z pre W) (hB : w.heap.size ≤ B) (hg : W.grownBy W' row) (hr : ∀ r, row = some r → B ≤ r ∧ ∃ o : Obj, W.heap[r]? = some o ∧ o.isCells = false) : KG w LB z pre W' := by
 obtain ⟨v, h1, h2, h3, h4, h5⟩ := h
 refine ⟨v, h1.grown hg h1.size (fun r e => Nat.le_trans hB (hr r e).1), grown_cells hg hr h2, own_other h3 hg ?_, h4, Nat.le_trans h5 hg.size⟩
 cases row with
 | none =>
  cases hv : v.ownBlock with
  | none => exact .inl rfl
  | some k => exact .inr (by simp)
 | some r =>
  obtain ⟨_, o, ho, hc⟩ := hr r rfl
  exact .inr (row_cells h3 ho hc)
theorem KG.app {w W w1 : World} {LB z b : Nat} {B : Option Addr} {pre : List Nat} {v v' : Value} {tmp : Obj} (h : Below w.heap.size w W ∧ Box LB #[v] 22 W ∧ W.ownsRow LB 3 1 v (2 * pre.length) (flatK pre) ∧ ∀ k, v.ownBlock = some k → z ≤ k) (hks : ∀ k ∈ ksOf b B, LB < k ∧ k < z) {p : Nat} (ho : w1.ownsRow LB 3 1 v' (2 * pre.length + 2) (flatK pre ++ [.int .i64 (p : Int), .int .i64 (lstK.getD p 0)])) (hg : (W.alloc tmp).grownBy w1 v.ownBlock) (hat : v'.ownBlock = v.ownBlock ∨ v'.ownBlock = some (W.alloc tmp).heap.size) (hw : w.heap.size ≤ LB) (hz : z ≤ W.heap.size) :
 KG w LB z (pre ++ [p]) (w1.setCell ⟨LB, 0, none⟩ v') ∧ KS (ksOf b B) W (w1.setCell ⟨LB, 0, none⟩ v') ∧ KeepsOthers W (w1.setCell ⟨LB, 0, none⟩ v') ∧ w1.cell? ⟨LB, 0, none⟩ = some v ∧ w1.frozen? ⟨LB, 0, none⟩ = false := by
 obtain ⟨h1, h2, h3, h4⟩ := h
 have hv : Boxed W LB 22 v := h2
 have hLs := (Array.getElem?_eq_some_iff.1 h2).1
 obtain ⟨q1, q2, q3, q4, q5⟩ := hv.appended (by decide) h3 (by omega) (Nat.le_refl _) ho hg
 refine ⟨⟨v', h1.trans (q5.mono hw), q2, ?_, fun k hk => ?_, Nat.le_trans hz q5.size⟩, fun k hk => ?_, q4, q1.cell, q1.frozen⟩
 · rw [flatK_snoc, List.length_append, List.length_singleton, Nat.mul_add]
   exact q3
 · rcases hat with e | e
   · exact h4 k (e ▸ hk)
   · rw [e] at hk
     have := Option.some.inj hk
     simp at this
     omega
 · have hk2 := hks k hk
   rw [Below.heap_setCell _ _ _ _ (by show k ≠ LB; omega), hg.block k (by simp; omega) (fun e => by have := h4 k e.symm; omega), Below.heap_alloc W tmp k (by omega)]
def zK40 : Array Value := madeCells #[.int .i64 0] 40
def lngK : List Int := (List.replicate 40 (0 : Int)).set 7 (-9)
theorem zK40_set : zK40.setIfInBounds 7 (.int .i64 (-9)) = (lngK.map (Value.int .i64)).toArray := by kernel_rfl
structure KH (w : World) (LB : Nat) (G : Option Addr) (cg D : Nat) (W : World) : Prop where
 low : Below w.heap.size w W
 bx : Box LB #[.slice G 4 cg] 22 W
 rc : Kd.C (Kd.int .i64) W G 4 [1, 0, 3, 1]
 dd : W.heap[D]? = some (.deferred (some []))
theorem KH.more {w W W' : World} {LB : Nat} {G : Option Addr} {cg D : Nat} (h : KH w LB G cg D W) (hb : Below W.heap.size W W') : KH w LB G cg D W' := ⟨h.low.trans (hb.mono h.low.size), h.bx.below hb, Kd.C_below h.rc hb, (hb.block D (Array.getElem?_eq_some_iff.1 h.dd).1).trans h.dd⟩
set_option maxRecDepth 100000 in
set_option maxHeartbeats 8000000 in
theorem OpformKnown_calls (ad : Int → Addr) (w : World) (hs : SentsK ad w) (hg : HandleP w) : Calls Tryd.prog 6 #[] w fun e w' => e = .returned (.bool true) ∧ Below w.heap.size w w' := by
 have K1 := Aside0.mk (fun W q hq hW => kn_one1 (w := w) W q hq hW)
 have KFl := Aside0.mk (fun W A0 c0 A1 c1 A3 c3 h => kn_faults (w := w) W A0 c0 A1 c1 A3 c3 h)
 have KA : Aside0 (∀ g c W, KF w g c W → Calls Tryd.prog 10 #[] W fun e w' => e = .returned (.bool true) ∧ Aside0 (KF w g c w')) := ⟨fun g c W h => (awake_calls ad W (hs.below h.low) (hg.below h.low)).mono fun e w' ⟨he, hb⟩ => ⟨he, ⟨h.more hb⟩⟩⟩
 have K2 : Aside0 (∀ g c W q, q = W.heap.size + 2 → KF w g c W → Calls Tryd.prog 24 #[.slice (some ⟨q, 0, none⟩) 3 3] (((W.alloc (.cells #[.int .i64 0, .int .i64 (-1), .int .i64 1] 3)).alloc (.cells #[.int .i64 (-1)] 3)).alloc (.cells #[.slice (some ⟨W.heap.size, 0, none⟩) 3 3, .slice (some ⟨W.heap.size + 1, 0, none⟩) 1 1, .slice none 0 0] 22)) fun e w' => ∃ A0 c0 A1 c1 A3 c3, e = .returned (.agg #[.slice A0 2 c0, .slice A1 1 c1, .int .i64 0, .slice A3 3 c3]) ∧ Aside0 (GM w' A0 c0 oT A1 c1 oN A3 c3 kR2 ∧ KF w g c w')) := ⟨fun g c W q hq h => (kn_one2 W q hq).mono fun e w' ⟨A0, c0, A1, c1, A3, c3, he, h2⟩ => ⟨A0, c0, A1, c1, A3, c3, he, ⟨h2.out.1, h.more h2.out.2⟩⟩⟩
 have K3 : Aside0 (∀ g c W q, q = W.heap.size + 1 → KF w g c W → Calls Tryd.prog 24 #[.slice (some ⟨q, 0, none⟩) 2 2] ((W.alloc (.cells #[.int .i64 5] 3)).alloc (.cells #[.slice (some ⟨W.heap.size, 0, none⟩) 1 1, .slice none 0 0] 22)) fun e w' => ∃ A0 c0 A1 c1 A3 c3, e = .returned (.agg #[.slice A0 2 c0, .slice A1 1 c1, .int .i64 0, .slice A3 2 c3]) ∧ Aside0 (GM w' A0 c0 oT A1 c1 oN A3 c3 kR3 ∧ KF w g c w')) := ⟨fun g c W q hq h => (kn_one3 W q hq).mono fun e w' ⟨A0, c0, A1, c1, A3, c3, he, h2⟩ => ⟨A0, c0, A1, c1, A3, c3, he, ⟨h2.out.1, h.more h2.out.2⟩⟩⟩
 have KW2 : Aside0 (∀ g c W A0 c0 A1 c1 A3 c3, (GM W A0 c0 oT A1 c1 oN A3 c3 kR2 ∧ KF w g c W) → Calls Tryd.prog 25 #[.agg #[.slice A0 2 c0, .slice A1 1 c1, .int .i64 0, .slice A3 3 c3]] W fun e w' => e = .returned (.agg #[.int .i64 4, .int .i64 2]) ∧ Aside0 (KF w g c w')) := ⟨fun g c W A0 c0 A1 c1 A3 c3 h => by
  have := kn_wrong hs hg kR2 g c W A0 c0 A1 c1 A3 c3 h
  rwa [kR2_op] at this⟩
 have KW3 : Aside0 (∀ g c W A0 c0 A1 c1 A3 c3, (GM W A0 c0 oT A1 c1 oN A3 c3 kR3 ∧ KF w g c W) → Calls Tryd.prog 25 #[.agg #[.slice A0 2 c0, .slice A1 1 c1, .int .i64 0, .slice A3 2 c3]] W fun e w' => e = .returned (.agg #[.int .i64 1, .int .i64 0]) ∧ Aside0 (KF w g c w')) := ⟨fun g c W A0 c0 A1 c1 A3 c3 h => by
  have := kn_wrong hs hg kR3 g c W A0 c0 A1 c1 A3 c3 h
  rwa [kR3_op] at this⟩
 have B0 : Aside0 (Below w.heap.size w w) := ⟨Below.refl _ _⟩
 clear hs hg
 refine (callsIn_wide (n := 7)).1 ?_
 refine callsIn_of_wp_marks Tryd.func6 rfl trivial ?_ rfl
 simp only [Tryd.ntmps6, List.size_toArray, List.length_cons, List.length_nil, Nat.reduceAdd, Nat.reduceSub, Array.replicate_succ, Array.replicate_zero, List.push_toArray, List.append_toArray, List.nil_append, List.cons_append]
 gi_wp2_with (first
  | (refine ⟨trivial, ?_⟩; gi_at_call 24; refine (callsIn_wide.2 (K1.out _ _ ?hq B0.out)).mono ?_; (case hq => simp); clear B0; rintro e w1 ⟨A0, c0, A1, c1, A3, c3, rfl, t1⟩)
  | (refine ⟨trivial, ?_⟩; gi_at_call 14; refine (callsIn_wide.2 (KFl.out _ _ _ _ _ _ _ t1.out)).mono ?_; rintro e w2 ⟨g, c, rfl, t2⟩)
  | (refine ⟨trivial, ?_⟩; gi_at_call 10; refine (callsIn_wide.2 (KA.out _ _ _ t2.out)).mono ?_; clear t2 t1; rintro e w3 ⟨rfl, t3⟩)
  | (refine ⟨trivial, ?_⟩; gi_at_call 24; refine (callsIn_wide.2 (K2.out _ _ _ _ ?hq t3.out)).mono ?_; (case hq => simp); clear K2; rintro e w4 ⟨P0, p0, P1, p1, P3, p3, rfl, t4⟩)
  | (refine ⟨trivial, ?_⟩; gi_at_call 25; refine (callsIn_wide.2 (KW2.out _ _ _ _ _ _ _ _ _ t4.out)).mono ?_; clear KW2 t3; rintro e w5 ⟨rfl, t5⟩; have hq1 := eq2 w5 4 2)
  | (refine ⟨trivial, ?_⟩; gi_at_call 24; refine (callsIn_wide.2 (K3.out _ _ _ _ ?hq t5.out)).mono ?_; (case hq => simp); clear K3; rintro e w6 ⟨Q0, q0, Q1, q1, Q3, q3, rfl, t6⟩)
  | (refine ⟨trivial, ?_⟩; gi_at_call 25; refine (callsIn_wide.2 (KW3.out _ _ _ _ _ _ _ _ _ t6.out)).mono ?_; rintro e w7 ⟨rfl, t7⟩; have hq2 := eq2 w7 1 0; have hf1 := eqF w7 0 1 0 1; have hf2 := eqF w7 0 2 0 2; have hf3 := eqF w7 1 0 1 0; obtain ⟨y0, y1, y2, y3, y4, y5⟩ := t7.out.cells; refine Aside0.out ?_))
 have T7 : Aside0 (Below w.heap.size w w7) := ⟨t7.out.low⟩
 have KT : Aside0 (∀ W q, q = W.heap.size → Below w.heap.size w W → Calls Tryd.prog 21 #[.slice (some ⟨q, 0, none⟩) 4 4] (W.alloc (.cells #[.int .i64 (-3), .int .i64 0, .int .i64 (-1), .int .i64 1] 3)) fun e w' => ∃ B cap b, e = .returned (.func (.func 40) #[] #[.pointer (some ⟨b, 0, none⟩)]) ∧ Aside0 (Box b #[.slice B 4 cap] 22 w' ∧ Kd.C (Kd.int .i64) w' B 4 [-3, 0, -1, 1] ∧ (∀ k ∈ ksOf b B, W.heap.size ≤ k ∧ k < w'.heap.size) ∧ Below W.heap.size W w')) := ⟨fun W q hq hW => by
  subst hq
  have hb : Below W.heap.size W (W.alloc (.cells #[.int .i64 (-3), .int .i64 0, .int .i64 (-1), .int .i64 1] 3)) := (Below.refl _ W).alloc (Nat.le_refl _) _
  have hbs := hb.size
  refine (Terms_calls (some ⟨W.heap.size, 0, none⟩) 4 [-3, 0, -1, 1] _ (lit_I [-3, 0, -1, 1] (by simp) (World.alloc_heap_new W _)) (Nat.le_refl 4) (by decide)).mono ?_
  rintro e w' ⟨B, cap, b, he, h1, h2, h3, h4, h5⟩
  refine ⟨B, cap, b, he, ⟨h1, h2, fun k hk => ?_, hb.trans (h5.mono hbs)⟩⟩
  unfold ksOf at hk
  rcases List.mem_cons.1 hk with rfl | hk
  · exact ⟨Nat.le_trans hbs h3.1, h3.2⟩
  · cases B with
    | none => cases hk
    | some ad =>
     obtain rfl := List.mem_singleton.1 hk
     exact ⟨Nat.le_trans hbs (h4 ad rfl).1, (h4 ad rfl).2⟩⟩
 clear K1 KFl KA KW3 t4 t5 t6
 refine Aside0.mk ?_
 obtain ⟨LB, hLB⟩ : ∃ LB, LB = w7.heap.size := ⟨_, rfl⟩
 have T8 : Aside0 (Below w.heap.size w (w7.alloc (.cells #[.slice none 0 0] 22))) := ⟨T7.out.alloc T7.out.size _⟩
 gi_wp2_with (first
  | (refine ⟨trivial, ?_⟩; gi_at_call 21; refine (callsIn_wide.2 (KT.out _ _ ?hq T8.out)).mono ?_; (case hq => simp); rintro e w8 ⟨B, cap, b, rfl, t8⟩))
 rw [← hLB]
 have hks : ∀ k ∈ ksOf b B, LB < k ∧ k < w8.heap.size := fun k hk => by have := t8.out.2.2.1 k hk; rw [World.size_alloc, ← hLB] at this; omega
 have kg : KG w LB w8.heap.size [] w8 := by
  have h1 : Box LB #[.slice none 0 0] 22 (w7.alloc (.cells #[.slice none 0 0] 22)) := by rw [hLB]; exact Box.new _ _ _
  have h2 := t8.out.2.2.2
  exact ⟨_, T8.out.trans (h2.mono T8.out.size), h1.below h2, own_nil _ _ _ _, fun k hk => by simp [Value.ownBlock] at hk, Nat.le_refl _⟩
 have hLBw : w.heap.size ≤ LB := by rw [hLB]; exact T7.out.size
 clear hLB T8 T7
 refine wpIn_rangeFunc_ownG (F := Fence.wide) rfl (by omega) (gf := 40) (lb := #[.pointer (some ⟨b, 0, none⟩)]) rfl trivial (enters_of Tryd.func40 (by kernel_rfl) rfl)
  (terms_stops Fence.wide 6 trivial rfl (by omega) b B cap lstK (by decide) w8 (ksOf b B) (by simp [ksOf]) ksOf_C t8.out.2.1 (hks b (by simp [ksOf])).2 (fun k hk => (hks k hk).2) t8.out.1) KS.trans (KS.put (fun k hk => (hks k hk).2)) (Below.refl _ _) (fun _ => rfl)
  (fun pre W' => Aside0 (KG w LB w8.heap.size pre W'))
  (fun _ _ _ => False)
  (fun s X Y row hs hg hr => ⟨hs.out.grown (by have := (hks b (by simp [ksOf])); omega) hg hr⟩)
  (fun c' s X Y row hs hg hr => hs)
  ⟨kg⟩
  (fun y : Nat => { tmps := #[.bool false, .slice (some ⟨g, 0, none⟩) 3 c, .pointer (some ⟨LB, 0, none⟩), .int .i64 (y : Int), .int .i64 (lstK.getD y 0), undef, undef, .slice (some ⟨w.heap.size, 0, none⟩) 3 3, .slice (some ⟨w.heap.size + 1, 0, none⟩) 2 2, .agg #[.slice A0 2 c0, .slice A1 1 c1, .int .i64 0, .slice A3 2 c3], .slice (some ⟨g, 0, none⟩) 3 c, .bool true, .bool false, .bool false, .slice (some ⟨w3.heap.size, 0, none⟩) 3 3, .slice (some ⟨w3.heap.size + 1, 0, none⟩) 1 1, .slice (some ⟨w3.heap.size + 1 + 1, 0, none⟩) 3 3, .agg #[.slice P0 2 p0, .slice P1 1 p1, .int .i64 0, .slice P3 3 p3], .agg #[.int .i64 4, .int .i64 2], .agg #[.int .i64 4, .int .i64 2], .bool false, .bool false, .bool false, .slice (some ⟨w5.heap.size, 0, none⟩) 1 1, .slice (some ⟨w5.heap.size + 1, 0, none⟩) 2 2, .agg #[.slice Q0 2 q0, .slice Q1 1 q1, .int .i64 0, .slice Q3 2 q3], .agg #[.int .i64 1, .int .i64 0], .agg #[.int .i64 1, .int .i64 0], .bool false, .bool false, .bool false, .slice (some ⟨g, 0, none⟩) 3 c, .int .i64 3, .bool false, .bool false, .bool false, .slice (some ⟨g, 0, none⟩) 3 c, .pointer (some ⟨g, 0, none⟩), .agg #[.int .i64 0, .int .i64 1], .agg #[.int .i64 0, .int .i64 1], .bool false, .bool false, .bool false, .slice (some ⟨g, 0, none⟩) 3 c, .pointer (some ⟨g, 2, none⟩), .agg #[.int .i64 0, .int .i64 2], .agg #[.int .i64 0, .int .i64 2], .bool false, .bool false, .bool false, .slice (some ⟨g, 0, none⟩) 3 c, .pointer (some ⟨g, 4, none⟩), .agg #[.int .i64 1, .int .i64 0], .agg #[.int .i64 1, .int .i64 0], .bool false, .bool false, .slice (some ⟨LB + 1, 0, none⟩) 4 4, .func (.func 40) #[] #[.pointer (some ⟨b, 0, none⟩)], .int .i64 (y : Int), .int .i64 (lstK.getD y 0), undef, undef, undef, undef, undef, undef, undef, undef, undef, undef, undef, undef, undef, undef, undef, undef, undef, undef, undef, undef, undef, undef, undef, undef, undef, undef, undef, undef, undef, undef, undef, undef, undef, undef, undef, undef, undef, undef, undef, undef, undef], defers := [] }) ?assign ?body ?done ?stop
 case assign =>
  intro lr y W' K' hK'
  gi_wp2
  simpa using hK'
 case stop =>
  rintro D' c'' pre W' hD hS hno hK'
  exact hno.elim
 case body =>
  rintro lr pre y W' ⟨v, tw, hbx, hrow, hlo, hz8⟩ hpl
  have hpl5 : pre.length < 5 := hpl
  have c1 := hbx.cell 0 _ rfl
  have hzW : w8.heap.size ≤ W'.heap.size := hz8
  have HB := Aside0.mk (And.intro tw (And.intro hbx (And.intro hrow hlo)))
  have hls : LB ≤ W'.heap.size := by have := (Array.getElem?_eq_some_iff.1 hbx).1; omega
  obtain ⟨vy, hvy⟩ : ∃ vy, vy = lstK.getD y 0 := ⟨_, rfl⟩
  rw [← hvy]
  have HVY := Lib.hid hvy
  obtain ⟨i0, hi, hz0, hz1, hz2⟩ := info_parts infoI
  clear tw hbx hlo hvy
  gi_wp2_with (gi_at_builtin; refine Aside0.out ?_)
  refine Aside0.mk ?_
  refine wpListIn_append_own_at _ rfl _ _ 22 rfl LB 3 i0 (.int .i64 0) 1 8 Tryd.underlying22 hi hz0 hz1 hz2 rfl (by decide) v (2 * pre.length) _ rfl (hrow.alloc _) ⟨W'.heap.size, 0, none⟩ 2 2 [.int .i64 (y : Int), .int .i64 vy] rfl rfl ?hnews (by simp [Value.oneCell']) ?b1 ?b2 (by simp; omega) ?_
  case hnews => intro j u hj; rw [add_plain, cell_of_row _ _ _ _ _ _ (World.alloc_heap_new W' _)]; simpa using hj
  case b1 => unfold maxLen; omega
  case b2 => omega
  intro v' w1 hown' hgrow _ hat
  obtain ⟨q1, q2, q3, hc1, hf1⟩ := KG.app HB.out hks (p := y) (by rw [← HVY.out]; exact hown') hgrow hat hLBw hzW
  obtain ⟨g', cap', rfl⟩ := ownsRow_succ hown'
  gi_wp2
  exact ⟨q3.from _, q2, ⟨q1⟩⟩
 case done =>
  rintro D ys W' hD hS ⟨v, tw, hbx, hrow, hlo, hz8⟩ hK'
  subst hS
  have hys : tmTo lstK lstK.length = [1, 3] := by kernel_rfl
  rw [hys] at hrow
  have hRg : Kd.R (Kd.int .i64) 3 W' LB (fun _ => True) v [1, 0, 3, 1] := Kd.R_of_own (enc := Value.int .i64) (h1 := fun _ => rfl) hrow (fun _ _ => trivial)
  obtain ⟨G, cg, ev⟩ := Kd.R_slice hRg
  subst ev
  obtain ⟨_, hcg, hCg⟩ := Kd.R_reads' hRg
  have GW : Aside0 (KH w LB G cg D W') := ⟨tw, hbx, hCg, hK'⟩
  have hcg4 : 4 ≤ cg := hcg
  clear hRg hrow hys hlo hbx tw hK' hcg hCg
  have hmk : ∀ W : World, (Instr.makeSlice 22 (.int .i64 40) (.int .i64 40)).run Tryd.prog W = .ok (.slice (some ⟨W.heap.size, 0, none⟩) 40 40) (W.alloc (.cells zK40 3)) := print_make (P := Tryd.prog) 22 3 .i64 8 Tryd.underlying22 infoI (by decide) 40 (by decide)
  have hz7 : zK40[7]? = some (.int .i64 0) := by kernel_rfl
  have hz7' : ∀ W : World, (W.alloc (.cells zK40 3)).cell? ⟨W.heap.size, 7, none⟩ = some (.int .i64 0) := fun W => by rw [cell_of_row _ _ _ _ _ _ (World.alloc_heap_new W _)]; exact hz7
  have hzf : ∀ W : World, (W.alloc (.cells zK40 3)).frozen? ⟨W.heap.size, 7, none⟩ = false := fun W => frozen_of_row _ _ _ _ _ (World.alloc_heap_new W _)
  have KS1 : Aside0 (∀ W q, q = W.heap.size → KH w LB G cg D W → Calls Tryd.prog 8 #[.slice (some ⟨q, 0, none⟩) 40 40] (W.alloc (.cells (zK40.setIfInBounds 7 (.int .i64 (-9))) 3)) fun e w' => ∃ gs, e = .returned (.slice (some ⟨gs, 0, none⟩) 40 40) ∧ Aside0 (KH w LB G cg D w' ∧ ∃ hi, Mid 0 hi (.slice (some ⟨gs, 0, none⟩) 40 40) (lngK.map mx) w')) := ⟨fun W q hq h => by
   subst hq
   rw [zK40_set]
   have hb : Below W.heap.size W (W.alloc (.cells (lngK.map (Value.int .i64)).toArray 3)) := (Below.refl _ W).alloc (Nat.le_refl _) _
   refine (Skeleton_calls (some ⟨W.heap.size, 0, none⟩) 40 lngK _ (lit_I lngK (by decide) (World.alloc_heap_new W _)) (Nat.le_refl 40) (by decide)).mono ?_
   rintro e w' ⟨S, cap, he, hR, hb2⟩
   have hm : Mid 0 w'.heap.size (.slice S 40 40) (lngK.map mx) w' := Mid.clip (by decide) (Kd.R_lower hR (Nat.zero_le _))
   obtain ⟨gs, cur, e1, _⟩ := hm.blk (by decide)
   subst e1
   exact ⟨gs, he, ⟨h.more (hb.trans (hb2.mono hb.size)), _, hm⟩⟩⟩
  have KS2 : Aside0 (∀ W, KH w LB G cg D W → Calls Tryd.prog 8 #[.slice none 0 0] W fun e w' => ∃ S, e = .returned (.slice S 0 0) ∧ Aside0 (KH w LB G cg D w')) := ⟨fun W h => by
   refine (Skeleton_calls none 0 [] W (C_nil W) (Nat.le_refl 0) (by decide)).mono ?_
   rintro e w' ⟨S, cap, he, hR, hb2⟩
   exact ⟨S, he, ⟨h.more hb2⟩⟩⟩
  have KI : Aside0 (∀ W q gs, q = W.heap.size → (KH w LB G cg D W ∧ ∃ hi, Mid 0 hi (.slice (some ⟨gs, 0, none⟩) 40 40) (lngK.map mx) W) → Calls Tryd.prog 9 #[.slice G 4 cg, .slice (some ⟨q, 0, none⟩) 4 4] (W.alloc (.cells #[.int .i64 1, .int .i64 0, .int .i64 3, .int .i64 1] 3)) fun e w' => e = .returned (.bool true) ∧ w'.cell? ⟨gs, 7, none⟩ = some (.int .i64 (-1)) ∧ w'.cell? ⟨gs, 8, none⟩ = some (.int .i64 0) ∧ w'.cell? ⟨gs, 39, none⟩ = some (.int .i64 0) ∧ Aside0 (KH w LB G cg D w')) := ⟨fun W q gs hq h => by
   subst hq
   have hb : Below W.heap.size W (W.alloc (.cells #[.int .i64 1, .int .i64 0, .int .i64 3, .int .i64 1] 3)) := (Below.refl _ W).alloc (Nat.le_refl _) _
   obtain ⟨hk, hi, hm⟩ := h
   refine (dovetailkit_Ints.calls 50 G cg [1, 0, 3, 1] (some ⟨W.heap.size, 0, none⟩) 4 [1, 0, 3, 1] true _ (Kd.C_below hk.rc hb) hcg4 (lit_I [1, 0, 3, 1] (by simp) (World.alloc_heap_new W _)) (Nat.le_refl 4) (by kernel_rfl)).mono ?_
   rintro e w' ⟨he, hd⟩
   have hb2 := hb.trans (hd.below.mono hb.size)
   have hm2 := hm.below hb2
   exact ⟨he, (RC.cell hm2 7 (by decide)).1, (RC.cell hm2 8 (by decide)).1, (RC.cell hm2 39 (by decide)).1, ⟨hk.more hb2⟩⟩⟩
  have gl := GW.out.bx.cell 0 _ rfl
  gi_wp2_with (first
   | (refine ⟨trivial, ?_⟩; gi_at_call 8; (with_reducible refine (callsIn_wide.2 (KS1.out _ _ ?hq GW.out)).mono ?_); (case hq => simp); clear KS1; rintro e w9 ⟨gs, rfl, t9⟩; have gl9 := t9.out.1.bx.cell 0 _ rfl)
   | (refine ⟨trivial, ?_⟩; gi_at_call 9; (with_reducible refine (callsIn_wide.2 (KI.out _ _ _ ?hq t9.out)).mono ?_); (case hq => simp); rintro e w10 ⟨rfl, y7, y8, y9, t10⟩)
   | (refine ⟨trivial, ?_⟩; gi_at_call 8; (with_reducible refine (callsIn_wide.2 (KS2.out _ t10.out)).mono ?_); rintro e w11 ⟨S, rfl, t11⟩))
  refine leaves_marks w.heap.size [D] _ (by simp) (fun D' hD' => ?_) ?_
  · obtain rfl := List.mem_singleton.1 hD'
    exact ⟨by have := (hks b (by simp [ksOf])); omega, t11.out.dd⟩
  · intro w' hb hk'
    exact ⟨_, results_tmp rfl _ _ _, rfl, t11.out.low.trans hb⟩
end Go.Proofs.YtaeaookonhaliaaDoor.R6
namespace Go.Proofs.YtaeaookonhaliaaDoor.opformKnown
open Go.ChangeShapes Go.WideShapes Go.ChangeAt Go.RowKit YtaeaookonhaliaaDoorW.PrintWords H B

theorem own : ownKnob Tryd.prog.godebug = none := by kernel_rfl
theorem laidOut : laidOutB Tryd.prog = true := by kernel_rfl

set_option maxRecDepth 100000 in
theorem contract (H : Type) (enc : TypeId × Value → H) (W : World) (base : Nat) (args : Array Value) (ds gs : List (DataW H)) (before : List MemPlace)
 (hval : ∀ (j : Nat) t v, Tryd.f6.params[j]? = some t → args[j]? = some v → Value.okWide Tryd.prog W .any base t v)
 (ad : Int → Addr) (hs : SentsK ad W) (hg : HandleP W)
 (hz : (DataW.weightsEach Tryd.prog (Tryd.f6.params.toList ++ (OpenSpec.ofChange Rows.opformKnownSpec).bare.plain.varTypes Tryd.prog) (ds ++ gs)).all (· ≤ reachBytes) = true)
 (hW : DataW.Whole enc Tryd.prog Tryd.f6.params.toList Rows.opformKnownSpec.vars false W args.toList ds gs before) :
 Calls Tryd.prog 6 args W fun e W' => ∃ v, e = .returned v ∧ Rows.opformKnownSpec.post enc Tryd.prog Tryd.f6 false true false false W args v W' := by
 have hW' := hW
 obtain ⟨p, q, hA0, hV, rfl, hfz, hnd⟩ := hW
 have hA : DataW.TrodAll enc Tryd.prog W 0 (fun _ => true) true Tryd.f6.params.toList args.toList ds p := hA0
 rw [Tryd.params6] at hA hval
 obtain ⟨hargs, rfl, rfl⟩ := trodAll_nil hA
 obtain rfl : args = #[] := by cases args; simp_all
 obtain ⟨rfl, rfl⟩ := trodVars_none hV
 refine (R6.OpformKnown_calls ad  W hs hg ).mono fun e W' ⟨he, bel⟩ => ?_
 subst he
 simp only [List.append_nil] at hW'
 exact ⟨_, rfl, _, _, _, [], _, [], hW', trodAll_mk1 (shut_bool Tryd.underlying4 _), trodAll_mk0, rfl, bel.frame _, fun h => by cases h⟩

theorem laid_met (os : Os) (args : Array Value) : laidMetH Tryd.prog Rows.opformKnownRow.laid ((laidWorld16 os).forCall (fun _ _ => 0) ⟨#[], args, []⟩).memory := laid_met16 os args
theorem sents {W : World} (h : laidMetH Tryd.prog Rows.opformKnownRow.laid W) : (∃ ad, SentsK ad W) ∧ HandleP W := sents16 h
theorem reads (os : Os) {H : Type} (enc : TypeId × Value → H) : ∃ places, DataW.whole enc Tryd.prog ((laidWorld16 os).forCall (fun _ _ => 0) ⟨#[], #[], []⟩).memory Tryd.f6.params.toList Rows.opformKnownSpec.vars false (#[] : Array Value).toList 8 = some ([], [], places) :=
 ⟨[], by kernel_rfl⟩

set_option maxRecDepth 100000 in
theorem lifted (os : Os) (started : os.Started) (H : Type) (enc : TypeId × Value → H) (F : Stop.Interp) :
 ReturnsInHanded {} Tryd.checked os 6 .any ((OpenSpec.ofChange Rows.opformKnownSpec).preRow enc Tryd.prog Tryd.f6 Rows.opformKnownRow.domain false Rows.opformKnownRow.laid) (((OpenSpec.ofChange Rows.opformKnownSpec).at F).post enc Tryd.prog Tryd.f6 false true false false) := by
 obtain ⟨places, hx⟩ := reads os enc
 refine returnsInHanded_of_row (C := Tryd.checked) (s := OpenSpec.ofChange Rows.opformKnownSpec) own started (by kernel_rfl) Tryd.func6
  (witness_row_atRef (enc := enc) (C := Tryd.checked) false (laidWorld16 os) #[] rfl (by kernel_rfl) (by kernel_rfl) (by kernel_rfl)
   (OpenSpec.preRow_of_cond 8 hx (by kernel_rfl) (fun k hk => by cases hk) (by kernel_rfl) (laid_met os _))) ?_
 intro W base args ds gs before hval hW _ hcond hz hL _ _
 obtain ⟨⟨ad, hs⟩, hg⟩ := sents hL
 exact contract H enc W base args ds gs before hval ad hs hg hz hW

theorem said : Rows.OpformKnownSaid :=
 OpenClaim.holds_of_cond 6 Tryd.f6 rfl rfl rfl rfl rfl rfl rfl ⟨rfl, rfl, rfl, rfl, rfl⟩ rfl rfl rfl rfl rfl (by kernel_rfl) Tryd.func6 (by kernel_rfl)
  (of_decide_eq_true (by kernel_rfl)) (by unfold Func.isWrapper; first | (rw [if_pos (by decide +kernel)]; kernel_rfl) | (rw [if_neg (by decide +kernel)]; exact ⟨rfl, rfl⟩))
  (fun os started H enc _ F => by rw [OpenClaim.pre_eq_preRow]; exact lifted os started H enc F)

theorem plain (f : FuncId) (fn : Func) (hf : Tryd.pinned.checked.prog.funcNamed "dovetail/dovetaillaw06.OpformKnown" = some f) (hfn : Tryd.pinned.checked.prog.funcs[f]? = some fn) :
 true = Tryd.pinned.checked.prog.looks [] ∧ ∀ (j : Nat) t, fn.params[j]? = some t → Tryd.pinned.checked.prog.wantsStandIn t = false := by
 obtain rfl : f = 6 := Option.some.inj ((show Tryd.prog.funcNamed "dovetail/dovetaillaw06.OpformKnown" = some 6 by kernel_rfl).symm.trans hf) |>.symm
 obtain rfl : fn = Tryd.f6 := (Option.some.inj (Tryd.func6.symm.trans hfn)).symm
 refine ⟨by kernel_rfl, fun j t ht => ?_⟩
 rw [Tryd.params6] at ht
 simp at ht

theorem proved : Rows.OpformKnownCardSaid :=
 Claim7.holds_tied_plain_at .later [] _ _ _ _ said (fun _ h => by cases h) (by kernel_rfl) (fun _ h => by cases h) opformKnown_row_tie rfl ⟨rfl, rfl⟩ (by kernel_rfl) rfl plain (by kernel_rfl)
#print axioms proved
end Go.Proofs.YtaeaookonhaliaaDoor.opformKnown
