/- Texts of this claim, one behind the other. -/
import Derived.Test.YthjhaogfpdkhbaaDoorMShT1
import Derived.SizedLaws
import Derived.ChangeArms
import Derived.LaidLaws
import Derived.LaidHandle
import Derived.LaidEql
import Derived.Stop.Asserts
import Derived.RowKitTokens
import Derived.Test.YthjhaogfpdkhbaaDoorRows
import Derived.Lib.LaidTab
import Derived.Lib.LaidIn
namespace Go.Proofs.YthjhaogfpdkhbaaDoor.B
open Go.RowKit YthjhaogfpdkhbaaDoorW.PrintWords YthjhaogfpdkhbaaDoorW.PrintLast YthjhaogfpdkhbaaDoorW.PrintMore
attribute [local go_sem] max2_int min2_int max_two min_two max_three min_three max_four min_four   -- for this text's walks alone
set_option linter.unusedVariables false
set_option linter.unusedSimpArgs false

mutual
def dovetailref05_Symbol.j0 : Nat → Int → Bool → List ByteArray → List ByteArray → Int → List (S52) → Option (ByteArray)
 | 0, _, _, _, _, _, _ => none
 | k + 1, x1, x22, x165000, x165001, x165002, x165003 => if x22 = true then (if 0 ≤ x1 then (if x1 < (x165000.length : Int) then ((dovetailref05_free.f k (rdOf ByteArray.empty x165000 x1)).bind fun t166 => (dovetailref05_Symbol.l0 k (rdOf ByteArray.empty x165000 x1) t166 0 x165000 x165001 x165002 x165003)) else (none)) else (none)) else (dovetailref05_Symbol.l1 k x1 0 x165000 x165001 x165002 x165003)
def dovetailref05_Symbol.l0 : Nat → ByteArray → Bool → Int → List ByteArray → List ByteArray → Int → List (S52) → Option (ByteArray)
 | 0, _, _, _, _, _, _, _ => none
 | k + 1, x5, x6, x7, x165000, x165001, x165002, x165003 => if x7 < (x165001.length : Int) then (if 0 ≤ x7 then (if (rdOf ByteArray.empty x165001 x7).toList = x5.toList then (dovetailref05_Symbol.l0 k x5 false (wrap64 (x7 + 1)) x165000 x165001 x165002 x165003) else (dovetailref05_Symbol.l0 k x5 x6 (wrap64 (x7 + 1)) x165000 x165001 x165002 x165003)) else (none)) else (if x6 = true then (some x5) else ((dovetailref02_Quote.f k x5).bind fun t168 => (some t168)))
def dovetailref05_Symbol.l1 : Nat → Int → Int → List ByteArray → List ByteArray → Int → List (S52) → Option (ByteArray)
 | 0, _, _, _, _, _, _ => none
 | k + 1, x1, x8, x165000, x165001, x165002, x165003 => if x8 < (x165001.length : Int) then (if x1 = (wrap64 ((-1) - x8)) then (if 0 ≤ x8 then ((dovetailref05_free.f k (rdOf ByteArray.empty x165001 x8)).bind fun t170 => (if t170 = true then (some (rdOf ByteArray.empty x165001 x8)) else ((dovetailref02_Quote.f k (rdOf ByteArray.empty x165001 x8)).bind fun t173 => (if 1 + t173.size ≤ 9223372036854775807 then (if ((⟨#[60]⟩ : ByteArray) ++ t173).size + 1 ≤ 9223372036854775807 then (some (((⟨#[60]⟩ : ByteArray) ++ t173) ++ (⟨#[62]⟩ : ByteArray))) else (none)) else (none))))) else (none)) else (dovetailref05_Symbol.l1 k x1 (wrap64 (x8 + 1)) x165000 x165001 x165002 x165003)) else (some (⟨#[63]⟩ : ByteArray))
end
def dovetailref05_Symbol.f (k : Nat) (l0_0 : List ByteArray) (l0_1 : List ByteArray) (a0_2 : Int) (l0_3 : List (S52)) (a1 : Int) : Option (ByteArray) := if a1 = (l0_0.length : Int) then (some (⟨#[36]⟩ : ByteArray)) else (if a1 ≥ 0 then (dovetailref05_Symbol.j0 k a1 (decide (a1 < (l0_0.length : Int))) l0_0 l0_1 a0_2 l0_3) else (dovetailref05_Symbol.j0 k a1 false l0_0 l0_1 a0_2 l0_3))
theorem dovetailref05_Symbol.mono_l : ∀ k, (∀ y0 y1 y2 y3 y4 y5, LeO (dovetailref05_Symbol.j0 k y0 y1 y2 y3 y4 y5) (dovetailref05_Symbol.j0 (k + 1) y0 y1 y2 y3 y4 y5)) ∧ (∀ y0 y1 y2 y3 y4 y5 y6, LeO (dovetailref05_Symbol.l0 k y0 y1 y2 y3 y4 y5 y6) (dovetailref05_Symbol.l0 (k + 1) y0 y1 y2 y3 y4 y5 y6)) ∧ (∀ y0 y1 y2 y3 y4 y5, LeO (dovetailref05_Symbol.l1 k y0 y1 y2 y3 y4 y5) (dovetailref05_Symbol.l1 (k + 1) y0 y1 y2 y3 y4 y5))
 | 0 => ⟨fun _ _ _ _ _ _ r h => by simp [dovetailref05_Symbol.j0] at h, fun _ _ _ _ _ _ _ r h => by simp [dovetailref05_Symbol.l0] at h, fun _ _ _ _ _ _ r h => by simp [dovetailref05_Symbol.l1] at h⟩
 | k + 1 => by
  obtain ⟨ih0, ih1, ih2⟩ := dovetailref05_Symbol.mono_l k
  refine ⟨?_, ?_, ?_⟩
  · intro y0 y1 y2 y3 y4 y5
    unfold dovetailref05_Symbol.j0
    repeat' first
    | (with_reducible exact ih0 _ _ _ _ _ _)
    | (with_reducible exact ih1 _ _ _ _ _ _ _)
    | (with_reducible exact ih2 _ _ _ _ _ _)
    | (with_reducible exact dovetailref02_Quote.mono _ _)
    | (with_reducible exact dovetailref05_free.mono _ _)
    | (with_reducible exact LeO.refl _)
    | (with_reducible exact LeO.none _)
    | (with_reducible refine LeO.ite ?_ ?_)
    | (with_reducible refine LeO.bind ?_ (fun _ => ?_))
    | exact ih0 _ _ _ _ _ _
    | exact ih1 _ _ _ _ _ _ _
    | exact ih2 _ _ _ _ _ _
    | exact dovetailref02_Quote.mono _ _
    | exact dovetailref05_free.mono _ _
    | exact LeO.none _
    | refine LeO.ite ?_ ?_
    | refine LeO.bind ?_ (fun _ => ?_)
  · intro y0 y1 y2 y3 y4 y5 y6
    unfold dovetailref05_Symbol.l0
    repeat' first
    | (with_reducible exact ih0 _ _ _ _ _ _)
    | (with_reducible exact ih1 _ _ _ _ _ _ _)
    | (with_reducible exact ih2 _ _ _ _ _ _)
    | (with_reducible exact dovetailref02_Quote.mono _ _)
    | (with_reducible exact dovetailref05_free.mono _ _)
    | (with_reducible exact LeO.refl _)
    | (with_reducible exact LeO.none _)
    | (with_reducible refine LeO.ite ?_ ?_)
    | (with_reducible refine LeO.bind ?_ (fun _ => ?_))
    | exact ih0 _ _ _ _ _ _
    | exact ih1 _ _ _ _ _ _ _
    | exact ih2 _ _ _ _ _ _
    | exact dovetailref02_Quote.mono _ _
    | exact dovetailref05_free.mono _ _
    | exact LeO.none _
    | refine LeO.ite ?_ ?_
    | refine LeO.bind ?_ (fun _ => ?_)
  · intro y0 y1 y2 y3 y4 y5
    unfold dovetailref05_Symbol.l1
    repeat' first
    | (with_reducible exact ih0 _ _ _ _ _ _)
    | (with_reducible exact ih1 _ _ _ _ _ _ _)
    | (with_reducible exact ih2 _ _ _ _ _ _)
    | (with_reducible exact dovetailref02_Quote.mono _ _)
    | (with_reducible exact dovetailref05_free.mono _ _)
    | (with_reducible exact LeO.refl _)
    | (with_reducible exact LeO.none _)
    | (with_reducible refine LeO.ite ?_ ?_)
    | (with_reducible refine LeO.bind ?_ (fun _ => ?_))
    | exact ih0 _ _ _ _ _ _
    | exact ih1 _ _ _ _ _ _ _
    | exact ih2 _ _ _ _ _ _
    | exact dovetailref02_Quote.mono _ _
    | exact dovetailref05_free.mono _ _
    | exact LeO.none _
    | refine LeO.ite ?_ ?_
    | refine LeO.bind ?_ (fun _ => ?_)
theorem dovetailref05_Symbol.mono : ∀ a0 a1 a2 a3 a4 k, LeO (dovetailref05_Symbol.f k a0 a1 a2 a3 a4) (dovetailref05_Symbol.f (k + 1) a0 a1 a2 a3 a4) := by
 intro a0 a1 a2 a3 a4 k
 obtain ⟨ih0, ih1, ih2⟩ := dovetailref05_Symbol.mono_l k
 unfold dovetailref05_Symbol.f
 repeat' first
  | (with_reducible exact ih0 _ _ _ _ _ _)
  | (with_reducible exact ih1 _ _ _ _ _ _ _)
  | (with_reducible exact ih2 _ _ _ _ _ _)
  | (with_reducible exact dovetailref02_Quote.mono _ _)
  | (with_reducible exact dovetailref05_free.mono _ _)
  | (with_reducible exact LeO.refl _)
  | (with_reducible exact LeO.none _)
  | (with_reducible refine LeO.ite ?_ ?_)
  | (with_reducible refine LeO.bind ?_ (fun _ => ?_))
  | exact ih0 _ _ _ _ _ _
  | exact ih1 _ _ _ _ _ _ _
  | exact ih2 _ _ _ _ _ _
  | exact dovetailref02_Quote.mono _ _
  | exact dovetailref05_free.mono _ _
  | exact LeO.none _
  | refine LeO.ite ?_ ?_
  | refine LeO.bind ?_ (fun _ => ?_)
set_option maxHeartbeats 8000000 in
set_option maxRecDepth 100000 in
theorem dovetailref05_Symbol.calls (k : Nat) (A0_0 : Option Addr) (c0_0 : Nat) (l0_0 : List ByteArray) (A0_1 : Option Addr) (c0_1 : Nat) (l0_1 : List ByteArray) (a0_2 : Int) (A0_3 : Option Addr) (c0_3 : Nat) (l0_3 : List (S52)) (a1 : Int) (r : ByteArray) (w : World) (hr0_0 : Kd.C Kd.string w A0_0 l0_0.length l0_0) (hc0_0 : l0_0.length ≤ c0_0) (hr0_1 : Kd.C Kd.string w A0_1 l0_1.length l0_1) (hc0_1 : l0_1.length ≤ c0_1) (hr0_3 : Kd.C k52 w A0_3 l0_3.length l0_3) (hc0_3 : l0_3.length ≤ c0_3) (h : dovetailref05_Symbol.f k l0_0 l0_1 a0_2 l0_3 a1 = some r) :
 Calls Tryd.prog 20 #[.agg #[.slice A0_0 l0_0.length c0_0, .slice A0_1 l0_1.length c0_1, .int .i64 a0_2, .slice A0_3 l0_3.length c0_3], .int .i64 a1] w fun e w' => e = .returned (.string r) ∧ Below w.heap.size w w' := by
 have hu25 := Tryd.underlying25
 have HR0_0 := Aside0.mk hr0_0
 have HC0_0 := Aside0.mk hc0_0
 clear hr0_0 hc0_0
 have HR0_1 := Aside0.mk hr0_1
 have HC0_1 := Aside0.mk hc0_1
 clear hr0_1 hc0_1
 have HR0_3 := Aside0.mk hr0_3
 have HC0_3 := Aside0.mk hc0_3
 clear hr0_3 hc0_3
 have HB := Aside0.mk (Below.refl w.heap.size w)
 have H : (if a1 = (l0_0.length : Int) then (some (⟨#[36]⟩ : ByteArray)) else (if a1 ≥ 0 then (dovetailref05_Symbol.j0 k a1 (decide (a1 < (l0_0.length : Int))) l0_0 l0_1 a0_2 l0_3) else (dovetailref05_Symbol.j0 k a1 false l0_0 l0_1 a0_2 l0_3))) = some r := h
 clear h
 by_cases c3 : a1 = (l0_0.length : Int)
 · rw [if_pos c3] at H
   have c3b0 : (a1 == (l0_0.length : Int)) = true := beq_iff_eq.mpr c3
   have c3b1 : (a1 != (l0_0.length : Int)) = false := bne_eq_false_iff_eq.mpr c3
   clear c3
   obtain rfl := Option.some.inj H
   go_enter Tryd.func20, Tryd.ntmps20
   go_wp2_with (first | ((with_reducible refine gate_dst (N := 2) rfl ?_); (try (refine gate_guard (by rfl) ?_; dsimp only)); refine box_event ?hg (N := 2) ?hd (cs := #[.slice A0_0 l0_0.length c0_0, .slice A0_1 l0_1.length c0_1, .int .i64 a0_2, .slice A0_3 l0_3.length c0_3]) (t := 25) ?hr ?_; (case hd => rfl); (case hg => rfl); (case hr => first | (go_simp; done) | (go_simp; rfl)); intro gb164 hg w4 hbox hb; have n0_ := Aside0.mk (below_step (by repeat (first | (with_reducible first | exact HB.out | apply below_alloc | apply pw_below_drewN | apply below_drew1) | exact HB.out)) hb); have n1_ := Aside0.mk (hbox); have n2_ := Aside0.mk ((by rw [hg]; exact (below_size (by repeat (first | (with_reducible first | exact HB.out | apply below_alloc | apply pw_below_drewN | apply below_drew1) | exact HB.out))) : w.heap.size ≤ gb164)); have n3_ := Aside0.mk ((by rw [hg]; exact (below_size (by repeat (first | (with_reducible first | exact HB.out | apply below_alloc | apply pw_below_drewN | apply below_drew1) | exact HB.out))) : w.heap.size ≤ gb164)); clear HB; have HB := n0_; have BK164 := n1_; have GW164 := n2_; have GE164 := n3_; clear n0_ n1_ n2_ n3_; clear hb hbox hg; have hcz5_0 : w4.cell? ⟨gb164, 0, none⟩ = some (.slice A0_0 l0_0.length c0_0) := (blk_cell BK164.out 0).trans rfl; have hcz5_1 : w4.cell? ⟨gb164, 1, none⟩ = some (.slice A0_1 l0_1.length c0_1) := (blk_cell BK164.out 1).trans rfl; have hcz5_2 : w4.cell? ⟨gb164, 2, none⟩ = some (.int .i64 a0_2) := (blk_cell BK164.out 2).trans rfl; have hcz5_3 : w4.cell? ⟨gb164, 3, none⟩ = some (.slice A0_3 l0_3.length c0_3) := (blk_cell BK164.out 3).trans rfl; have hfz5_0 := blk_frozen BK164.out 0; have hfz5_1 := blk_frozen BK164.out 1; have hfz5_2 := blk_frozen BK164.out 2; have hfz5_3 := blk_frozen BK164.out 3))
   go_ret
   exact ⟨by first | rfl | (simp [errW_none, errW_some] <;> rfl) | (simp [*, errW_none, errW_some] <;> rfl), by repeat (first | (with_reducible first | exact HB.out | apply below_alloc | apply pw_below_drewN | apply below_drew1 | refine below_set ?_ GE164.out) | exact HB.out)⟩
 · rw [if_neg c3] at H
   have c3b0 : (a1 == (l0_0.length : Int)) = false := beq_eq_false_iff_ne.mpr c3
   have c3b1 : (a1 != (l0_0.length : Int)) = true := bne_iff_ne.mpr c3
   have HC6 := Aside0.mk H
   clear H
   go_enter Tryd.func20, Tryd.ntmps20
   go_upto_region 3 with (first | ((with_reducible refine gate_dst (N := 2) rfl ?_); (try (refine gate_guard (by rfl) ?_; dsimp only)); refine box_event ?hg (N := 2) ?hd (cs := #[.slice A0_0 l0_0.length c0_0, .slice A0_1 l0_1.length c0_1, .int .i64 a0_2, .slice A0_3 l0_3.length c0_3]) (t := 25) ?hr ?_; (case hd => rfl); (case hg => rfl); (case hr => first | (go_simp; done) | (go_simp; rfl)); intro gb164 hg w7 hbox hb; have n0_ := Aside0.mk (below_step (by repeat (first | (with_reducible first | exact HB.out | apply below_alloc | apply pw_below_drewN | apply below_drew1) | exact HB.out)) hb); have n1_ := Aside0.mk (hbox); have n2_ := Aside0.mk ((by rw [hg]; exact (below_size (by repeat (first | (with_reducible first | exact HB.out | apply below_alloc | apply pw_below_drewN | apply below_drew1) | exact HB.out))) : w.heap.size ≤ gb164)); have n3_ := Aside0.mk ((by rw [hg]; exact (below_size (by repeat (first | (with_reducible first | exact HB.out | apply below_alloc | apply pw_below_drewN | apply below_drew1) | exact HB.out))) : w.heap.size ≤ gb164)); clear HB; have HB := n0_; have BK164 := n1_; have GW164 := n2_; have GE164 := n3_; clear n0_ n1_ n2_ n3_; clear hb hbox hg; have hcz8_0 : w7.cell? ⟨gb164, 0, none⟩ = some (.slice A0_0 l0_0.length c0_0) := (blk_cell BK164.out 0).trans rfl; have hcz8_1 : w7.cell? ⟨gb164, 1, none⟩ = some (.slice A0_1 l0_1.length c0_1) := (blk_cell BK164.out 1).trans rfl; have hcz8_2 : w7.cell? ⟨gb164, 2, none⟩ = some (.int .i64 a0_2) := (blk_cell BK164.out 2).trans rfl; have hcz8_3 : w7.cell? ⟨gb164, 3, none⟩ = some (.slice A0_3 l0_3.length c0_3) := (blk_cell BK164.out 3).trans rfl; have hfz8_0 := blk_frozen BK164.out 0; have hfz8_1 := blk_frozen BK164.out 1; have hfz8_2 := blk_frozen BK164.out 2; have hfz8_3 := blk_frozen BK164.out 3))
   (try simp only [Act.put, List.setIfInBounds_toArray, List.set_cons_zero, List.set_cons_succ])
   go_cut [22] (fun v22 wc => ∃ (kq : Nat) (x22_5 : Bool), v22 = .bool x22_5 ∧ Aside0 (dovetailref05_Symbol.j0 kq a1 x22_5 l0_0 l0_1 a0_2 l0_3 = some r) ∧ Aside0 (kq ≤ k) ∧ Aside0 (wc.heap[gb164]? = some (.cells #[(.slice A0_0 l0_0.length c0_0), (.slice A0_1 l0_1.length c0_1), .int .i64 a0_2, (.slice A0_3 l0_3.length c0_3)] 25 (0, 0))) ∧ Aside0 (Below w.heap.size w wc))
   case first =>
    have H := HC6.out
    clear HC6
    by_cases c9 : a1 ≥ 0
    · rw [if_pos c9] at H
      have c9b0 : decide (0 ≤ a1) = true := decide_eq_true c9
      clear c9
      (first | rw [c9b0] | (simp only [i64_w, i32_w]; rw [c9b0]) | skip)
      have H' := Aside0.mk H
      clear H
      have hcz10_0 : w7.cell? ⟨gb164, 0, none⟩ = some (.slice A0_0 l0_0.length c0_0) := (blk_cell BK164.out 0).trans rfl
      have hcz10_1 : w7.cell? ⟨gb164, 1, none⟩ = some (.slice A0_1 l0_1.length c0_1) := (blk_cell BK164.out 1).trans rfl
      have hcz10_2 : w7.cell? ⟨gb164, 2, none⟩ = some (.int .i64 a0_2) := (blk_cell BK164.out 2).trans rfl
      have hcz10_3 : w7.cell? ⟨gb164, 3, none⟩ = some (.slice A0_3 l0_3.length c0_3) := (blk_cell BK164.out 3).trans rfl
      have hfz10_0 := blk_frozen BK164.out 0
      have hfz10_1 := blk_frozen BK164.out 1
      have hfz10_2 := blk_frozen BK164.out 2
      have hfz10_3 := blk_frozen BK164.out 3
      go_wp2
      go_meet
      case rel => exact ⟨_, (decide (a1 < (l0_0.length : Int))), (by first | rfl | (simp; done) | (simp [*]; done)), H', ⟨by first | omega | exact Nat.le_refl _⟩, ⟨by (with_reducible repeat (first | refine blk_drewN ?_ _ | refine blk_drew ?_ | refine blk_alloc ?_ _)); exact BK164.out⟩, ⟨by repeat (first | (with_reducible first | exact HB.out | apply below_alloc | apply pw_below_drewN | apply below_drew1 | refine below_set ?_ GE164.out) | exact HB.out)⟩⟩
    · rw [if_neg c9] at H
      have c9b0 : decide (0 ≤ a1) = false := decide_eq_false c9
      clear c9
      (first | rw [c9b0] | (simp only [i64_w, i32_w]; rw [c9b0]) | skip)
      have H' := Aside0.mk H
      clear H
      go_wp2
      go_meet
      case rel => exact ⟨_, (false), (by first | rfl | (simp; done) | (simp [*]; done)), H', ⟨by first | omega | exact Nat.le_refl _⟩, ⟨by (with_reducible repeat (first | refine blk_drewN ?_ _ | refine blk_drew ?_ | refine blk_alloc ?_ _)); exact BK164.out⟩, ⟨by repeat (first | (with_reducible first | exact HB.out | apply below_alloc | apply pw_below_drewN | apply below_drew1 | refine below_set ?_ GE164.out) | exact HB.out)⟩⟩
   case rest =>
    clear HC6
    try clear c2
    try clear p2
    try clear c3
    try clear c3b0
    try clear c3b1
    try clear c9
    try clear c9b0
    try clear hcz10_0
    try clear hcz10_1
    try clear hcz10_2
    try clear hcz10_3
    try clear hcz5_0
    try clear hcz5_1
    try clear hcz5_2
    try clear hcz5_3
    try clear hcz8_0
    try clear hcz8_1
    try clear hcz8_2
    try clear hcz8_3
    try clear hfz10_0
    try clear hfz10_1
    try clear hfz10_2
    try clear hfz10_3
    try clear hfz5_0
    try clear hfz5_1
    try clear hfz5_2
    try clear hfz5_3
    try clear hfz8_0
    try clear hfz8_1
    try clear hfz8_2
    try clear hfz8_3
    obtain ⟨kq, x22_5, rfl, HA, HJ5, BK164, HB⟩ := hcut
    cases kq with
    | zero => exact absurd HA.out (by simp [dovetailref05_Symbol.j0])
    | succ kj5 =>
     have H := HA.out
     clear HA
     simp only [dovetailref05_Symbol.j0] at H
     by_cases c11 : x22_5 = true
     · subst c11
       have H1 : (if 0 ≤ a1 then (if a1 < (l0_0.length : Int) then ((dovetailref05_free.f kj5 (rdOf ByteArray.empty l0_0 a1)).bind fun t166 => (dovetailref05_Symbol.l0 kj5 (rdOf ByteArray.empty l0_0 a1) t166 0 l0_0 l0_1 a0_2 l0_3)) else (none)) else (none)) = some r := by rw [if_pos rfl] at H; exact H
       clear H
       have H := H1
       clear H1
       by_cases c12 : 0 ≤ a1
       · rw [if_pos c12] at H
         have c12b0 : decide (0 ≤ a1) = true := decide_eq_true c12
         clear c12
         by_cases c13 : a1 < (l0_0.length : Int)
         · rw [if_pos c13] at H
           have c13b0 : decide (a1 < (l0_0.length : Int)) = true := decide_eq_true c13
           clear c13
           replace H := Option.bind_eq_some_iff.mp H
           obtain ⟨t166, A140, H⟩ := H
           replace H : (dovetailref05_Symbol.l0 kj5 (rdOf ByteArray.empty l0_0 a1) t166 0 l0_0 l0_1 a0_2 l0_3) = some r := H
           have A14 := Aside0.mk A140
           clear A140
           have H' := Aside0.mk H
           clear H
           have hcz15_0 : wc.cell? ⟨gb164, 0, none⟩ = some (.slice A0_0 l0_0.length c0_0) := (blk_cell BK164.out 0).trans rfl
           have hcz15_1 : wc.cell? ⟨gb164, 1, none⟩ = some (.slice A0_1 l0_1.length c0_1) := (blk_cell BK164.out 1).trans rfl
           have hcz15_2 : wc.cell? ⟨gb164, 2, none⟩ = some (.int .i64 a0_2) := (blk_cell BK164.out 2).trans rfl
           have hcz15_3 : wc.cell? ⟨gb164, 3, none⟩ = some (.slice A0_3 l0_3.length c0_3) := (blk_cell BK164.out 3).trans rfl
           have hfz15_0 := blk_frozen BK164.out 0
           have hfz15_1 := blk_frozen BK164.out 1
           have hfz15_2 := blk_frozen BK164.out 2
           have hfz15_3 := blk_frozen BK164.out 3
           have p165 : 0 ≤ (a1 : Int) := of_decide_eq_true (by first | (with_reducible assumption) | assumption)
           have q165 : a1 < (l0_0.length : Int) := of_decide_eq_true (by first | (with_reducible assumption) | assumption)
           obtain ⟨ad165, e165, hx165_0⟩ := Kd.at_string HR0_0.out a1 p165 q165
           cases e165
           replace hx165_0 := (HB.out.cell (World.block_lt_of_cell? w _ hx165_0)).trans hx165_0
           replace p165 := eq_true p165
           replace q165 := eq_true q165
           go_wp2_with (first | ((with_reducible refine gate_callee (f := 61) rfl ?_); refine goesL_ (some 29) rfl rfl Tryd.func61 (by kernel_rfl) rfl #[.string (rdOf ByteArray.empty l0_0 a1)] rfl (by (try simp only [List.map_toArray, List.map_cons, List.map_nil]); first | done | rfl | (simp only [List.length_drop, List.length_take]; rfl)) ?_; (with_reducible refine (dovetailref05_free.calls kj5 (rdOf ByteArray.empty l0_0 a1) t166 _ A14.out).mono ?_); rintro e w' ⟨rfl, ⟨nd, rfl⟩⟩; refine ⟨_, rfl, ?_⟩))
           go_loopg [6, 7] kj5 (fun kq v6 v7 w' => ∃ (x6_2 : Bool) (x7_2 : Int), v6 = .bool x6_2 ∧ v7 = .int .i64 x7_2 ∧ Aside0 (dovetailref05_Symbol.l0 kq (rdOf ByteArray.empty l0_0 a1) x6_2 x7_2 l0_0 l0_1 a0_2 l0_3 = some r) ∧ Aside0 (kq ≤ kj5) ∧ Aside0 (w'.heap[gb164]? = some (.cells #[(.slice (some ad165) l0_0.length c0_0), (.slice A0_1 l0_1.length c0_1), .int .i64 a0_2, (.slice A0_3 l0_3.length c0_3)] 25 (0, 0))) ∧ Aside0 (Below w.heap.size w w'))
           case atStart => exact ⟨(t166), (0), (by first | rfl | (simp; done) | (simp [*]; done)), (by first | rfl | (simp; done) | (simp [*]; done)), H', ⟨Nat.le_refl _⟩, ⟨by (with_reducible repeat (first | refine blk_drewN ?_ _ | refine blk_drew ?_ | refine blk_alloc ?_ _)); exact BK164.out⟩, ⟨by repeat (first | (with_reducible first | exact HB.out | apply below_alloc | apply pw_below_drewN | apply below_drew1 | refine below_set ?_ GE164.out) | exact HB.out)⟩⟩
           case round =>
            clear H'
            try clear c1
            try clear p1
            try clear q1
            try clear hx1
            try clear c2
            try clear p2
            try clear c3
            try clear c3b0
            try clear c3b1
            try clear c6
            try clear c9
            try clear c9b0
            try clear c11
            try clear c12
            try clear c12b0
            try clear c13
            try clear c13b0
            try clear hcz10_0
            try clear hcz10_1
            try clear hcz10_2
            try clear hcz10_3
            try clear hcz15_0
            try clear hcz15_1
            try clear hcz15_2
            try clear hcz15_3
            try clear hcz5_0
            try clear hcz5_1
            try clear hcz5_2
            try clear hcz5_3
            try clear hcz8_0
            try clear hcz8_1
            try clear hcz8_2
            try clear hcz8_3
            try clear hfz10_0
            try clear hfz10_1
            try clear hfz10_2
            try clear hfz10_3
            try clear hfz15_0
            try clear hfz15_1
            try clear hfz15_2
            try clear hfz15_3
            try clear hfz5_0
            try clear hfz5_1
            try clear hfz5_2
            try clear hfz5_3
            try clear hfz8_0
            try clear hfz8_1
            try clear hfz8_2
            try clear hfz8_3
            try clear hx165_0
            try clear p165
            try clear p2
            try clear q165
            obtain ⟨x6_2, x7_2, rfl, rfl, HA, HK2, BK164, HB⟩ := hrel
            cases gk with
            | zero => exact absurd HA.out (by simp [dovetailref05_Symbol.l0])
            | succ k2 =>
             have H := HA.out
             clear HA
             simp only [dovetailref05_Symbol.l0] at H
             by_cases c16 : x7_2 < (l0_1.length : Int)
             · rw [if_pos c16] at H
               have c16b0 : decide (x7_2 < (l0_1.length : Int)) = true := decide_eq_true c16
               clear c16
               by_cases c17 : 0 ≤ x7_2
               · rw [if_pos c17] at H
                 have c17b0 : decide (0 ≤ x7_2) = true := decide_eq_true c17
                 clear c17
                 by_cases c18 : (rdOf ByteArray.empty l0_1 x7_2).toList = (rdOf ByteArray.empty l0_0 a1).toList
                 · rw [if_pos c18] at H
                   have c18b0 : ((rdOf ByteArray.empty l0_1 x7_2).toList == (rdOf ByteArray.empty l0_0 a1).toList) = true := beq_iff_eq.mpr c18
                   have c18b1 : ((rdOf ByteArray.empty l0_1 x7_2).toList != (rdOf ByteArray.empty l0_0 a1).toList) = false := bne_eq_false_iff_eq.mpr c18
                   clear c18
                   have H' := Aside0.mk H
                   clear H
                   have hcz19_0 : wr.cell? ⟨gb164, 0, none⟩ = some (.slice (some ad165) l0_0.length c0_0) := (blk_cell BK164.out 0).trans rfl
                   have hcz19_1 : wr.cell? ⟨gb164, 1, none⟩ = some (.slice A0_1 l0_1.length c0_1) := (blk_cell BK164.out 1).trans rfl
                   have hcz19_2 : wr.cell? ⟨gb164, 2, none⟩ = some (.int .i64 a0_2) := (blk_cell BK164.out 2).trans rfl
                   have hcz19_3 : wr.cell? ⟨gb164, 3, none⟩ = some (.slice A0_3 l0_3.length c0_3) := (blk_cell BK164.out 3).trans rfl
                   have hfz19_0 := blk_frozen BK164.out 0
                   have hfz19_1 := blk_frozen BK164.out 1
                   have hfz19_2 := blk_frozen BK164.out 2
                   have hfz19_3 := blk_frozen BK164.out 3
                   have p167 : 0 ≤ (x7_2 : Int) := of_decide_eq_true (by first | (with_reducible assumption) | assumption)
                   have q167 : x7_2 < (l0_1.length : Int) := of_decide_eq_true (by first | (with_reducible assumption) | assumption)
                   obtain ⟨ad167, e167, hx167_0⟩ := Kd.at_string HR0_1.out x7_2 p167 q167
                   cases e167
                   replace hx167_0 := (HB.out.cell (World.block_lt_of_cell? w _ hx167_0)).trans hx167_0
                   replace p167 := eq_true p167
                   replace q167 := eq_true q167
                   go_wp2
                   go_roundg k2
                   case measure => have := HJ5.out; have := HK2.out; omega
                   case rel => exact ⟨(false), (wrap64 (x7_2 + 1)), (by first | rfl | (simp; done) | (simp [*]; done)), (by first | rfl | (simp; done) | (simp [*]; done)), H', ⟨by have := HJ5.out; have := HK2.out; omega⟩, ⟨by (with_reducible repeat (first | refine blk_drewN ?_ _ | refine blk_drew ?_ | refine blk_alloc ?_ _)); exact BK164.out⟩, ⟨by repeat (first | (with_reducible first | exact HB.out | apply below_alloc | apply pw_below_drewN | apply below_drew1 | refine below_set ?_ GE164.out) | exact HB.out)⟩⟩
                 · rw [if_neg c18] at H
                   have c18b0 : ((rdOf ByteArray.empty l0_1 x7_2).toList == (rdOf ByteArray.empty l0_0 a1).toList) = false := beq_eq_false_iff_ne.mpr c18
                   have c18b1 : ((rdOf ByteArray.empty l0_1 x7_2).toList != (rdOf ByteArray.empty l0_0 a1).toList) = true := bne_iff_ne.mpr c18
                   have H' := Aside0.mk H
                   clear H
                   have hcz20_0 : wr.cell? ⟨gb164, 0, none⟩ = some (.slice (some ad165) l0_0.length c0_0) := (blk_cell BK164.out 0).trans rfl
                   have hcz20_1 : wr.cell? ⟨gb164, 1, none⟩ = some (.slice A0_1 l0_1.length c0_1) := (blk_cell BK164.out 1).trans rfl
                   have hcz20_2 : wr.cell? ⟨gb164, 2, none⟩ = some (.int .i64 a0_2) := (blk_cell BK164.out 2).trans rfl
                   have hcz20_3 : wr.cell? ⟨gb164, 3, none⟩ = some (.slice A0_3 l0_3.length c0_3) := (blk_cell BK164.out 3).trans rfl
                   have hfz20_0 := blk_frozen BK164.out 0
                   have hfz20_1 := blk_frozen BK164.out 1
                   have hfz20_2 := blk_frozen BK164.out 2
                   have hfz20_3 := blk_frozen BK164.out 3
                   have p167 : 0 ≤ (x7_2 : Int) := of_decide_eq_true (by first | (with_reducible assumption) | assumption)
                   have q167 : x7_2 < (l0_1.length : Int) := of_decide_eq_true (by first | (with_reducible assumption) | assumption)
                   obtain ⟨ad167, e167, hx167_0⟩ := Kd.at_string HR0_1.out x7_2 p167 q167
                   cases e167
                   replace hx167_0 := (HB.out.cell (World.block_lt_of_cell? w _ hx167_0)).trans hx167_0
                   replace p167 := eq_true p167
                   replace q167 := eq_true q167
                   go_wp2
                   go_roundg k2
                   case measure => have := HJ5.out; have := HK2.out; omega
                   case rel => exact ⟨(x6_2), (wrap64 (x7_2 + 1)), (by first | rfl | (simp; done) | (simp [*]; done)), (by first | rfl | (simp; done) | (simp [*]; done)), H', ⟨by have := HJ5.out; have := HK2.out; omega⟩, ⟨by (with_reducible repeat (first | refine blk_drewN ?_ _ | refine blk_drew ?_ | refine blk_alloc ?_ _)); exact BK164.out⟩, ⟨by repeat (first | (with_reducible first | exact HB.out | apply below_alloc | apply pw_below_drewN | apply below_drew1 | refine below_set ?_ GE164.out) | exact HB.out)⟩⟩
               · rw [if_neg c17] at H
                 exact absurd H (by simp)
             · rw [if_neg c16] at H
               have c16b0 : decide (x7_2 < (l0_1.length : Int)) = false := decide_eq_false c16
               clear c16
               by_cases c21 : x6_2 = true
               · subst c21
                 have H1 : (some (rdOf ByteArray.empty l0_0 a1)) = some r := by rw [if_pos rfl] at H; exact H
                 clear H
                 have H := H1
                 clear H1
                 obtain rfl := Option.some.inj H
                 have hcz22_0 : wr.cell? ⟨gb164, 0, none⟩ = some (.slice (some ad165) l0_0.length c0_0) := (blk_cell BK164.out 0).trans rfl
                 have hcz22_1 : wr.cell? ⟨gb164, 1, none⟩ = some (.slice A0_1 l0_1.length c0_1) := (blk_cell BK164.out 1).trans rfl
                 have hcz22_2 : wr.cell? ⟨gb164, 2, none⟩ = some (.int .i64 a0_2) := (blk_cell BK164.out 2).trans rfl
                 have hcz22_3 : wr.cell? ⟨gb164, 3, none⟩ = some (.slice A0_3 l0_3.length c0_3) := (blk_cell BK164.out 3).trans rfl
                 have hfz22_0 := blk_frozen BK164.out 0
                 have hfz22_1 := blk_frozen BK164.out 1
                 have hfz22_2 := blk_frozen BK164.out 2
                 have hfz22_3 := blk_frozen BK164.out 3
                 go_wp2
                 go_ret
                 exact ⟨by first | rfl | (simp [errW_none, errW_some] <;> rfl) | (simp [*, errW_none, errW_some] <;> rfl), by repeat (first | (with_reducible first | exact HB.out | apply below_alloc | apply pw_below_drewN | apply below_drew1 | refine below_set ?_ GE164.out) | exact HB.out)⟩
               · replace c21 := Bool.eq_false_iff.mpr c21
                 subst c21
                 have H1 : ((dovetailref02_Quote.f k2 (rdOf ByteArray.empty l0_0 a1)).bind fun t168 => (some t168)) = some r := by rw [if_neg (show ¬ (false = true) by decide)] at H; exact H
                 clear H
                 have H := H1
                 clear H1
                 replace H := Option.bind_eq_some_iff.mp H
                 obtain ⟨t168, A230, H⟩ := H
                 replace H : (some t168) = some r := H
                 have A23 := Aside0.mk A230
                 clear A230
                 obtain rfl := Option.some.inj H
                 have hcz24_0 : wr.cell? ⟨gb164, 0, none⟩ = some (.slice (some ad165) l0_0.length c0_0) := (blk_cell BK164.out 0).trans rfl
                 have hcz24_1 : wr.cell? ⟨gb164, 1, none⟩ = some (.slice A0_1 l0_1.length c0_1) := (blk_cell BK164.out 1).trans rfl
                 have hcz24_2 : wr.cell? ⟨gb164, 2, none⟩ = some (.int .i64 a0_2) := (blk_cell BK164.out 2).trans rfl
                 have hcz24_3 : wr.cell? ⟨gb164, 3, none⟩ = some (.slice A0_3 l0_3.length c0_3) := (blk_cell BK164.out 3).trans rfl
                 have hfz24_0 := blk_frozen BK164.out 0
                 have hfz24_1 := blk_frozen BK164.out 1
                 have hfz24_2 := blk_frozen BK164.out 2
                 have hfz24_3 := blk_frozen BK164.out 3
                 go_wp2_with (first | ((with_reducible refine gate_callee (f := 62) rfl ?_); refine goesL_ (some 47) rfl rfl Tryd.func62 (by kernel_rfl) rfl #[.string (rdOf ByteArray.empty l0_0 a1)] rfl (by (try simp only [List.map_toArray, List.map_cons, List.map_nil]); first | done | rfl | (simp only [List.length_drop, List.length_take]; rfl)) ?_; (with_reducible refine (dovetailref02_Quote.calls k2 (rdOf ByteArray.empty l0_0 a1) t168 _ A23.out).mono ?_); rintro e w25 ⟨rfl, hb⟩; refine ⟨_, rfl, ?_⟩; have n0_ := Aside0.mk (blk_below (g := gb164) (o := .cells #[.slice (some ad165) l0_0.length c0_0, .slice A0_1 l0_1.length c0_1, .int .i64 a0_2, .slice A0_3 l0_3.length c0_3] 25 (0, 0)) (by (with_reducible repeat (first | refine blk_drewN ?_ _ | refine blk_drew ?_ | refine blk_alloc ?_ _)); exact BK164.out) hb); have n1_ := Aside0.mk (below_step (by repeat (first | (with_reducible first | exact HB.out | apply below_alloc | apply pw_below_drewN | apply below_drew1 | refine below_set ?_ GE164.out) | exact HB.out)) hb); clear BK164; clear HB; have BK164 := n0_; have HB := n1_; clear n0_ n1_; (try clear hb); (try clear hb2); (try clear hk); (try clear hi)))
                 go_ret
                 exact ⟨by first | rfl | (simp [errW_none, errW_some] <;> rfl) | (simp [*, errW_none, errW_some] <;> rfl), by repeat (first | (with_reducible first | exact HB.out | apply below_alloc | apply pw_below_drewN | apply below_drew1 | refine below_set ?_ GE164.out) | exact HB.out)⟩
         · rw [if_neg c13] at H
           exact absurd H (by simp)
       · rw [if_neg c12] at H
         exact absurd H (by simp)
     · replace c11 := Bool.eq_false_iff.mpr c11
       subst c11
       have H1 : (dovetailref05_Symbol.l1 kj5 a1 0 l0_0 l0_1 a0_2 l0_3) = some r := by rw [if_neg (show ¬ (false = true) by decide)] at H; exact H
       clear H
       have H := H1
       clear H1
       have H' := Aside0.mk H
       clear H
       go_wp2
       go_loopg [8] kj5 (fun kq v8 w' => ∃ (x8_2 : Int), v8 = .int .i64 x8_2 ∧ Aside0 (dovetailref05_Symbol.l1 kq a1 x8_2 l0_0 l0_1 a0_2 l0_3 = some r) ∧ Aside0 (kq ≤ kj5) ∧ Aside0 (w'.heap[gb164]? = some (.cells #[(.slice A0_0 l0_0.length c0_0), (.slice A0_1 l0_1.length c0_1), .int .i64 a0_2, (.slice A0_3 l0_3.length c0_3)] 25 (0, 0))) ∧ Aside0 (Below w.heap.size w w'))
       case atStart => exact ⟨(0), (by first | rfl | (simp; done) | (simp [*]; done)), H', ⟨Nat.le_refl _⟩, ⟨by (with_reducible repeat (first | refine blk_drewN ?_ _ | refine blk_drew ?_ | refine blk_alloc ?_ _)); exact BK164.out⟩, ⟨by repeat (first | (with_reducible first | exact HB.out | apply below_alloc | apply pw_below_drewN | apply below_drew1 | refine below_set ?_ GE164.out) | exact HB.out)⟩⟩
       case round =>
        clear H'
        try clear c1
        try clear p1
        try clear q1
        try clear hx1
        try clear c2
        try clear p2
        try clear c3
        try clear c3b0
        try clear c3b1
        try clear c6
        try clear p6
        try clear c9
        try clear c9b0
        try clear c11
        try clear c12
        try clear c12b0
        try clear c13
        try clear c13b0
        try clear c16
        try clear c16b0
        try clear p16
        try clear q16
        try clear hx16
        try clear c17
        try clear c17b0
        try clear c18
        try clear c18b0
        try clear c18b1
        try clear c20
        try clear c21
        try clear hcz10_0
        try clear hcz10_1
        try clear hcz10_2
        try clear hcz10_3
        try clear hcz15_0
        try clear hcz15_1
        try clear hcz15_2
        try clear hcz15_3
        try clear hcz19_0
        try clear hcz19_1
        try clear hcz19_2
        try clear hcz19_3
        try clear hcz20_0
        try clear hcz20_1
        try clear hcz20_2
        try clear hcz20_3
        try clear hcz22_0
        try clear hcz22_1
        try clear hcz22_2
        try clear hcz22_3
        try clear hcz24_0
        try clear hcz24_1
        try clear hcz24_2
        try clear hcz24_3
        try clear hcz5_0
        try clear hcz5_1
        try clear hcz5_2
        try clear hcz5_3
        try clear hcz8_0
        try clear hcz8_1
        try clear hcz8_2
        try clear hcz8_3
        try clear hfz10_0
        try clear hfz10_1
        try clear hfz10_2
        try clear hfz10_3
        try clear hfz15_0
        try clear hfz15_1
        try clear hfz15_2
        try clear hfz15_3
        try clear hfz19_0
        try clear hfz19_1
        try clear hfz19_2
        try clear hfz19_3
        try clear hfz20_0
        try clear hfz20_1
        try clear hfz20_2
        try clear hfz20_3
        try clear hfz22_0
        try clear hfz22_1
        try clear hfz22_2
        try clear hfz22_3
        try clear hfz24_0
        try clear hfz24_1
        try clear hfz24_2
        try clear hfz24_3
        try clear hfz5_0
        try clear hfz5_1
        try clear hfz5_2
        try clear hfz5_3
        try clear hfz8_0
        try clear hfz8_1
        try clear hfz8_2
        try clear hfz8_3
        try clear hx165_0
        try clear hx167_0
        try clear p1
        try clear p165
        try clear p167
        try clear p2
        try clear q1
        try clear q165
        try clear q167
        obtain ⟨x8_2, rfl, HA, HK2, BK164, HB⟩ := hrel
        cases gk with
        | zero => exact absurd HA.out (by simp [dovetailref05_Symbol.l1])
        | succ k2 =>
         have H := HA.out
         clear HA
         simp only [dovetailref05_Symbol.l1] at H
         by_cases c26 : x8_2 < (l0_1.length : Int)
         · rw [if_pos c26] at H
           have c26b0 : decide (x8_2 < (l0_1.length : Int)) = true := decide_eq_true c26
           clear c26
           by_cases c27 : a1 = (wrap64 ((-1) - x8_2))
           · rw [if_pos c27] at H
             have c27b0 : (a1 == (wrap64 ((-1) - x8_2))) = true := beq_iff_eq.mpr c27
             have c27b1 : (a1 != (wrap64 ((-1) - x8_2))) = false := bne_eq_false_iff_eq.mpr c27
             clear c27
             by_cases c28 : 0 ≤ x8_2
             · rw [if_pos c28] at H
               have c28b0 : decide (0 ≤ x8_2) = true := decide_eq_true c28
               clear c28
               replace H := Option.bind_eq_some_iff.mp H
               obtain ⟨t170, A290, H⟩ := H
               replace H : (if t170 = true then (some (rdOf ByteArray.empty l0_1 x8_2)) else ((dovetailref02_Quote.f k2 (rdOf ByteArray.empty l0_1 x8_2)).bind fun t173 => (if 1 + t173.size ≤ 9223372036854775807 then (if ((⟨#[60]⟩ : ByteArray) ++ t173).size + 1 ≤ 9223372036854775807 then (some (((⟨#[60]⟩ : ByteArray) ++ t173) ++ (⟨#[62]⟩ : ByteArray))) else (none)) else (none)))) = some r := H
               have A29 := Aside0.mk A290
               clear A290
               by_cases c30 : t170 = true
               · subst c30
                 have H1 : (some (rdOf ByteArray.empty l0_1 x8_2)) = some r := by rw [if_pos rfl] at H; exact H
                 clear H
                 have H := H1
                 clear H1
                 obtain rfl := Option.some.inj H
                 have hcz31_0 : wr.cell? ⟨gb164, 0, none⟩ = some (.slice A0_0 l0_0.length c0_0) := (blk_cell BK164.out 0).trans rfl
                 have hcz31_1 : wr.cell? ⟨gb164, 1, none⟩ = some (.slice A0_1 l0_1.length c0_1) := (blk_cell BK164.out 1).trans rfl
                 have hcz31_2 : wr.cell? ⟨gb164, 2, none⟩ = some (.int .i64 a0_2) := (blk_cell BK164.out 2).trans rfl
                 have hcz31_3 : wr.cell? ⟨gb164, 3, none⟩ = some (.slice A0_3 l0_3.length c0_3) := (blk_cell BK164.out 3).trans rfl
                 have hfz31_0 := blk_frozen BK164.out 0
                 have hfz31_1 := blk_frozen BK164.out 1
                 have hfz31_2 := blk_frozen BK164.out 2
                 have hfz31_3 := blk_frozen BK164.out 3
                 have p169 : 0 ≤ (x8_2 : Int) := of_decide_eq_true (by first | (with_reducible assumption) | assumption)
                 have q169 : x8_2 < (l0_1.length : Int) := of_decide_eq_true (by first | (with_reducible assumption) | assumption)
                 obtain ⟨ad169, e169, hx169_0⟩ := Kd.at_string HR0_1.out x8_2 p169 q169
                 cases e169
                 replace hx169_0 := (HB.out.cell (World.block_lt_of_cell? w _ hx169_0)).trans hx169_0
                 replace p169 := eq_true p169
                 replace q169 := eq_true q169
                 go_wp2_with (first | ((with_reducible refine gate_callee (f := 61) rfl ?_); refine goesL_ (some 64) rfl rfl Tryd.func61 (by kernel_rfl) rfl #[.string (rdOf ByteArray.empty l0_1 x8_2)] rfl (by (try simp only [List.map_toArray, List.map_cons, List.map_nil]); first | done | rfl | (simp only [List.length_drop, List.length_take]; rfl)) ?_; (with_reducible refine (dovetailref05_free.calls k2 (rdOf ByteArray.empty l0_1 x8_2) true _ A29.out).mono ?_); rintro e w' ⟨rfl, ⟨nd, rfl⟩⟩; refine ⟨_, rfl, ?_⟩; have p171 : 0 ≤ (x8_2 : Int) := of_decide_eq_true (by first | (with_reducible assumption) | assumption); have q171 : x8_2 < (l0_1.length : Int) := of_decide_eq_true (by first | (with_reducible assumption) | assumption); obtain ⟨ad171, e171, hx171_0⟩ := Kd.at_string HR0_1.out x8_2 p171 q171; obtain rfl : ad169 = ad171 := (by injection e171); replace hx171_0 := (HB.out.cell (World.block_lt_of_cell? w _ hx171_0)).trans hx171_0; replace p171 := eq_true p171; replace q171 := eq_true q171))
                 go_ret
                 exact ⟨by first | rfl | (simp [errW_none, errW_some] <;> rfl) | (simp [*, errW_none, errW_some] <;> rfl), by repeat (first | (with_reducible first | exact HB.out | apply below_alloc | apply pw_below_drewN | apply below_drew1 | refine below_set ?_ GE164.out) | exact HB.out)⟩
               · replace c30 := Bool.eq_false_iff.mpr c30
                 subst c30
                 have H1 : ((dovetailref02_Quote.f k2 (rdOf ByteArray.empty l0_1 x8_2)).bind fun t173 => (if 1 + t173.size ≤ 9223372036854775807 then (if ((⟨#[60]⟩ : ByteArray) ++ t173).size + 1 ≤ 9223372036854775807 then (some (((⟨#[60]⟩ : ByteArray) ++ t173) ++ (⟨#[62]⟩ : ByteArray))) else (none)) else (none))) = some r := by rw [if_neg (show ¬ (false = true) by decide)] at H; exact H
                 clear H
                 have H := H1
                 clear H1
                 replace H := Option.bind_eq_some_iff.mp H
                 obtain ⟨t173, A320, H⟩ := H
                 replace H : (if 1 + t173.size ≤ 9223372036854775807 then (if ((⟨#[60]⟩ : ByteArray) ++ t173).size + 1 ≤ 9223372036854775807 then (some (((⟨#[60]⟩ : ByteArray) ++ t173) ++ (⟨#[62]⟩ : ByteArray))) else (none)) else (none)) = some r := H
                 have A32 := Aside0.mk A320
                 clear A320
                 by_cases c33 : 1 + t173.size ≤ 9223372036854775807
                 · rw [if_pos c33] at H
                   have c33b0 := eq_true c33
                   have c33b1 : decide (1 + t173.size ≤ 9223372036854775807) = true := decide_eq_true c33
                   try have c33b2 : (9223372036854775807 < 1 + t173.size) = False := eq_false (Nat.not_lt.2 c33)
                   by_cases c34 : ((⟨#[60]⟩ : ByteArray) ++ t173).size + 1 ≤ 9223372036854775807
                   · rw [if_pos c34] at H
                     have c34b0 := eq_true c34
                     have c34b1 : decide (((⟨#[60]⟩ : ByteArray) ++ t173).size + 1 ≤ 9223372036854775807) = true := decide_eq_true c34
                     try have c34b2 : (9223372036854775807 < ((⟨#[60]⟩ : ByteArray) ++ t173).size + 1) = False := eq_false (Nat.not_lt.2 c34)
                     have c34b3 : (9223372036854775807 < 1 + t173.size + 1) = False := eq_false (by have h_ := c34; rw [ByteArray.size_append] at h_; have e_ : (⟨#[60]⟩ : ByteArray).size = 1 := rfl; omega)
                     have c34b4 : (9223372036854775807 < t173.size + 1 + 1) = False := eq_false (by have h_ := c34; rw [ByteArray.size_append] at h_; have e_ : (⟨#[60]⟩ : ByteArray).size = 1 := rfl; omega)
                     obtain rfl := Option.some.inj H
                     have hcz35_0 : wr.cell? ⟨gb164, 0, none⟩ = some (.slice A0_0 l0_0.length c0_0) := (blk_cell BK164.out 0).trans rfl
                     have hcz35_1 : wr.cell? ⟨gb164, 1, none⟩ = some (.slice A0_1 l0_1.length c0_1) := (blk_cell BK164.out 1).trans rfl
                     have hcz35_2 : wr.cell? ⟨gb164, 2, none⟩ = some (.int .i64 a0_2) := (blk_cell BK164.out 2).trans rfl
                     have hcz35_3 : wr.cell? ⟨gb164, 3, none⟩ = some (.slice A0_3 l0_3.length c0_3) := (blk_cell BK164.out 3).trans rfl
                     have hfz35_0 := blk_frozen BK164.out 0
                     have hfz35_1 := blk_frozen BK164.out 1
                     have hfz35_2 := blk_frozen BK164.out 2
                     have hfz35_3 := blk_frozen BK164.out 3
                     have p169 : 0 ≤ (x8_2 : Int) := of_decide_eq_true (by first | (with_reducible assumption) | assumption)
                     have q169 : x8_2 < (l0_1.length : Int) := of_decide_eq_true (by first | (with_reducible assumption) | assumption)
                     obtain ⟨ad169, e169, hx169_0⟩ := Kd.at_string HR0_1.out x8_2 p169 q169
                     cases e169
                     replace hx169_0 := (HB.out.cell (World.block_lt_of_cell? w _ hx169_0)).trans hx169_0
                     replace p169 := eq_true p169
                     replace q169 := eq_true q169
                     go_wp2_with (first | ((with_reducible refine gate_callee (f := 61) rfl ?_); refine goesL_ (some 64) rfl rfl Tryd.func61 (by kernel_rfl) rfl #[.string (rdOf ByteArray.empty l0_1 x8_2)] rfl (by (try simp only [List.map_toArray, List.map_cons, List.map_nil]); first | done | rfl | (simp only [List.length_drop, List.length_take]; rfl)) ?_; (with_reducible refine (dovetailref05_free.calls k2 (rdOf ByteArray.empty l0_1 x8_2) false _ A29.out).mono ?_); rintro e w' ⟨rfl, ⟨nd, rfl⟩⟩; refine ⟨_, rfl, ?_⟩; have p172 : 0 ≤ (x8_2 : Int) := of_decide_eq_true (by first | (with_reducible assumption) | assumption); have q172 : x8_2 < (l0_1.length : Int) := of_decide_eq_true (by first | (with_reducible assumption) | assumption); obtain ⟨ad172, e172, hx172_0⟩ := Kd.at_string HR0_1.out x8_2 p172 q172; obtain rfl : ad169 = ad172 := (by injection e172); replace hx172_0 := (HB.out.cell (World.block_lt_of_cell? w _ hx172_0)).trans hx172_0; replace p172 := eq_true p172; replace q172 := eq_true q172) | ((with_reducible refine gate_callee (f := 62) rfl ?_); refine goesL_ (some 75) rfl rfl Tryd.func62 (by kernel_rfl) rfl #[.string (rdOf ByteArray.empty l0_1 x8_2)] rfl (by (try simp only [List.map_toArray, List.map_cons, List.map_nil]); first | done | rfl | (simp only [List.length_drop, List.length_take]; rfl)) ?_; (with_reducible refine (dovetailref02_Quote.calls k2 (rdOf ByteArray.empty l0_1 x8_2) t173 _ A32.out).mono ?_); rintro e w36 ⟨rfl, hb⟩; refine ⟨_, rfl, ?_⟩; have n0_ := Aside0.mk (blk_below (g := gb164) (o := .cells #[.slice A0_0 l0_0.length c0_0, .slice (some ad169) l0_1.length c0_1, .int .i64 a0_2, .slice A0_3 l0_3.length c0_3] 25 (0, 0)) (by (with_reducible repeat (first | refine blk_drewN ?_ _ | refine blk_drew ?_ | refine blk_alloc ?_ _)); exact BK164.out) hb); have n1_ := Aside0.mk (below_step (by repeat (first | (with_reducible first | exact HB.out | apply below_alloc | apply pw_below_drewN | apply below_drew1 | refine below_set ?_ GE164.out) | exact HB.out)) hb); clear BK164; clear HB; have BK164 := n0_; have HB := n1_; clear n0_ n1_; (try clear hb); (try clear hb2); (try clear hk); (try clear hi)))
                     go_ret
                     exact ⟨by first | rfl | (simp [errW_none, errW_some] <;> rfl) | (simp [*, errW_none, errW_some] <;> rfl), by repeat (first | (with_reducible first | exact HB.out | apply below_alloc | apply pw_below_drewN | apply below_drew1 | refine below_set ?_ GE164.out) | exact HB.out)⟩
                   · rw [if_neg c34] at H
                     exact absurd H (by simp)
                 · rw [if_neg c33] at H
                   exact absurd H (by simp)
             · rw [if_neg c28] at H
               exact absurd H (by simp)
           · rw [if_neg c27] at H
             have c27b0 : (a1 == (wrap64 ((-1) - x8_2))) = false := beq_eq_false_iff_ne.mpr c27
             have c27b1 : (a1 != (wrap64 ((-1) - x8_2))) = true := bne_iff_ne.mpr c27
             have H' := Aside0.mk H
             clear H
             have hcz37_0 : wr.cell? ⟨gb164, 0, none⟩ = some (.slice A0_0 l0_0.length c0_0) := (blk_cell BK164.out 0).trans rfl
             have hcz37_1 : wr.cell? ⟨gb164, 1, none⟩ = some (.slice A0_1 l0_1.length c0_1) := (blk_cell BK164.out 1).trans rfl
             have hcz37_2 : wr.cell? ⟨gb164, 2, none⟩ = some (.int .i64 a0_2) := (blk_cell BK164.out 2).trans rfl
             have hcz37_3 : wr.cell? ⟨gb164, 3, none⟩ = some (.slice A0_3 l0_3.length c0_3) := (blk_cell BK164.out 3).trans rfl
             have hfz37_0 := blk_frozen BK164.out 0
             have hfz37_1 := blk_frozen BK164.out 1
             have hfz37_2 := blk_frozen BK164.out 2
             have hfz37_3 := blk_frozen BK164.out 3
             go_wp2
             go_roundg k2
             case measure => have := HJ5.out; have := HK2.out; omega
             case rel => exact ⟨(wrap64 (x8_2 + 1)), (by first | rfl | (simp; done) | (simp [*]; done)), H', ⟨by have := HJ5.out; have := HK2.out; omega⟩, ⟨by (with_reducible repeat (first | refine blk_drewN ?_ _ | refine blk_drew ?_ | refine blk_alloc ?_ _)); exact BK164.out⟩, ⟨by repeat (first | (with_reducible first | exact HB.out | apply below_alloc | apply pw_below_drewN | apply below_drew1 | refine below_set ?_ GE164.out) | exact HB.out)⟩⟩
         · rw [if_neg c26] at H
           have c26b0 : decide (x8_2 < (l0_1.length : Int)) = false := decide_eq_false c26
           clear c26
           obtain rfl := Option.some.inj H
           have hcz38_0 : wr.cell? ⟨gb164, 0, none⟩ = some (.slice A0_0 l0_0.length c0_0) := (blk_cell BK164.out 0).trans rfl
           have hcz38_1 : wr.cell? ⟨gb164, 1, none⟩ = some (.slice A0_1 l0_1.length c0_1) := (blk_cell BK164.out 1).trans rfl
           have hcz38_2 : wr.cell? ⟨gb164, 2, none⟩ = some (.int .i64 a0_2) := (blk_cell BK164.out 2).trans rfl
           have hcz38_3 : wr.cell? ⟨gb164, 3, none⟩ = some (.slice A0_3 l0_3.length c0_3) := (blk_cell BK164.out 3).trans rfl
           have hfz38_0 := blk_frozen BK164.out 0
           have hfz38_1 := blk_frozen BK164.out 1
           have hfz38_2 := blk_frozen BK164.out 2
           have hfz38_3 := blk_frozen BK164.out 3
           go_wp2
           go_ret
           exact ⟨by first | rfl | (simp [errW_none, errW_some] <;> rfl) | (simp [*, errW_none, errW_some] <;> rfl), by repeat (first | (with_reducible first | exact HB.out | apply below_alloc | apply pw_below_drewN | apply below_drew1 | refine below_set ?_ GE164.out) | exact HB.out)⟩

end Go.Proofs.YthjhaogfpdkhbaaDoor.B
namespace Go.Proofs.YthjhaogfpdkhbaaDoor.B
open Go.RowKit Go.Proofs.YthjhaogfpdkhbaaDoorW.PrintWords Go.Proofs.YthjhaogfpdkhbaaDoorW.PrintLast Go.Proofs.YthjhaogfpdkhbaaDoorW.PrintMore
attribute [local go_sem] max2_int min2_int max_two min_two max_three min_three max_four min_four   -- for this text's walks alone
set_option linter.unusedVariables false
set_option linter.unusedSimpArgs false

mutual
def dovetailref03_named.l0 : Nat → List ByteArray → Int → Option (Bool)
 | 0, _, _ => none
 | k + 1, x0, x3 => if x3 < (x0.length : Int) then (if 0 ≤ x3 then (if ((rdOf ByteArray.empty x0 x3).size : Int) = 0 then (dovetailref03_named.j1 k x0 x3 true) else (dovetailref03_named.j1 k x0 x3 (decide (((rdOf ByteArray.empty x0 x3).size : Int) > 32)))) else (none)) else (some true)
def dovetailref03_named.j1 : Nat → List ByteArray → Int → Bool → Option (Bool)
 | 0, _, _, _ => none
 | k + 1, x0, x3, x24 => if x24 = true then (some false) else (dovetailref03_named.l1 k x0 x3 0)
def dovetailref03_named.l1 : Nat → List ByteArray → Int → Int → Option (Bool)
 | 0, _, _, _ => none
 | k + 1, x0, x3, x4 => if x4 < x3 then (if 0 ≤ x4 then (if x4 < (x0.length : Int) then (if 0 ≤ x3 then (if x3 < (x0.length : Int) then (if (rdOf ByteArray.empty x0 x4).toList = (rdOf ByteArray.empty x0 x3).toList then (some false) else (dovetailref03_named.l1 k x0 x3 (wrap64 (x4 + 1)))) else (none)) else (none)) else (none)) else (none)) else (dovetailref03_named.l0 k x0 (wrap64 (x3 + 1)))
end
def dovetailref03_named.f (k : Nat) (l0 : List ByteArray) : Option (Bool) := dovetailref03_named.l0 k l0 0
theorem dovetailref03_named.mono_l : ∀ k, (∀ y0 y1, LeO (dovetailref03_named.l0 k y0 y1) (dovetailref03_named.l0 (k + 1) y0 y1)) ∧ (∀ y0 y1 y2, LeO (dovetailref03_named.j1 k y0 y1 y2) (dovetailref03_named.j1 (k + 1) y0 y1 y2)) ∧ (∀ y0 y1 y2, LeO (dovetailref03_named.l1 k y0 y1 y2) (dovetailref03_named.l1 (k + 1) y0 y1 y2))
 | 0 => ⟨fun _ _ r h => by simp [dovetailref03_named.l0] at h, fun _ _ _ r h => by simp [dovetailref03_named.j1] at h, fun _ _ _ r h => by simp [dovetailref03_named.l1] at h⟩
 | k + 1 => by
  obtain ⟨ih0, ih1, ih2⟩ := dovetailref03_named.mono_l k
  refine ⟨?_, ?_, ?_⟩
  · intro y0 y1
    unfold dovetailref03_named.l0
    repeat' first
    | (with_reducible exact ih0 _ _)
    | (with_reducible exact ih1 _ _ _)
    | (with_reducible exact ih2 _ _ _)
    | (with_reducible exact LeO.refl _)
    | (with_reducible exact LeO.none _)
    | (with_reducible refine LeO.ite ?_ ?_)
    | (with_reducible refine LeO.bind ?_ (fun _ => ?_))
    | exact ih0 _ _
    | exact ih1 _ _ _
    | exact ih2 _ _ _
    | exact LeO.none _
    | refine LeO.ite ?_ ?_
    | refine LeO.bind ?_ (fun _ => ?_)
  · intro y0 y1 y2
    unfold dovetailref03_named.j1
    repeat' first
    | (with_reducible exact ih0 _ _)
    | (with_reducible exact ih1 _ _ _)
    | (with_reducible exact ih2 _ _ _)
    | (with_reducible exact LeO.refl _)
    | (with_reducible exact LeO.none _)
    | (with_reducible refine LeO.ite ?_ ?_)
    | (with_reducible refine LeO.bind ?_ (fun _ => ?_))
    | exact ih0 _ _
    | exact ih1 _ _ _
    | exact ih2 _ _ _
    | exact LeO.none _
    | refine LeO.ite ?_ ?_
    | refine LeO.bind ?_ (fun _ => ?_)
  · intro y0 y1 y2
    unfold dovetailref03_named.l1
    repeat' first
    | (with_reducible exact ih0 _ _)
    | (with_reducible exact ih1 _ _ _)
    | (with_reducible exact ih2 _ _ _)
    | (with_reducible exact LeO.refl _)
    | (with_reducible exact LeO.none _)
    | (with_reducible refine LeO.ite ?_ ?_)
    | (with_reducible refine LeO.bind ?_ (fun _ => ?_))
    | exact ih0 _ _
    | exact ih1 _ _ _
    | exact ih2 _ _ _
    | exact LeO.none _
    | refine LeO.ite ?_ ?_
    | refine LeO.bind ?_ (fun _ => ?_)
theorem dovetailref03_named.mono : ∀ a0 k, LeO (dovetailref03_named.f k a0) (dovetailref03_named.f (k + 1) a0) := by
 intro a0 k
 obtain ⟨ih0, ih1, ih2⟩ := dovetailref03_named.mono_l k
 unfold dovetailref03_named.f
 repeat' first
  | (with_reducible exact ih0 _ _)
  | (with_reducible exact ih1 _ _ _)
  | (with_reducible exact ih2 _ _ _)
  | (with_reducible exact LeO.refl _)
  | (with_reducible exact LeO.none _)
  | (with_reducible refine LeO.ite ?_ ?_)
  | (with_reducible refine LeO.bind ?_ (fun _ => ?_))
  | exact ih0 _ _
  | exact ih1 _ _ _
  | exact ih2 _ _ _
  | exact LeO.none _
  | refine LeO.ite ?_ ?_
  | refine LeO.bind ?_ (fun _ => ?_)
set_option maxHeartbeats 8000000 in
set_option maxRecDepth 100000 in
theorem dovetailref03_named.calls (k : Nat) (A0 : Option Addr) (c0 : Nat) (l0 : List ByteArray) (r : Bool) (w : World) (hr0 : Kd.C Kd.string w A0 l0.length l0) (hc0 : l0.length ≤ c0) (h : dovetailref03_named.f k l0 = some r) :
 Calls Tryd.prog 84 #[.slice A0 l0.length c0] w fun e w' => e = .returned (.bool r) ∧ Drawn0 w w' := by
 have HR0 := Aside0.mk hr0
 have HC0 := Aside0.mk hc0
 clear hr0 hc0
 have H : (dovetailref03_named.l0 k l0 0) = some r := h
 clear h
 have H' := Aside0.mk H
 clear H
 go_enter Tryd.func84, Tryd.ntmps84
 go_wp2
 repeat (go_quiet (fail); try go_wp2)
 go_loopg [3] k (fun kq v3 w' => ∃ (x3_1 : Int), v3 = .int .i64 x3_1 ∧ Aside0 (dovetailref03_named.l0 kq l0 x3_1 = some r) ∧ Aside0 (kq ≤ k) ∧ Drawn0 w w')
 case atStart => exact ⟨(0), (by first | rfl | (simp; done) | (simp [*]; done)), H', ⟨Nat.le_refl _⟩, by repeat (first | exact Drawn0.refl _ | apply Drawn0.step)⟩
 case round =>
  clear H'
  obtain ⟨x3_1, rfl, HA, HK1, ⟨m1, rfl⟩⟩ := hrel
  cases gk with
  | zero => exact absurd HA.out (by simp [dovetailref03_named.l0])
  | succ k1 =>
   have H := HA.out
   clear HA
   simp only [dovetailref03_named.l0] at H
   by_cases c2 : x3_1 < (l0.length : Int)
   · rw [if_pos c2] at H
     have c2b0 : decide (x3_1 < (l0.length : Int)) = true := decide_eq_true c2
     clear c2
     have HC3 := Aside0.mk H
     clear H
     go_upto_region 4 with (fail)
     repeat (go_quiet (fail); go_upto_region 4 with (fail))
     go_cut [24] (fun v24 wc => ∃ (kq : Nat) (x24_2 : Bool), v24 = .bool x24_2 ∧ Aside0 (dovetailref03_named.j1 kq l0 x3_1 x24_2 = some r) ∧ Aside0 (kq ≤ k1) ∧ Drawn0 w wc)
     case first =>
      have H := HC3.out
      clear HC3
      by_cases c4 : 0 ≤ x3_1
      · rw [if_pos c4] at H
        have c4b0 : decide (0 ≤ x3_1) = true := decide_eq_true c4
        clear c4
        (first | rw [c4b0] | (simp only [i64_w, i32_w]; rw [c4b0]) | skip)
        by_cases c5 : ((rdOf ByteArray.empty l0 x3_1).size : Int) = 0
        · rw [if_pos c5] at H
          have c5b0 : (((rdOf ByteArray.empty l0 x3_1).size : Int) == 0) = true := beq_iff_eq.mpr c5
          have c5b1 : (((rdOf ByteArray.empty l0 x3_1).size : Int) != 0) = false := bne_eq_false_iff_eq.mpr c5
          clear c5
          have H' := Aside0.mk H
          clear H
          have p188 : 0 ≤ (x3_1 : Int) := of_decide_eq_true (by first | (with_reducible assumption) | assumption)
          have q188 : x3_1 < (l0.length : Int) := of_decide_eq_true (by first | (with_reducible assumption) | assumption)
          obtain ⟨ad188, e188, hx188_0⟩ := Kd.at_string HR0.out x3_1 p188 q188
          cases e188
          replace p188 := eq_true p188
          replace q188 := eq_true q188
          go_wp2
          repeat (go_quiet (fail); try go_wp2)
          go_meet
          case rel => exact ⟨_, (true), (by first | rfl | (simp; done) | (simp [*]; done)), H', ⟨by have := HK1.out; first | omega | exact Nat.le_refl _⟩, by repeat (first | exact Drawn0.refl _ | apply Drawn0.step)⟩
        · rw [if_neg c5] at H
          have c5b0 : (((rdOf ByteArray.empty l0 x3_1).size : Int) == 0) = false := beq_eq_false_iff_ne.mpr c5
          have c5b1 : (((rdOf ByteArray.empty l0 x3_1).size : Int) != 0) = true := bne_iff_ne.mpr c5
          have H' := Aside0.mk H
          clear H
          have p188 : 0 ≤ (x3_1 : Int) := of_decide_eq_true (by first | (with_reducible assumption) | assumption)
          have q188 : x3_1 < (l0.length : Int) := of_decide_eq_true (by first | (with_reducible assumption) | assumption)
          obtain ⟨ad188, e188, hx188_0⟩ := Kd.at_string HR0.out x3_1 p188 q188
          cases e188
          replace p188 := eq_true p188
          replace q188 := eq_true q188
          have p189 : 0 ≤ (x3_1 : Int) := of_decide_eq_true (by first | (with_reducible assumption) | assumption)
          have q189 : x3_1 < (l0.length : Int) := of_decide_eq_true (by first | (with_reducible assumption) | assumption)
          obtain ⟨ad189, e189, hx189_0⟩ := Kd.at_string HR0.out x3_1 p189 q189
          obtain rfl : ad188 = ad189 := (by injection e189)
          replace p189 := eq_true p189
          replace q189 := eq_true q189
          go_wp2
          repeat (go_quiet (fail); try go_wp2)
          go_meet
          case rel => exact ⟨_, (decide (((rdOf ByteArray.empty l0 x3_1).size : Int) > 32)), (by first | rfl | (simp; done) | (simp [*]; done)), H', ⟨by have := HK1.out; first | omega | exact Nat.le_refl _⟩, by repeat (first | exact Drawn0.refl _ | apply Drawn0.step)⟩
      · rw [if_neg c4] at H
        exact absurd H (by simp)
     case rest =>
      clear HC3
      try clear p1
      try clear q1
      try clear hx1
      try clear c2
      try clear c2b0
      try clear p2
      try clear c4
      try clear c4b0
      try clear c5
      try clear c5b0
      try clear c5b1
      try clear hx188_0
      try clear hx189_0
      try clear p188
      try clear p189
      try clear q188
      try clear q189
      obtain ⟨kq, x24_2, rfl, HA, HJ2, ⟨mc2, rfl⟩⟩ := hcut
      cases kq with
      | zero => exact absurd HA.out (by simp [dovetailref03_named.j1])
      | succ kj2 =>
       have H := HA.out
       clear HA
       simp only [dovetailref03_named.j1] at H
       by_cases c6 : x24_2 = true
       · subst c6
         have H1 : (some false) = some r := by rw [if_pos rfl] at H; exact H
         clear H
         have H := H1
         clear H1
         obtain rfl := Option.some.inj H
         go_wp2
         repeat (go_quiet (fail); try go_wp2)
         go_ret
         exact ⟨by first | rfl | (simp; done) | (simp [*]; done), by repeat (first | exact Drawn0.refl _ | apply Drawn0.step)⟩
       · replace c6 := Bool.eq_false_iff.mpr c6
         subst c6
         have H1 : (dovetailref03_named.l1 kj2 l0 x3_1 0) = some r := by rw [if_neg (show ¬ (false = true) by decide)] at H; exact H
         clear H
         have H := H1
         clear H1
         have H' := Aside0.mk H
         clear H
         go_wp2
         repeat (go_quiet (fail); try go_wp2)
         go_loopg [4] kj2 (fun kq v4 w' => ∃ (x4_3 : Int), v4 = .int .i64 x4_3 ∧ Aside0 (dovetailref03_named.l1 kq l0 x3_1 x4_3 = some r) ∧ Aside0 (kq ≤ kj2) ∧ Drawn0 w w')
         case atStart => exact ⟨(0), (by first | rfl | (simp; done) | (simp [*]; done)), H', ⟨Nat.le_refl _⟩, by repeat (first | exact Drawn0.refl _ | apply Drawn0.step)⟩
         case round =>
          clear H'
          try clear p1
          try clear q1
          try clear hx1
          try clear c2
          try clear c2b0
          try clear p2
          try clear c4
          try clear c4b0
          try clear c5
          try clear c5b0
          try clear c5b1
          try clear c6
          try clear hx188_0
          try clear hx189_0
          try clear p1
          try clear p188
          try clear p189
          try clear p2
          try clear q1
          try clear q188
          try clear q189
          obtain ⟨x4_3, rfl, HA, HK3, ⟨m3, rfl⟩⟩ := hrel
          cases gk with
          | zero => exact absurd HA.out (by simp [dovetailref03_named.l1])
          | succ k3 =>
           have H := HA.out
           clear HA
           simp only [dovetailref03_named.l1] at H
           by_cases c7 : x4_3 < x3_1
           · rw [if_pos c7] at H
             have c7b0 : decide (x4_3 < x3_1) = true := decide_eq_true c7
             clear c7
             by_cases c8 : 0 ≤ x4_3
             · rw [if_pos c8] at H
               have c8b0 : decide (0 ≤ x4_3) = true := decide_eq_true c8
               clear c8
               by_cases c9 : x4_3 < (l0.length : Int)
               · rw [if_pos c9] at H
                 have c9b0 : decide (x4_3 < (l0.length : Int)) = true := decide_eq_true c9
                 clear c9
                 by_cases c10 : 0 ≤ x3_1
                 · rw [if_pos c10] at H
                   have c10b0 : decide (0 ≤ x3_1) = true := decide_eq_true c10
                   clear c10
                   by_cases c11 : x3_1 < (l0.length : Int)
                   · rw [if_pos c11] at H
                     have c11b0 : decide (x3_1 < (l0.length : Int)) = true := decide_eq_true c11
                     clear c11
                     by_cases c12 : (rdOf ByteArray.empty l0 x4_3).toList = (rdOf ByteArray.empty l0 x3_1).toList
                     · rw [if_pos c12] at H
                       have c12b0 : ((rdOf ByteArray.empty l0 x4_3).toList == (rdOf ByteArray.empty l0 x3_1).toList) = true := beq_iff_eq.mpr c12
                       have c12b1 : ((rdOf ByteArray.empty l0 x4_3).toList != (rdOf ByteArray.empty l0 x3_1).toList) = false := bne_eq_false_iff_eq.mpr c12
                       clear c12
                       obtain rfl := Option.some.inj H
                       have p190 : 0 ≤ (x4_3 : Int) := of_decide_eq_true (by first | (with_reducible assumption) | assumption)
                       have q190 : x4_3 < (l0.length : Int) := of_decide_eq_true (by first | (with_reducible assumption) | assumption)
                       obtain ⟨ad190, e190, hx190_0⟩ := Kd.at_string HR0.out x4_3 p190 q190
                       cases e190
                       replace p190 := eq_true p190
                       replace q190 := eq_true q190
                       have p191 : 0 ≤ (x3_1 : Int) := of_decide_eq_true (by first | (with_reducible assumption) | assumption)
                       have q191 : x3_1 < (l0.length : Int) := of_decide_eq_true (by first | (with_reducible assumption) | assumption)
                       obtain ⟨ad191, e191, hx191_0⟩ := Kd.at_string HR0.out x3_1 p191 q191
                       obtain rfl : ad190 = ad191 := (by injection e191)
                       replace p191 := eq_true p191
                       replace q191 := eq_true q191
                       go_wp2
                       repeat (go_quiet (fail); try go_wp2)
                       go_ret
                       exact ⟨by first | rfl | (simp; done) | (simp [*]; done), by repeat (first | exact Drawn0.refl _ | apply Drawn0.step)⟩
                     · rw [if_neg c12] at H
                       have c12b0 : ((rdOf ByteArray.empty l0 x4_3).toList == (rdOf ByteArray.empty l0 x3_1).toList) = false := beq_eq_false_iff_ne.mpr c12
                       have c12b1 : ((rdOf ByteArray.empty l0 x4_3).toList != (rdOf ByteArray.empty l0 x3_1).toList) = true := bne_iff_ne.mpr c12
                       have H' := Aside0.mk H
                       clear H
                       have p190 : 0 ≤ (x4_3 : Int) := of_decide_eq_true (by first | (with_reducible assumption) | assumption)
                       have q190 : x4_3 < (l0.length : Int) := of_decide_eq_true (by first | (with_reducible assumption) | assumption)
                       obtain ⟨ad190, e190, hx190_0⟩ := Kd.at_string HR0.out x4_3 p190 q190
                       cases e190
                       replace p190 := eq_true p190
                       replace q190 := eq_true q190
                       have p191 : 0 ≤ (x3_1 : Int) := of_decide_eq_true (by first | (with_reducible assumption) | assumption)
                       have q191 : x3_1 < (l0.length : Int) := of_decide_eq_true (by first | (with_reducible assumption) | assumption)
                       obtain ⟨ad191, e191, hx191_0⟩ := Kd.at_string HR0.out x3_1 p191 q191
                       obtain rfl : ad190 = ad191 := (by injection e191)
                       replace p191 := eq_true p191
                       replace q191 := eq_true q191
                       go_wp2
                       repeat (go_quiet (fail); try go_wp2)
                       go_roundg k3
                       case measure => have := HK1.out; have := HJ2.out; have := HK3.out; omega
                       case rel => exact ⟨(wrap64 (x4_3 + 1)), (by first | rfl | (simp; done) | (simp [*]; done)), H', ⟨by have := HK1.out; have := HJ2.out; have := HK3.out; omega⟩, by repeat (first | exact Drawn0.refl _ | apply Drawn0.step)⟩
                   · rw [if_neg c11] at H
                     exact absurd H (by simp)
                 · rw [if_neg c10] at H
                   exact absurd H (by simp)
               · rw [if_neg c9] at H
                 exact absurd H (by simp)
             · rw [if_neg c8] at H
               exact absurd H (by simp)
           · rw [if_neg c7] at H
             have c7b0 : decide (x4_3 < x3_1) = false := decide_eq_false c7
             clear c7
             have H' := Aside0.mk H
             clear H
             go_wp2
             repeat (go_quiet (fail); try go_wp2)
             go_roundg k3
             case measure => have := HK1.out; have := HJ2.out; have := HK3.out; omega
             case rel => exact ⟨(wrap64 (x3_1 + 1)), (by first | rfl | (simp; done) | (simp [*]; done)), H', ⟨by have := HK1.out; have := HJ2.out; have := HK3.out; omega⟩, by repeat (first | exact Drawn0.refl _ | apply Drawn0.step)⟩
   · rw [if_neg c2] at H
     have c2b0 : decide (x3_1 < (l0.length : Int)) = false := decide_eq_false c2
     clear c2
     obtain rfl := Option.some.inj H
     go_wp2
     repeat (go_quiet (fail); try go_wp2)
     go_ret
     exact ⟨by first | rfl | (simp; done) | (simp [*]; done), by repeat (first | exact Drawn0.refl _ | apply Drawn0.step)⟩

end Go.Proofs.YthjhaogfpdkhbaaDoor.B
namespace Go.Proofs.YthjhaogfpdkhbaaDoor.B
open Go.RowKit Go.Proofs.YthjhaogfpdkhbaaDoorW.PrintWords Go.Proofs.YthjhaogfpdkhbaaDoorW.PrintLast Go.Proofs.YthjhaogfpdkhbaaDoorW.PrintMore
attribute [local go_sem] max2_int min2_int max_two min_two max_three min_three max_four min_four   -- for this text's walks alone
set_option linter.unusedVariables false
set_option linter.unusedSimpArgs false

mutual
def dovetailref03_Check.j0 : Nat → Int → Int → Bool → List ByteArray → List ByteArray → Int → List (S52) → Option (Int × Int)
 | 0, _, _, _, _, _, _, _ => none
 | k + 1, x4, x5, x32, x193000, x193001, x193002, x193003 => if x32 = true then (some (3, (-1))) else ((dovetailref03_named.f k x193000).bind fun t193 => (if t193 = true then ((dovetailref03_named.f k x193001).bind fun t194 => (dovetailref03_Check.j1 k x4 x5 (!t194) x193000 x193001 x193002 x193003)) else (dovetailref03_Check.j1 k x4 x5 true x193000 x193001 x193002 x193003)))
def dovetailref03_Check.j1 : Nat → Int → Int → Bool → List ByteArray → List ByteArray → Int → List (S52) → Option (Int × Int)
 | 0, _, _, _, _, _, _, _ => none
 | k + 1, x4, x5, x42, x193000, x193001, x193002, x193003 => if x42 = true then (some (10, (-1))) else (if x5 = 0 then (dovetailref03_Check.j2 k x4 x5 true x193000 x193001 x193002 x193003) else (if x193002 < 0 then (dovetailref03_Check.j2 k x4 x5 true x193000 x193001 x193002 x193003) else (dovetailref03_Check.j2 k x4 x5 (decide (x193002 ≥ x5)) x193000 x193001 x193002 x193003)))
def dovetailref03_Check.j2 : Nat → Int → Int → Bool → List ByteArray → List ByteArray → Int → List (S52) → Option (Int × Int)
 | 0, _, _, _, _, _, _, _ => none
 | k + 1, x4, x5, x55, x193000, x193001, x193002, x193003 => if x55 = true then (some (1, (-1))) else (dovetailref03_Check.l0 k x4 x5 0 x193000 x193001 x193002 x193003)
def dovetailref03_Check.l0 : Nat → Int → Int → Int → List ByteArray → List ByteArray → Int → List (S52) → Option (Int × Int)
 | 0, _, _, _, _, _, _, _ => none
 | k + 1, x4, x5, x6, x193000, x193001, x193002, x193003 => if x6 < (x193003.length : Int) then (if 0 ≤ x6 then (if (((rd_T52 x193003 x6).f1).length : Int) > 32 then (some (3, x6)) else (if ((rd_T52 x193003 x6).f0) < 0 then (dovetailref03_Check.j4 k x4 x5 x6 true x193000 x193001 x193002 x193003 ((rd_T52 x193003 x6).f0) ((rd_T52 x193003 x6).f1)) else (dovetailref03_Check.j4 k x4 x5 x6 (decide (((rd_T52 x193003 x6).f0) ≥ x5)) x193000 x193001 x193002 x193003 ((rd_T52 x193003 x6).f0) ((rd_T52 x193003 x6).f1)))) else (none)) else (some (0, (-1)))
def dovetailref03_Check.j4 : Nat → Int → Int → Int → Bool → List ByteArray → List ByteArray → Int → List (S52) → Int → List Int → Option (Int × Int)
 | 0, _, _, _, _, _, _, _, _, _, _ => none
 | k + 1, x4, x5, x6, x81, x193000, x193001, x193002, x193003, x197000, x197001 => if x81 = true then (some (1, x6)) else (dovetailref03_Check.l1 k x4 x5 x6 0 x193000 x193001 x193002 x193003 x197000 x197001)
def dovetailref03_Check.l1 : Nat → Int → Int → Int → Int → List ByteArray → List ByteArray → Int → List (S52) → Int → List Int → Option (Int × Int)
 | 0, _, _, _, _, _, _, _, _, _, _ => none
 | k + 1, x4, x5, x6, x8, x193000, x193001, x193002, x193003, x197000, x197001 => if x8 < (x197001.length : Int) then (if 0 ≤ x8 then (if (rd x197001 x8) ≥ x4 then (some (1, x6)) else (if (rd x197001 x8) < (wrap64 (-x5)) then (some (1, x6)) else (dovetailref03_Check.l1 k x4 x5 x6 (wrap64 (x8 + 1)) x193000 x193001 x193002 x193003 x197000 x197001))) else (none)) else (dovetailref03_Check.l0 k x4 x5 (wrap64 (x6 + 1)) x193000 x193001 x193002 x193003)
end
def dovetailref03_Check.f (k : Nat) (l0_0 : List ByteArray) (l0_1 : List ByteArray) (a0_2 : Int) (l0_3 : List (S52)) : Option (Int × Int) := if (l0_0.length : Int) > 60 then (dovetailref03_Check.j0 k (l0_0.length : Int) (l0_1.length : Int) true l0_0 l0_1 a0_2 l0_3) else (if (l0_1.length : Int) > 60 then (dovetailref03_Check.j0 k (l0_0.length : Int) (l0_1.length : Int) true l0_0 l0_1 a0_2 l0_3) else (if (wrap64 ((l0_0.length : Int) + (l0_1.length : Int))) > 60 then (dovetailref03_Check.j0 k (l0_0.length : Int) (l0_1.length : Int) true l0_0 l0_1 a0_2 l0_3) else (dovetailref03_Check.j0 k (l0_0.length : Int) (l0_1.length : Int) (decide ((l0_3.length : Int) > 120)) l0_0 l0_1 a0_2 l0_3)))
theorem dovetailref03_Check.mono_l : ∀ k, (∀ y0 y1 y2 y3 y4 y5 y6, LeO (dovetailref03_Check.j0 k y0 y1 y2 y3 y4 y5 y6) (dovetailref03_Check.j0 (k + 1) y0 y1 y2 y3 y4 y5 y6)) ∧ (∀ y0 y1 y2 y3 y4 y5 y6, LeO (dovetailref03_Check.j1 k y0 y1 y2 y3 y4 y5 y6) (dovetailref03_Check.j1 (k + 1) y0 y1 y2 y3 y4 y5 y6)) ∧ (∀ y0 y1 y2 y3 y4 y5 y6, LeO (dovetailref03_Check.j2 k y0 y1 y2 y3 y4 y5 y6) (dovetailref03_Check.j2 (k + 1) y0 y1 y2 y3 y4 y5 y6)) ∧ (∀ y0 y1 y2 y3 y4 y5 y6, LeO (dovetailref03_Check.l0 k y0 y1 y2 y3 y4 y5 y6) (dovetailref03_Check.l0 (k + 1) y0 y1 y2 y3 y4 y5 y6)) ∧ (∀ y0 y1 y2 y3 y4 y5 y6 y7 y8 y9, LeO (dovetailref03_Check.j4 k y0 y1 y2 y3 y4 y5 y6 y7 y8 y9) (dovetailref03_Check.j4 (k + 1) y0 y1 y2 y3 y4 y5 y6 y7 y8 y9)) ∧ (∀ y0 y1 y2 y3 y4 y5 y6 y7 y8 y9, LeO (dovetailref03_Check.l1 k y0 y1 y2 y3 y4 y5 y6 y7 y8 y9) (dovetailref03_Check.l1 (k + 1) y0 y1 y2 y3 y4 y5 y6 y7 y8 y9))
 | 0 => ⟨fun _ _ _ _ _ _ _ r h => by simp [dovetailref03_Check.j0] at h, fun _ _ _ _ _ _ _ r h => by simp [dovetailref03_Check.j1] at h, fun _ _ _ _ _ _ _ r h => by simp [dovetailref03_Check.j2] at h, fun _ _ _ _ _ _ _ r h => by simp [dovetailref03_Check.l0] at h, fun _ _ _ _ _ _ _ _ _ _ r h => by simp [dovetailref03_Check.j4] at h, fun _ _ _ _ _ _ _ _ _ _ r h => by simp [dovetailref03_Check.l1] at h⟩
 | k + 1 => by
  obtain ⟨ih0, ih1, ih2, ih3, ih4, ih5⟩ := dovetailref03_Check.mono_l k
  refine ⟨?_, ?_, ?_, ?_, ?_, ?_⟩
  · intro y0 y1 y2 y3 y4 y5 y6
    unfold dovetailref03_Check.j0
    repeat' first
    | (with_reducible exact ih0 _ _ _ _ _ _ _)
    | (with_reducible exact ih1 _ _ _ _ _ _ _)
    | (with_reducible exact ih2 _ _ _ _ _ _ _)
    | (with_reducible exact ih3 _ _ _ _ _ _ _)
    | (with_reducible exact ih4 _ _ _ _ _ _ _ _ _ _)
    | (with_reducible exact ih5 _ _ _ _ _ _ _ _ _ _)
    | (with_reducible exact dovetailref03_named.mono _ _)
    | (with_reducible exact LeO.refl _)
    | (with_reducible exact LeO.none _)
    | (with_reducible refine LeO.ite ?_ ?_)
    | (with_reducible refine LeO.bind ?_ (fun _ => ?_))
    | exact ih0 _ _ _ _ _ _ _
    | exact ih1 _ _ _ _ _ _ _
    | exact ih2 _ _ _ _ _ _ _
    | exact ih3 _ _ _ _ _ _ _
    | exact ih4 _ _ _ _ _ _ _ _ _ _
    | exact ih5 _ _ _ _ _ _ _ _ _ _
    | exact dovetailref03_named.mono _ _
    | exact LeO.none _
    | refine LeO.ite ?_ ?_
    | refine LeO.bind ?_ (fun _ => ?_)
  · intro y0 y1 y2 y3 y4 y5 y6
    unfold dovetailref03_Check.j1
    repeat' first
    | (with_reducible exact ih0 _ _ _ _ _ _ _)
    | (with_reducible exact ih1 _ _ _ _ _ _ _)
    | (with_reducible exact ih2 _ _ _ _ _ _ _)
    | (with_reducible exact ih3 _ _ _ _ _ _ _)
    | (with_reducible exact ih4 _ _ _ _ _ _ _ _ _ _)
    | (with_reducible exact ih5 _ _ _ _ _ _ _ _ _ _)
    | (with_reducible exact dovetailref03_named.mono _ _)
    | (with_reducible exact LeO.refl _)
    | (with_reducible exact LeO.none _)
    | (with_reducible refine LeO.ite ?_ ?_)
    | (with_reducible refine LeO.bind ?_ (fun _ => ?_))
    | exact ih0 _ _ _ _ _ _ _
    | exact ih1 _ _ _ _ _ _ _
    | exact ih2 _ _ _ _ _ _ _
    | exact ih3 _ _ _ _ _ _ _
    | exact ih4 _ _ _ _ _ _ _ _ _ _
    | exact ih5 _ _ _ _ _ _ _ _ _ _
    | exact dovetailref03_named.mono _ _
    | exact LeO.none _
    | refine LeO.ite ?_ ?_
    | refine LeO.bind ?_ (fun _ => ?_)
  · intro y0 y1 y2 y3 y4 y5 y6
    unfold dovetailref03_Check.j2
    repeat' first
    | (with_reducible exact ih0 _ _ _ _ _ _ _)
    | (with_reducible exact ih1 _ _ _ _ _ _ _)
    | (with_reducible exact ih2 _ _ _ _ _ _ _)
    | (with_reducible exact ih3 _ _ _ _ _ _ _)
    | (with_reducible exact ih4 _ _ _ _ _ _ _ _ _ _)
    | (with_reducible exact ih5 _ _ _ _ _ _ _ _ _ _)
    | (with_reducible exact dovetailref03_named.mono _ _)
    | (with_reducible exact LeO.refl _)
    | (with_reducible exact LeO.none _)
    | (with_reducible refine LeO.ite ?_ ?_)
    | (with_reducible refine LeO.bind ?_ (fun _ => ?_))
    | exact ih0 _ _ _ _ _ _ _
    | exact ih1 _ _ _ _ _ _ _
    | exact ih2 _ _ _ _ _ _ _
    | exact ih3 _ _ _ _ _ _ _
    | exact ih4 _ _ _ _ _ _ _ _ _ _
    | exact ih5 _ _ _ _ _ _ _ _ _ _
    | exact dovetailref03_named.mono _ _
    | exact LeO.none _
    | refine LeO.ite ?_ ?_
    | refine LeO.bind ?_ (fun _ => ?_)
  · intro y0 y1 y2 y3 y4 y5 y6
    unfold dovetailref03_Check.l0
    repeat' first
    | (with_reducible exact ih0 _ _ _ _ _ _ _)
    | (with_reducible exact ih1 _ _ _ _ _ _ _)
    | (with_reducible exact ih2 _ _ _ _ _ _ _)
    | (with_reducible exact ih3 _ _ _ _ _ _ _)
    | (with_reducible exact ih4 _ _ _ _ _ _ _ _ _ _)
    | (with_reducible exact ih5 _ _ _ _ _ _ _ _ _ _)
    | (with_reducible exact dovetailref03_named.mono _ _)
    | (with_reducible exact LeO.refl _)
    | (with_reducible exact LeO.none _)
    | (with_reducible refine LeO.ite ?_ ?_)
    | (with_reducible refine LeO.bind ?_ (fun _ => ?_))
    | exact ih0 _ _ _ _ _ _ _
    | exact ih1 _ _ _ _ _ _ _
    | exact ih2 _ _ _ _ _ _ _
    | exact ih3 _ _ _ _ _ _ _
    | exact ih4 _ _ _ _ _ _ _ _ _ _
    | exact ih5 _ _ _ _ _ _ _ _ _ _
    | exact dovetailref03_named.mono _ _
    | exact LeO.none _
    | refine LeO.ite ?_ ?_
    | refine LeO.bind ?_ (fun _ => ?_)
  · intro y0 y1 y2 y3 y4 y5 y6 y7 y8 y9
    unfold dovetailref03_Check.j4
    repeat' first
    | (with_reducible exact ih0 _ _ _ _ _ _ _)
    | (with_reducible exact ih1 _ _ _ _ _ _ _)
    | (with_reducible exact ih2 _ _ _ _ _ _ _)
    | (with_reducible exact ih3 _ _ _ _ _ _ _)
    | (with_reducible exact ih4 _ _ _ _ _ _ _ _ _ _)
    | (with_reducible exact ih5 _ _ _ _ _ _ _ _ _ _)
    | (with_reducible exact dovetailref03_named.mono _ _)
    | (with_reducible exact LeO.refl _)
    | (with_reducible exact LeO.none _)
    | (with_reducible refine LeO.ite ?_ ?_)
    | (with_reducible refine LeO.bind ?_ (fun _ => ?_))
    | exact ih0 _ _ _ _ _ _ _
    | exact ih1 _ _ _ _ _ _ _
    | exact ih2 _ _ _ _ _ _ _
    | exact ih3 _ _ _ _ _ _ _
    | exact ih4 _ _ _ _ _ _ _ _ _ _
    | exact ih5 _ _ _ _ _ _ _ _ _ _
    | exact dovetailref03_named.mono _ _
    | exact LeO.none _
    | refine LeO.ite ?_ ?_
    | refine LeO.bind ?_ (fun _ => ?_)
  · intro y0 y1 y2 y3 y4 y5 y6 y7 y8 y9
    unfold dovetailref03_Check.l1
    repeat' first
    | (with_reducible exact ih0 _ _ _ _ _ _ _)
    | (with_reducible exact ih1 _ _ _ _ _ _ _)
    | (with_reducible exact ih2 _ _ _ _ _ _ _)
    | (with_reducible exact ih3 _ _ _ _ _ _ _)
    | (with_reducible exact ih4 _ _ _ _ _ _ _ _ _ _)
    | (with_reducible exact ih5 _ _ _ _ _ _ _ _ _ _)
    | (with_reducible exact dovetailref03_named.mono _ _)
    | (with_reducible exact LeO.refl _)
    | (with_reducible exact LeO.none _)
    | (with_reducible refine LeO.ite ?_ ?_)
    | (with_reducible refine LeO.bind ?_ (fun _ => ?_))
    | exact ih0 _ _ _ _ _ _ _
    | exact ih1 _ _ _ _ _ _ _
    | exact ih2 _ _ _ _ _ _ _
    | exact ih3 _ _ _ _ _ _ _
    | exact ih4 _ _ _ _ _ _ _ _ _ _
    | exact ih5 _ _ _ _ _ _ _ _ _ _
    | exact dovetailref03_named.mono _ _
    | exact LeO.none _
    | refine LeO.ite ?_ ?_
    | refine LeO.bind ?_ (fun _ => ?_)
theorem dovetailref03_Check.mono : ∀ a0 a1 a2 a3 k, LeO (dovetailref03_Check.f k a0 a1 a2 a3) (dovetailref03_Check.f (k + 1) a0 a1 a2 a3) := by
 intro a0 a1 a2 a3 k
 obtain ⟨ih0, ih1, ih2, ih3, ih4, ih5⟩ := dovetailref03_Check.mono_l k
 unfold dovetailref03_Check.f
 repeat' first
  | (with_reducible exact ih0 _ _ _ _ _ _ _)
  | (with_reducible exact ih1 _ _ _ _ _ _ _)
  | (with_reducible exact ih2 _ _ _ _ _ _ _)
  | (with_reducible exact ih3 _ _ _ _ _ _ _)
  | (with_reducible exact ih4 _ _ _ _ _ _ _ _ _ _)
  | (with_reducible exact ih5 _ _ _ _ _ _ _ _ _ _)
  | (with_reducible exact dovetailref03_named.mono _ _)
  | (with_reducible exact LeO.refl _)
  | (with_reducible exact LeO.none _)
  | (with_reducible refine LeO.ite ?_ ?_)
  | (with_reducible refine LeO.bind ?_ (fun _ => ?_))
  | exact ih0 _ _ _ _ _ _ _
  | exact ih1 _ _ _ _ _ _ _
  | exact ih2 _ _ _ _ _ _ _
  | exact ih3 _ _ _ _ _ _ _
  | exact ih4 _ _ _ _ _ _ _ _ _ _
  | exact ih5 _ _ _ _ _ _ _ _ _ _
  | exact dovetailref03_named.mono _ _
  | exact LeO.none _
  | refine LeO.ite ?_ ?_
  | refine LeO.bind ?_ (fun _ => ?_)
set_option maxHeartbeats 8000000 in
set_option maxRecDepth 100000 in
theorem dovetailref03_Check.calls (k : Nat) (A0_0 : Option Addr) (c0_0 : Nat) (l0_0 : List ByteArray) (A0_1 : Option Addr) (c0_1 : Nat) (l0_1 : List ByteArray) (a0_2 : Int) (A0_3 : Option Addr) (c0_3 : Nat) (l0_3 : List (S52)) (r1 : Int) (r2 : Int) (w : World) (hr0_0 : Kd.C Kd.string w A0_0 l0_0.length l0_0) (hc0_0 : l0_0.length ≤ c0_0) (hr0_1 : Kd.C Kd.string w A0_1 l0_1.length l0_1) (hc0_1 : l0_1.length ≤ c0_1) (hr0_3 : Kd.C k52 w A0_3 l0_3.length l0_3) (hc0_3 : l0_3.length ≤ c0_3) (h : dovetailref03_Check.f k l0_0 l0_1 a0_2 l0_3 = some (r1, r2)) :
 Calls Tryd.prog 53 #[.agg #[.slice A0_0 l0_0.length c0_0, .slice A0_1 l0_1.length c0_1, .int .i64 a0_2, .slice A0_3 l0_3.length c0_3]] w fun e w' => e = .returned (.tuple #[.int .i64 r1, .int .i64 r2]) ∧ Below w.heap.size w w' := by
 have hu25 := Tryd.underlying25
 have hu52 := Tryd.underlying52
 have HR0_0 := Aside0.mk hr0_0
 have HC0_0 := Aside0.mk hc0_0
 clear hr0_0 hc0_0
 have HR0_1 := Aside0.mk hr0_1
 have HC0_1 := Aside0.mk hc0_1
 clear hr0_1 hc0_1
 have HR0_3 := Aside0.mk hr0_3
 have HC0_3 := Aside0.mk hc0_3
 clear hr0_3 hc0_3
 have HB := Aside0.mk (Below.refl w.heap.size w)
 have H : (if (l0_0.length : Int) > 60 then (dovetailref03_Check.j0 k (l0_0.length : Int) (l0_1.length : Int) true l0_0 l0_1 a0_2 l0_3) else (if (l0_1.length : Int) > 60 then (dovetailref03_Check.j0 k (l0_0.length : Int) (l0_1.length : Int) true l0_0 l0_1 a0_2 l0_3) else (if (wrap64 ((l0_0.length : Int) + (l0_1.length : Int))) > 60 then (dovetailref03_Check.j0 k (l0_0.length : Int) (l0_1.length : Int) true l0_0 l0_1 a0_2 l0_3) else (dovetailref03_Check.j0 k (l0_0.length : Int) (l0_1.length : Int) (decide ((l0_3.length : Int) > 120)) l0_0 l0_1 a0_2 l0_3)))) = some (r1, r2) := h
 clear h
 have HC2 := Aside0.mk H
 clear H
 go_enter Tryd.func53, Tryd.ntmps53
 go_upto_region 3 with (first | ((with_reducible refine gate_dst (N := 1) rfl ?_); (try (refine gate_guard (by rfl) ?_; dsimp only)); refine box_event ?hg (N := 1) ?hd (cs := #[.slice A0_0 l0_0.length c0_0, .slice A0_1 l0_1.length c0_1, .int .i64 a0_2, .slice A0_3 l0_3.length c0_3]) (t := 25) ?hr ?_; (case hd => rfl); (case hg => rfl); (case hr => first | (go_simp; done) | (go_simp; rfl)); intro gb192 hg w3 hbox hb; have n0_ := Aside0.mk (below_step (by repeat (first | (with_reducible first | exact HB.out | apply below_alloc | apply pw_below_drewN | apply below_drew1) | exact HB.out)) hb); have n1_ := Aside0.mk (hbox); have n2_ := Aside0.mk ((by rw [hg]; exact (below_size (by repeat (first | (with_reducible first | exact HB.out | apply below_alloc | apply pw_below_drewN | apply below_drew1) | exact HB.out))) : w.heap.size ≤ gb192)); have n3_ := Aside0.mk ((by rw [hg]; exact (below_size (by repeat (first | (with_reducible first | exact HB.out | apply below_alloc | apply pw_below_drewN | apply below_drew1) | exact HB.out))) : w.heap.size ≤ gb192)); clear HB; have HB := n0_; have BK192 := n1_; have GW192 := n2_; have GE192 := n3_; clear n0_ n1_ n2_ n3_; clear hb hbox hg; have hcz4_0 : w3.cell? ⟨gb192, 0, none⟩ = some (.slice A0_0 l0_0.length c0_0) := (blk_cell BK192.out 0).trans rfl; have hcz4_1 : w3.cell? ⟨gb192, 1, none⟩ = some (.slice A0_1 l0_1.length c0_1) := (blk_cell BK192.out 1).trans rfl; have hcz4_2 : w3.cell? ⟨gb192, 2, none⟩ = some (.int .i64 a0_2) := (blk_cell BK192.out 2).trans rfl; have hcz4_3 : w3.cell? ⟨gb192, 3, none⟩ = some (.slice A0_3 l0_3.length c0_3) := (blk_cell BK192.out 3).trans rfl; have hfz4_0 := blk_frozen BK192.out 0; have hfz4_1 := blk_frozen BK192.out 1; have hfz4_2 := blk_frozen BK192.out 2; have hfz4_3 := blk_frozen BK192.out 3))
 (try simp only [Act.put, List.setIfInBounds_toArray, List.set_cons_zero, List.set_cons_succ])
 go_cut [32] (fun v32 wc => ∃ (kq : Nat) (x32_1 : Bool), v32 = .bool x32_1 ∧ Aside0 (dovetailref03_Check.j0 kq (l0_0.length : Int) (l0_1.length : Int) x32_1 l0_0 l0_1 a0_2 l0_3 = some (r1, r2)) ∧ Aside0 (kq ≤ k) ∧ Aside0 (wc.heap[gb192]? = some (.cells #[(.slice A0_0 l0_0.length c0_0), (.slice A0_1 l0_1.length c0_1), .int .i64 a0_2, (.slice A0_3 l0_3.length c0_3)] 25 (0, 0))) ∧ Aside0 (Below w.heap.size w wc))
 case first =>
  have H := HC2.out
  clear HC2
  by_cases c5 : (l0_0.length : Int) > 60
  · rw [if_pos c5] at H
    have c5b0 : decide (60 < (l0_0.length : Int)) = true := decide_eq_true c5
    have c5b1 : decide (60 < l0_0.length) = true := decide_eq_true (by omega)
    clear c5
    (first | rw [c5b0] | (simp only [i64_w, i32_w]; rw [c5b0]) | skip)
    have H' := Aside0.mk H
    clear H
    go_wp2
    go_meet
    case rel => exact ⟨_, (true), (by first | rfl | (simp; done) | (simp [*]; done)), H', ⟨by first | omega | exact Nat.le_refl _⟩, ⟨by (with_reducible repeat (first | refine blk_drewN ?_ _ | refine blk_drew ?_ | refine blk_alloc ?_ _)); exact BK192.out⟩, ⟨by repeat (first | (with_reducible first | exact HB.out | apply below_alloc | apply pw_below_drewN | apply below_drew1 | refine below_set ?_ GE192.out) | exact HB.out)⟩⟩
  · rw [if_neg c5] at H
    have c5b0 : decide (60 < (l0_0.length : Int)) = false := decide_eq_false c5
    have c5b1 : decide (60 < l0_0.length) = false := decide_eq_false (by omega)
    clear c5
    (first | rw [c5b0] | (simp only [i64_w, i32_w]; rw [c5b0]) | skip)
    by_cases c6 : (l0_1.length : Int) > 60
    · rw [if_pos c6] at H
      have c6b0 : decide (60 < (l0_1.length : Int)) = true := decide_eq_true c6
      have c6b1 : decide (60 < l0_1.length) = true := decide_eq_true (by omega)
      clear c6
      have H' := Aside0.mk H
      clear H
      go_wp2
      go_meet
      case rel => exact ⟨_, (true), (by first | rfl | (simp; done) | (simp [*]; done)), H', ⟨by first | omega | exact Nat.le_refl _⟩, ⟨by (with_reducible repeat (first | refine blk_drewN ?_ _ | refine blk_drew ?_ | refine blk_alloc ?_ _)); exact BK192.out⟩, ⟨by repeat (first | (with_reducible first | exact HB.out | apply below_alloc | apply pw_below_drewN | apply below_drew1 | refine below_set ?_ GE192.out) | exact HB.out)⟩⟩
    · rw [if_neg c6] at H
      have c6b0 : decide (60 < (l0_1.length : Int)) = false := decide_eq_false c6
      have c6b1 : decide (60 < l0_1.length) = false := decide_eq_false (by omega)
      clear c6
      by_cases c7 : (wrap64 ((l0_0.length : Int) + (l0_1.length : Int))) > 60
      · rw [if_pos c7] at H
        have c7b0 : decide (60 < (wrap64 ((l0_0.length : Int) + (l0_1.length : Int)))) = true := decide_eq_true c7
        clear c7
        have H' := Aside0.mk H
        clear H
        go_wp2
        go_meet
        case rel => exact ⟨_, (true), (by first | rfl | (simp; done) | (simp [*]; done)), H', ⟨by first | omega | exact Nat.le_refl _⟩, ⟨by (with_reducible repeat (first | refine blk_drewN ?_ _ | refine blk_drew ?_ | refine blk_alloc ?_ _)); exact BK192.out⟩, ⟨by repeat (first | (with_reducible first | exact HB.out | apply below_alloc | apply pw_below_drewN | apply below_drew1 | refine below_set ?_ GE192.out) | exact HB.out)⟩⟩
      · rw [if_neg c7] at H
        have c7b0 : decide (60 < (wrap64 ((l0_0.length : Int) + (l0_1.length : Int)))) = false := decide_eq_false c7
        clear c7
        have H' := Aside0.mk H
        clear H
        have hcz8_0 : w3.cell? ⟨gb192, 0, none⟩ = some (.slice A0_0 l0_0.length c0_0) := (blk_cell BK192.out 0).trans rfl
        have hcz8_1 : w3.cell? ⟨gb192, 1, none⟩ = some (.slice A0_1 l0_1.length c0_1) := (blk_cell BK192.out 1).trans rfl
        have hcz8_2 : w3.cell? ⟨gb192, 2, none⟩ = some (.int .i64 a0_2) := (blk_cell BK192.out 2).trans rfl
        have hcz8_3 : w3.cell? ⟨gb192, 3, none⟩ = some (.slice A0_3 l0_3.length c0_3) := (blk_cell BK192.out 3).trans rfl
        have hfz8_0 := blk_frozen BK192.out 0
        have hfz8_1 := blk_frozen BK192.out 1
        have hfz8_2 := blk_frozen BK192.out 2
        have hfz8_3 := blk_frozen BK192.out 3
        go_wp2
        go_meet
        case rel => exact ⟨_, (decide ((l0_3.length : Int) > 120)), (by first | rfl | (simp; done) | (simp [*]; done)), H', ⟨by first | omega | exact Nat.le_refl _⟩, ⟨by (with_reducible repeat (first | refine blk_drewN ?_ _ | refine blk_drew ?_ | refine blk_alloc ?_ _)); exact BK192.out⟩, ⟨by repeat (first | (with_reducible first | exact HB.out | apply below_alloc | apply pw_below_drewN | apply below_drew1 | refine below_set ?_ GE192.out) | exact HB.out)⟩⟩
 case rest =>
  clear HC2
  try clear p2
  try clear c5
  try clear c5b0
  try clear c5b1
  try clear c6
  try clear c6b0
  try clear c6b1
  try clear p6
  try clear c7
  try clear c7b0
  try clear hcz4_0
  try clear hcz4_1
  try clear hcz4_2
  try clear hcz4_3
  try clear hcz8_0
  try clear hcz8_1
  try clear hcz8_2
  try clear hcz8_3
  try clear hfz4_0
  try clear hfz4_1
  try clear hfz4_2
  try clear hfz4_3
  try clear hfz8_0
  try clear hfz8_1
  try clear hfz8_2
  try clear hfz8_3
  obtain ⟨kq, x32_1, rfl, HA, HJ1, BK192, HB⟩ := hcut
  cases kq with
  | zero => exact absurd HA.out (by simp [dovetailref03_Check.j0])
  | succ kj1 =>
   have H := HA.out
   clear HA
   simp only [dovetailref03_Check.j0] at H
   by_cases c9 : x32_1 = true
   · subst c9
     have H1 : (some (3, (-1))) = some (r1, r2) := by rw [if_pos rfl] at H; exact H
     clear H
     have H := H1
     clear H1
     simp only [Option.some.injEq, Prod.mk.injEq] at H
     obtain ⟨rfl, rfl⟩ := H
     go_wp2
     go_ret2
     exact ⟨by first | rfl | (simp [errW_none, errW_some] <;> rfl) | (simp [*, errW_none, errW_some] <;> rfl), by repeat (first | (with_reducible first | exact HB.out | apply below_alloc | apply pw_below_drewN | apply below_drew1 | refine below_set ?_ GE192.out) | exact HB.out)⟩
   · replace c9 := Bool.eq_false_iff.mpr c9
     subst c9
     have H1 : ((dovetailref03_named.f kj1 l0_0).bind fun t193 => (if t193 = true then ((dovetailref03_named.f kj1 l0_1).bind fun t194 => (dovetailref03_Check.j1 kj1 (l0_0.length : Int) (l0_1.length : Int) (!t194) l0_0 l0_1 a0_2 l0_3)) else (dovetailref03_Check.j1 kj1 (l0_0.length : Int) (l0_1.length : Int) true l0_0 l0_1 a0_2 l0_3))) = some (r1, r2) := by rw [if_neg (show ¬ (false = true) by decide)] at H; exact H
     clear H
     have H := H1
     clear H1
     have HC10 := Aside0.mk H
     clear H
     go_upto_region 5 with (fail)
     go_cut [42] (fun v42 wc => ∃ (kq : Nat) (x42_9 : Bool), v42 = .bool x42_9 ∧ Aside0 (dovetailref03_Check.j1 kq (l0_0.length : Int) (l0_1.length : Int) x42_9 l0_0 l0_1 a0_2 l0_3 = some (r1, r2)) ∧ Aside0 (kq ≤ kj1) ∧ Aside0 (wc.heap[gb192]? = some (.cells #[(.slice A0_0 l0_0.length c0_0), (.slice A0_1 l0_1.length c0_1), .int .i64 a0_2, (.slice A0_3 l0_3.length c0_3)] 25 (0, 0))) ∧ Aside0 (Below w.heap.size w wc))
     case first =>
      have H := HC10.out
      clear HC10
      replace H := Option.bind_eq_some_iff.mp H
      obtain ⟨t193, A110, H⟩ := H
      replace H : (if t193 = true then ((dovetailref03_named.f kj1 l0_1).bind fun t194 => (dovetailref03_Check.j1 kj1 (l0_0.length : Int) (l0_1.length : Int) (!t194) l0_0 l0_1 a0_2 l0_3)) else (dovetailref03_Check.j1 kj1 (l0_0.length : Int) (l0_1.length : Int) true l0_0 l0_1 a0_2 l0_3)) = some (r1, r2) := H
      have A11 := Aside0.mk A110
      clear A110
      by_cases c12 : t193 = true
      · subst c12
        have H1 : ((dovetailref03_named.f kj1 l0_1).bind fun t194 => (dovetailref03_Check.j1 kj1 (l0_0.length : Int) (l0_1.length : Int) (!t194) l0_0 l0_1 a0_2 l0_3)) = some (r1, r2) := by rw [if_pos rfl] at H; exact H
        clear H
        have H := H1
        clear H1
        replace H := Option.bind_eq_some_iff.mp H
        obtain ⟨t194, A130, H⟩ := H
        replace H : (dovetailref03_Check.j1 kj1 (l0_0.length : Int) (l0_1.length : Int) (!t194) l0_0 l0_1 a0_2 l0_3) = some (r1, r2) := H
        have A13 := Aside0.mk A130
        clear A130
        have H' := Aside0.mk H
        clear H
        have hcz14_0 : wc.cell? ⟨gb192, 0, none⟩ = some (.slice A0_0 l0_0.length c0_0) := (blk_cell BK192.out 0).trans rfl
        have hcz14_1 : wc.cell? ⟨gb192, 1, none⟩ = some (.slice A0_1 l0_1.length c0_1) := (blk_cell BK192.out 1).trans rfl
        have hcz14_2 : wc.cell? ⟨gb192, 2, none⟩ = some (.int .i64 a0_2) := (blk_cell BK192.out 2).trans rfl
        have hcz14_3 : wc.cell? ⟨gb192, 3, none⟩ = some (.slice A0_3 l0_3.length c0_3) := (blk_cell BK192.out 3).trans rfl
        have hfz14_0 := blk_frozen BK192.out 0
        have hfz14_1 := blk_frozen BK192.out 1
        have hfz14_2 := blk_frozen BK192.out 2
        have hfz14_3 := blk_frozen BK192.out 3
        go_wp2_with (first | ((with_reducible refine gate_callee (f := 84) rfl ?_); refine goesL_ (some 35) rfl rfl Tryd.func84 (by kernel_rfl) rfl #[.slice A0_0 l0_0.length c0_0] rfl (by (try simp only [List.map_toArray, List.map_cons, List.map_nil]); first | done | rfl | (simp only [List.length_drop, List.length_take]; rfl)) ?_; (with_reducible refine (dovetailref03_named.calls kj1 _ _ l0_0 true _ ?side1 ?side2 A11.out).mono ?_); (case side1 => repeat (first | exact (Kd.C_below HR0_0.out HB.out) | (with_reducible refine Kd.C_alloc ?_ _) | (with_reducible refine Kd.C_drewN ?_ _) | (with_reducible refine Kd.C_drew ?_))); (case side2 => exact HC0_0.out); rintro e w' ⟨rfl, ⟨nd, rfl⟩⟩; refine ⟨_, rfl, ?_⟩) | (go_at_call 84; (with_reducible refine (dovetailref03_named.calls kj1 _ _ l0_1 t194 _ ?side1 ?side2 A13.out).mono ?_); (case side1 => repeat (first | exact (Kd.C_below HR0_1.out (by repeat (first | (with_reducible first | exact HB.out | apply below_alloc | apply pw_below_drewN | apply below_drew1 | refine below_set ?_ GE192.out) | exact HB.out))) | (with_reducible refine Kd.C_alloc ?_ _) | (with_reducible refine Kd.C_drewN ?_ _) | (with_reducible refine Kd.C_drew ?_))); (case side2 => exact HC0_1.out); rintro e w' ⟨rfl, ⟨nd, rfl⟩⟩))
        go_meet
        case rel => exact ⟨_, (!t194), (by first | rfl | (simp; done) | (simp [*]; done)), H', ⟨by have := HJ1.out; first | omega | exact Nat.le_refl _⟩, ⟨by (with_reducible repeat (first | refine blk_drewN ?_ _ | refine blk_drew ?_ | refine blk_alloc ?_ _)); exact BK192.out⟩, ⟨by repeat (first | (with_reducible first | exact HB.out | apply below_alloc | apply pw_below_drewN | apply below_drew1 | refine below_set ?_ GE192.out) | exact HB.out)⟩⟩
      · replace c12 := Bool.eq_false_iff.mpr c12
        subst c12
        have H1 : (dovetailref03_Check.j1 kj1 (l0_0.length : Int) (l0_1.length : Int) true l0_0 l0_1 a0_2 l0_3) = some (r1, r2) := by rw [if_neg (show ¬ (false = true) by decide)] at H; exact H
        clear H
        have H := H1
        clear H1
        have H' := Aside0.mk H
        clear H
        have hcz15_0 : wc.cell? ⟨gb192, 0, none⟩ = some (.slice A0_0 l0_0.length c0_0) := (blk_cell BK192.out 0).trans rfl
        have hcz15_1 : wc.cell? ⟨gb192, 1, none⟩ = some (.slice A0_1 l0_1.length c0_1) := (blk_cell BK192.out 1).trans rfl
        have hcz15_2 : wc.cell? ⟨gb192, 2, none⟩ = some (.int .i64 a0_2) := (blk_cell BK192.out 2).trans rfl
        have hcz15_3 : wc.cell? ⟨gb192, 3, none⟩ = some (.slice A0_3 l0_3.length c0_3) := (blk_cell BK192.out 3).trans rfl
        have hfz15_0 := blk_frozen BK192.out 0
        have hfz15_1 := blk_frozen BK192.out 1
        have hfz15_2 := blk_frozen BK192.out 2
        have hfz15_3 := blk_frozen BK192.out 3
        go_wp2_with (first | ((with_reducible refine gate_callee (f := 84) rfl ?_); refine goesL_ (some 35) rfl rfl Tryd.func84 (by kernel_rfl) rfl #[.slice A0_0 l0_0.length c0_0] rfl (by (try simp only [List.map_toArray, List.map_cons, List.map_nil]); first | done | rfl | (simp only [List.length_drop, List.length_take]; rfl)) ?_; (with_reducible refine (dovetailref03_named.calls kj1 _ _ l0_0 false _ ?side1 ?side2 A11.out).mono ?_); (case side1 => repeat (first | exact (Kd.C_below HR0_0.out HB.out) | (with_reducible refine Kd.C_alloc ?_ _) | (with_reducible refine Kd.C_drewN ?_ _) | (with_reducible refine Kd.C_drew ?_))); (case side2 => exact HC0_0.out); rintro e w' ⟨rfl, ⟨nd, rfl⟩⟩; refine ⟨_, rfl, ?_⟩))
        go_meet
        case rel => exact ⟨_, (true), (by first | rfl | (simp; done) | (simp [*]; done)), H', ⟨by have := HJ1.out; first | omega | exact Nat.le_refl _⟩, ⟨by (with_reducible repeat (first | refine blk_drewN ?_ _ | refine blk_drew ?_ | refine blk_alloc ?_ _)); exact BK192.out⟩, ⟨by repeat (first | (with_reducible first | exact HB.out | apply below_alloc | apply pw_below_drewN | apply below_drew1 | refine below_set ?_ GE192.out) | exact HB.out)⟩⟩
     case rest =>
      clear HC10
      try clear c1
      try clear p2
      try clear c5
      try clear c5b0
      try clear c5b1
      try clear c6
      try clear c6b0
      try clear c6b1
      try clear p6
      try clear c7
      try clear c7b0
      try clear c8
      try clear c9
      try clear c12
      try clear hcz14_0
      try clear hcz14_1
      try clear hcz14_2
      try clear hcz14_3
      try clear hcz15_0
      try clear hcz15_1
      try clear hcz15_2
      try clear hcz15_3
      try clear hcz4_0
      try clear hcz4_1
      try clear hcz4_2
      try clear hcz4_3
      try clear hcz8_0
      try clear hcz8_1
      try clear hcz8_2
      try clear hcz8_3
      try clear hfz14_0
      try clear hfz14_1
      try clear hfz14_2
      try clear hfz14_3
      try clear hfz15_0
      try clear hfz15_1
      try clear hfz15_2
      try clear hfz15_3
      try clear hfz4_0
      try clear hfz4_1
      try clear hfz4_2
      try clear hfz4_3
      try clear hfz8_0
      try clear hfz8_1
      try clear hfz8_2
      try clear hfz8_3
      try clear p2
      try clear p6
      obtain ⟨kq, x42_9, rfl, HA, HJ9, BK192, HB⟩ := hcut
      cases kq with
      | zero => exact absurd HA.out (by simp [dovetailref03_Check.j1])
      | succ kj9 =>
       have H := HA.out
       clear HA
       simp only [dovetailref03_Check.j1] at H
       by_cases c16 : x42_9 = true
       · subst c16
         have H1 : (some (10, (-1))) = some (r1, r2) := by rw [if_pos rfl] at H; exact H
         clear H
         have H := H1
         clear H1
         simp only [Option.some.injEq, Prod.mk.injEq] at H
         obtain ⟨rfl, rfl⟩ := H
         go_wp2
         go_ret2
         exact ⟨by first | rfl | (simp [errW_none, errW_some] <;> rfl) | (simp [*, errW_none, errW_some] <;> rfl), by repeat (first | (with_reducible first | exact HB.out | apply below_alloc | apply pw_below_drewN | apply below_drew1 | refine below_set ?_ GE192.out) | exact HB.out)⟩
       · replace c16 := Bool.eq_false_iff.mpr c16
         subst c16
         have H1 : (if (l0_1.length : Int) = 0 then (dovetailref03_Check.j2 kj9 (l0_0.length : Int) (l0_1.length : Int) true l0_0 l0_1 a0_2 l0_3) else (if a0_2 < 0 then (dovetailref03_Check.j2 kj9 (l0_0.length : Int) (l0_1.length : Int) true l0_0 l0_1 a0_2 l0_3) else (dovetailref03_Check.j2 kj9 (l0_0.length : Int) (l0_1.length : Int) (decide (a0_2 ≥ (l0_1.length : Int))) l0_0 l0_1 a0_2 l0_3))) = some (r1, r2) := by rw [if_neg (show ¬ (false = true) by decide)] at H; exact H
         clear H
         have H := H1
         clear H1
         have HC17 := Aside0.mk H
         clear H
         go_upto_region 7 with (fail)
         go_cut [55] (fun v55 wc => ∃ (kq : Nat) (x55_16 : Bool), v55 = .bool x55_16 ∧ Aside0 (dovetailref03_Check.j2 kq (l0_0.length : Int) (l0_1.length : Int) x55_16 l0_0 l0_1 a0_2 l0_3 = some (r1, r2)) ∧ Aside0 (kq ≤ kj9) ∧ Aside0 (wc.heap[gb192]? = some (.cells #[(.slice A0_0 l0_0.length c0_0), (.slice A0_1 l0_1.length c0_1), .int .i64 a0_2, (.slice A0_3 l0_3.length c0_3)] 25 (0, 0))) ∧ Aside0 (Below w.heap.size w wc))
         case first =>
          have H := HC17.out
          clear HC17
          by_cases c18 : (l0_1.length : Int) = 0
          · rw [if_pos c18] at H
            have c18b0 : ((l0_1.length : Int) == 0) = true := beq_iff_eq.mpr c18
            have c18b1 : ((l0_1.length : Int) != 0) = false := bne_eq_false_iff_eq.mpr c18
            clear c18
            (first | rw [c18b0] | (simp only [i64_w, i32_w]; rw [c18b0]) | skip)
            have H' := Aside0.mk H
            clear H
            go_wp2
            go_meet
            case rel => exact ⟨_, (true), (by first | rfl | (simp; done) | (simp [*]; done)), H', ⟨by have := HJ1.out; have := HJ9.out; first | omega | exact Nat.le_refl _⟩, ⟨by (with_reducible repeat (first | refine blk_drewN ?_ _ | refine blk_drew ?_ | refine blk_alloc ?_ _)); exact BK192.out⟩, ⟨by repeat (first | (with_reducible first | exact HB.out | apply below_alloc | apply pw_below_drewN | apply below_drew1 | refine below_set ?_ GE192.out) | exact HB.out)⟩⟩
          · rw [if_neg c18] at H
            have c18b0 : ((l0_1.length : Int) == 0) = false := beq_eq_false_iff_ne.mpr c18
            have c18b1 : ((l0_1.length : Int) != 0) = true := bne_iff_ne.mpr c18
            have c18b2 : ¬ (l0_1 = []) := fun h_ => c18 (by rw [h_]; rfl)
            (first | rw [c18b0] | (simp only [i64_w, i32_w]; rw [c18b0]) | skip)
            by_cases c19 : a0_2 < 0
            · rw [if_pos c19] at H
              have c19b0 : decide (a0_2 < 0) = true := decide_eq_true c19
              clear c19
              have H' := Aside0.mk H
              clear H
              have hcz20_0 : wc.cell? ⟨gb192, 0, none⟩ = some (.slice A0_0 l0_0.length c0_0) := (blk_cell BK192.out 0).trans rfl
              have hcz20_1 : wc.cell? ⟨gb192, 1, none⟩ = some (.slice A0_1 l0_1.length c0_1) := (blk_cell BK192.out 1).trans rfl
              have hcz20_2 : wc.cell? ⟨gb192, 2, none⟩ = some (.int .i64 a0_2) := (blk_cell BK192.out 2).trans rfl
              have hcz20_3 : wc.cell? ⟨gb192, 3, none⟩ = some (.slice A0_3 l0_3.length c0_3) := (blk_cell BK192.out 3).trans rfl
              have hfz20_0 := blk_frozen BK192.out 0
              have hfz20_1 := blk_frozen BK192.out 1
              have hfz20_2 := blk_frozen BK192.out 2
              have hfz20_3 := blk_frozen BK192.out 3
              go_wp2
              go_meet
              case rel => exact ⟨_, (true), (by first | rfl | (simp; done) | (simp [*]; done)), H', ⟨by have := HJ1.out; have := HJ9.out; first | omega | exact Nat.le_refl _⟩, ⟨by (with_reducible repeat (first | refine blk_drewN ?_ _ | refine blk_drew ?_ | refine blk_alloc ?_ _)); exact BK192.out⟩, ⟨by repeat (first | (with_reducible first | exact HB.out | apply below_alloc | apply pw_below_drewN | apply below_drew1 | refine below_set ?_ GE192.out) | exact HB.out)⟩⟩
            · rw [if_neg c19] at H
              have c19b0 : decide (a0_2 < 0) = false := decide_eq_false c19
              clear c19
              have H' := Aside0.mk H
              clear H
              have hcz21_0 : wc.cell? ⟨gb192, 0, none⟩ = some (.slice A0_0 l0_0.length c0_0) := (blk_cell BK192.out 0).trans rfl
              have hcz21_1 : wc.cell? ⟨gb192, 1, none⟩ = some (.slice A0_1 l0_1.length c0_1) := (blk_cell BK192.out 1).trans rfl
              have hcz21_2 : wc.cell? ⟨gb192, 2, none⟩ = some (.int .i64 a0_2) := (blk_cell BK192.out 2).trans rfl
              have hcz21_3 : wc.cell? ⟨gb192, 3, none⟩ = some (.slice A0_3 l0_3.length c0_3) := (blk_cell BK192.out 3).trans rfl
              have hfz21_0 := blk_frozen BK192.out 0
              have hfz21_1 := blk_frozen BK192.out 1
              have hfz21_2 := blk_frozen BK192.out 2
              have hfz21_3 := blk_frozen BK192.out 3
              go_wp2
              go_meet
              case rel => exact ⟨_, (decide (a0_2 ≥ (l0_1.length : Int))), (by first | rfl | (simp; done) | (simp [*]; done)), H', ⟨by have := HJ1.out; have := HJ9.out; first | omega | exact Nat.le_refl _⟩, ⟨by (with_reducible repeat (first | refine blk_drewN ?_ _ | refine blk_drew ?_ | refine blk_alloc ?_ _)); exact BK192.out⟩, ⟨by repeat (first | (with_reducible first | exact HB.out | apply below_alloc | apply pw_below_drewN | apply below_drew1 | refine below_set ?_ GE192.out) | exact HB.out)⟩⟩
         case rest =>
          clear HC17
          try clear c1
          try clear p2
          try clear c5
          try clear c5b0
          try clear c5b1
          try clear c6
          try clear c6b0
          try clear c6b1
          try clear p6
          try clear c7
          try clear c7b0
          try clear c8
          try clear c9
          try clear c12
          try clear c16
          try clear c18
          try clear c18b0
          try clear c18b1
          try clear c18b2
          try clear c19
          try clear c19b0
          try clear hcz14_0
          try clear hcz14_1
          try clear hcz14_2
          try clear hcz14_3
          try clear hcz15_0
          try clear hcz15_1
          try clear hcz15_2
          try clear hcz15_3
          try clear hcz20_0
          try clear hcz20_1
          try clear hcz20_2
          try clear hcz20_3
          try clear hcz21_0
          try clear hcz21_1
          try clear hcz21_2
          try clear hcz21_3
          try clear hcz4_0
          try clear hcz4_1
          try clear hcz4_2
          try clear hcz4_3
          try clear hcz8_0
          try clear hcz8_1
          try clear hcz8_2
          try clear hcz8_3
          try clear hfz14_0
          try clear hfz14_1
          try clear hfz14_2
          try clear hfz14_3
          try clear hfz15_0
          try clear hfz15_1
          try clear hfz15_2
          try clear hfz15_3
          try clear hfz20_0
          try clear hfz20_1
          try clear hfz20_2
          try clear hfz20_3
          try clear hfz21_0
          try clear hfz21_1
          try clear hfz21_2
          try clear hfz21_3
          try clear hfz4_0
          try clear hfz4_1
          try clear hfz4_2
          try clear hfz4_3
          try clear hfz8_0
          try clear hfz8_1
          try clear hfz8_2
          try clear hfz8_3
          try clear p2
          try clear p6
          obtain ⟨kq, x55_16, rfl, HA, HJ16, BK192, HB⟩ := hcut
          cases kq with
          | zero => exact absurd HA.out (by simp [dovetailref03_Check.j2])
          | succ kj16 =>
           have H := HA.out
           clear HA
           simp only [dovetailref03_Check.j2] at H
           by_cases c22 : x55_16 = true
           · subst c22
             have H1 : (some (1, (-1))) = some (r1, r2) := by rw [if_pos rfl] at H; exact H
             clear H
             have H := H1
             clear H1
             simp only [Option.some.injEq, Prod.mk.injEq] at H
             obtain ⟨rfl, rfl⟩ := H
             go_wp2
             go_ret2
             exact ⟨by first | rfl | (simp [errW_none, errW_some] <;> rfl) | (simp [*, errW_none, errW_some] <;> rfl), by repeat (first | (with_reducible first | exact HB.out | apply below_alloc | apply pw_below_drewN | apply below_drew1 | refine below_set ?_ GE192.out) | exact HB.out)⟩
           · replace c22 := Bool.eq_false_iff.mpr c22
             subst c22
             have H1 : (dovetailref03_Check.l0 kj16 (l0_0.length : Int) (l0_1.length : Int) 0 l0_0 l0_1 a0_2 l0_3) = some (r1, r2) := by rw [if_neg (show ¬ (false = true) by decide)] at H; exact H
             clear H
             have H := H1
             clear H1
             have H' := Aside0.mk H
             clear H
             go_wp2
             go_loopg [6] kj16 (fun kq v6 w' => ∃ (x6_4 : Int), v6 = .int .i64 x6_4 ∧ Aside0 (dovetailref03_Check.l0 kq (l0_0.length : Int) (l0_1.length : Int) x6_4 l0_0 l0_1 a0_2 l0_3 = some (r1, r2)) ∧ Aside0 (kq ≤ kj16) ∧ Aside0 (w'.heap[gb192]? = some (.cells #[(.slice A0_0 l0_0.length c0_0), (.slice A0_1 l0_1.length c0_1), .int .i64 a0_2, (.slice A0_3 l0_3.length c0_3)] 25 (0, 0))) ∧ Aside0 (Below w.heap.size w w'))
             case atStart => exact ⟨(0), (by first | rfl | (simp; done) | (simp [*]; done)), H', ⟨Nat.le_refl _⟩, ⟨by (with_reducible repeat (first | refine blk_drewN ?_ _ | refine blk_drew ?_ | refine blk_alloc ?_ _)); exact BK192.out⟩, ⟨by repeat (first | (with_reducible first | exact HB.out | apply below_alloc | apply pw_below_drewN | apply below_drew1 | refine below_set ?_ GE192.out) | exact HB.out)⟩⟩
             case round =>
              clear H'
              try clear c1
              try clear c2
              try clear p2
              try clear c5
              try clear c5b0
              try clear c5b1
              try clear c6
              try clear c6b0
              try clear c6b1
              try clear p6
              try clear c7
              try clear c7b0
              try clear c8
              try clear c9
              try clear c12
              try clear c16
              try clear c18
              try clear c18b0
              try clear c18b1
              try clear c18b2
              try clear c19
              try clear c19b0
              try clear c22
              try clear hcz14_0
              try clear hcz14_1
              try clear hcz14_2
              try clear hcz14_3
              try clear hcz15_0
              try clear hcz15_1
              try clear hcz15_2
              try clear hcz15_3
              try clear hcz20_0
              try clear hcz20_1
              try clear hcz20_2
              try clear hcz20_3
              try clear hcz21_0
              try clear hcz21_1
              try clear hcz21_2
              try clear hcz21_3
              try clear hcz4_0
              try clear hcz4_1
              try clear hcz4_2
              try clear hcz4_3
              try clear hcz8_0
              try clear hcz8_1
              try clear hcz8_2
              try clear hcz8_3
              try clear hfz14_0
              try clear hfz14_1
              try clear hfz14_2
              try clear hfz14_3
              try clear hfz15_0
              try clear hfz15_1
              try clear hfz15_2
              try clear hfz15_3
              try clear hfz20_0
              try clear hfz20_1
              try clear hfz20_2
              try clear hfz20_3
              try clear hfz21_0
              try clear hfz21_1
              try clear hfz21_2
              try clear hfz21_3
              try clear hfz4_0
              try clear hfz4_1
              try clear hfz4_2
              try clear hfz4_3
              try clear hfz8_0
              try clear hfz8_1
              try clear hfz8_2
              try clear hfz8_3
              try clear p2
              try clear p6
              obtain ⟨x6_4, rfl, HA, HK4, BK192, HB⟩ := hrel
              cases gk with
              | zero => exact absurd HA.out (by simp [dovetailref03_Check.l0])
              | succ k4 =>
               have H := HA.out
               clear HA
               simp only [dovetailref03_Check.l0] at H
               by_cases c23 : x6_4 < (l0_3.length : Int)
               · rw [if_pos c23] at H
                 have c23b0 : decide (x6_4 < (l0_3.length : Int)) = true := decide_eq_true c23
                 clear c23
                 by_cases c24 : 0 ≤ x6_4
                 · rw [if_pos c24] at H
                   have c24b0 : decide (0 ≤ x6_4) = true := decide_eq_true c24
                   clear c24
                   by_cases c25 : (((rd_T52 l0_3 x6_4).f1).length : Int) > 32
                   · rw [if_pos c25] at H
                     have c25b0 : decide (32 < (((rd_T52 l0_3 x6_4).f1).length : Int)) = true := decide_eq_true c25
                     have c25b1 : decide (32 < ((rd_T52 l0_3 x6_4).f1).length) = true := decide_eq_true (by omega)
                     clear c25
                     simp only [Option.some.injEq, Prod.mk.injEq] at H
                     obtain ⟨rfl, rfl⟩ := H
                     have hcz26_0 : wr.cell? ⟨gb192, 0, none⟩ = some (.slice A0_0 l0_0.length c0_0) := (blk_cell BK192.out 0).trans rfl
                     have hcz26_1 : wr.cell? ⟨gb192, 1, none⟩ = some (.slice A0_1 l0_1.length c0_1) := (blk_cell BK192.out 1).trans rfl
                     have hcz26_2 : wr.cell? ⟨gb192, 2, none⟩ = some (.int .i64 a0_2) := (blk_cell BK192.out 2).trans rfl
                     have hcz26_3 : wr.cell? ⟨gb192, 3, none⟩ = some (.slice A0_3 l0_3.length c0_3) := (blk_cell BK192.out 3).trans rfl
                     have hfz26_0 := blk_frozen BK192.out 0
                     have hfz26_1 := blk_frozen BK192.out 1
                     have hfz26_2 := blk_frozen BK192.out 2
                     have hfz26_3 := blk_frozen BK192.out 3
                     have p195 : 0 ≤ (x6_4 : Int) := of_decide_eq_true (by first | (with_reducible assumption) | assumption)
                     have q195 : x6_4 < (l0_3.length : Int) := of_decide_eq_true (by first | (with_reducible assumption) | assumption)
                     obtain ⟨ad195, A195_1, c195_1, e195, hx195_0, hx195_1, hl195_1, hi195_1⟩ := at_T52 HR0_3.out x6_4 p195 q195
                     cases e195
                     replace hx195_0 := (HB.out.cell (World.block_lt_of_cell? w _ hx195_0)).trans hx195_0
                     replace hx195_1 := (HB.out.cell (World.block_lt_of_cell? w _ hx195_1)).trans hx195_1
                     have HR195_1 := Aside0.mk hi195_1
                     have HC195_1 := Aside0.mk hl195_1
                     clear hi195_1 hl195_1
                     replace p195 := eq_true p195
                     replace q195 := eq_true q195
                     go_wp2_with (first | ((with_reducible refine gate_dst (N := 7) rfl ?_); (try (refine gate_guard (by rfl) ?_; dsimp only)); refine box_event ?hg (N := 7) ?hd (cs := #[.int .i64 0, .slice none 0 0]) (t := 52) ?hr ?_; (case hd => rfl); (case hg => rfl); (case hr => first | (go_simp; done) | (go_simp; rfl)); intro gb196 hg w27 hbox hb; have n0_ := Aside0.mk (blk_below (g := gb192) (o := .cells #[.slice A0_0 l0_0.length c0_0, .slice A0_1 l0_1.length c0_1, .int .i64 a0_2, .slice (some ad195) l0_3.length c0_3] 25 (0, 0)) (by (with_reducible repeat (first | refine blk_drewN ?_ _ | refine blk_drew ?_ | refine blk_alloc ?_ _)); exact BK192.out) hb); have n1_ := Aside0.mk (below_step (by repeat (first | (with_reducible first | exact HB.out | apply below_alloc | apply pw_below_drewN | apply below_drew1 | refine below_set ?_ GE192.out) | exact HB.out)) hb); have n2_ := Aside0.mk (hbox); have n3_ := Aside0.mk ((by rw [hg]; exact (below_size (by repeat (first | (with_reducible first | exact HB.out | apply below_alloc | apply pw_below_drewN | apply below_drew1 | refine below_set ?_ GE192.out) | exact HB.out))) : w.heap.size ≤ gb196)); have n4_ := Aside0.mk ((by rw [hg]; exact (below_size (by repeat (first | (with_reducible first | exact HB.out | apply below_alloc | apply pw_below_drewN | apply below_drew1 | refine below_set ?_ GE192.out) | exact HB.out))) : w.heap.size ≤ gb196)); have n5_ := Aside0.mk ((by rw [hg]; exact Nat.ne_of_lt (blk_lt (g := gb192) (o := .cells #[.slice A0_0 l0_0.length c0_0, .slice A0_1 l0_1.length c0_1, .int .i64 a0_2, .slice (some ad195) l0_3.length c0_3] 25 (0, 0)) (by (with_reducible repeat (first | refine blk_drewN ?_ _ | refine blk_drew ?_ | refine blk_alloc ?_ _)); exact BK192.out)) : gb192 ≠ gb196)); have n6_ := Aside0.mk ((by rw [hg]; exact Nat.ne_of_gt (blk_lt (g := gb192) (o := .cells #[.slice A0_0 l0_0.length c0_0, .slice A0_1 l0_1.length c0_1, .int .i64 a0_2, .slice (some ad195) l0_3.length c0_3] 25 (0, 0)) (by (with_reducible repeat (first | refine blk_drewN ?_ _ | refine blk_drew ?_ | refine blk_alloc ?_ _)); exact BK192.out)) : gb196 ≠ gb192)); clear BK192; clear HB; have BK192 := n0_; have HB := n1_; have BK196 := n2_; have GW196 := n3_; have GE196 := n4_; have NB192_196 := n5_; have NB196_192 := n6_; clear n0_ n1_ n2_ n3_ n4_ n5_ n6_; clear hb hbox hg; have hnb28 := NB196_192.out; have hnc28 := NB192_196.out; have hcz29_0 : w27.cell? ⟨gb196, 0, none⟩ = some (.int .i64 0) := (blk_cell BK196.out 0).trans rfl; have hcz29_1 : w27.cell? ⟨gb196, 1, none⟩ = some (.slice none 0 0) := (blk_cell BK196.out 1).trans rfl; have hfz29_0 := blk_frozen BK196.out 0; have hfz29_1 := blk_frozen BK196.out 1))
                     go_ret2
                     exact ⟨by first | rfl | (simp [errW_none, errW_some] <;> rfl) | (simp [*, errW_none, errW_some] <;> rfl), by repeat (first | (with_reducible first | exact HB.out | apply below_alloc | apply pw_below_drewN | apply below_drew1 | refine below_set ?_ GE192.out | refine below_set ?_ GE196.out) | exact HB.out)⟩
                   · rw [if_neg c25] at H
                     have c25b0 : decide (32 < (((rd_T52 l0_3 x6_4).f1).length : Int)) = false := decide_eq_false c25
                     have c25b1 : decide (32 < ((rd_T52 l0_3 x6_4).f1).length) = false := decide_eq_false (by omega)
                     clear c25
                     have HC30 := Aside0.mk H
                     clear H
                     have hcz31_0 : wr.cell? ⟨gb192, 0, none⟩ = some (.slice A0_0 l0_0.length c0_0) := (blk_cell BK192.out 0).trans rfl
                     have hcz31_1 : wr.cell? ⟨gb192, 1, none⟩ = some (.slice A0_1 l0_1.length c0_1) := (blk_cell BK192.out 1).trans rfl
                     have hcz31_2 : wr.cell? ⟨gb192, 2, none⟩ = some (.int .i64 a0_2) := (blk_cell BK192.out 2).trans rfl
                     have hcz31_3 : wr.cell? ⟨gb192, 3, none⟩ = some (.slice A0_3 l0_3.length c0_3) := (blk_cell BK192.out 3).trans rfl
                     have hfz31_0 := blk_frozen BK192.out 0
                     have hfz31_1 := blk_frozen BK192.out 1
                     have hfz31_2 := blk_frozen BK192.out 2
                     have hfz31_3 := blk_frozen BK192.out 3
                     have p195 : 0 ≤ (x6_4 : Int) := of_decide_eq_true (by first | (with_reducible assumption) | assumption)
                     have q195 : x6_4 < (l0_3.length : Int) := of_decide_eq_true (by first | (with_reducible assumption) | assumption)
                     obtain ⟨ad195, A195_1, c195_1, e195, hx195_0, hx195_1, hl195_1, hi195_1⟩ := at_T52 HR0_3.out x6_4 p195 q195
                     cases e195
                     replace hx195_0 := (HB.out.cell (World.block_lt_of_cell? w _ hx195_0)).trans hx195_0
                     replace hx195_1 := (HB.out.cell (World.block_lt_of_cell? w _ hx195_1)).trans hx195_1
                     have HR195_1 := Aside0.mk hi195_1
                     have HC195_1 := Aside0.mk hl195_1
                     clear hi195_1 hl195_1
                     replace p195 := eq_true p195
                     replace q195 := eq_true q195
                     go_upto_region 15 with (first | ((with_reducible refine gate_dst (N := 7) rfl ?_); (try (refine gate_guard (by rfl) ?_; dsimp only)); refine box_event ?hg (N := 7) ?hd (cs := #[.int .i64 0, .slice none 0 0]) (t := 52) ?hr ?_; (case hd => rfl); (case hg => rfl); (case hr => first | (go_simp; done) | (go_simp; rfl)); intro gb196 hg w32 hbox hb; have n0_ := Aside0.mk (blk_below (g := gb192) (o := .cells #[.slice A0_0 l0_0.length c0_0, .slice A0_1 l0_1.length c0_1, .int .i64 a0_2, .slice (some ad195) l0_3.length c0_3] 25 (0, 0)) (by (with_reducible repeat (first | refine blk_drewN ?_ _ | refine blk_drew ?_ | refine blk_alloc ?_ _)); exact BK192.out) hb); have n1_ := Aside0.mk (below_step (by repeat (first | (with_reducible first | exact HB.out | apply below_alloc | apply pw_below_drewN | apply below_drew1 | refine below_set ?_ GE192.out) | exact HB.out)) hb); have n2_ := Aside0.mk (hbox); have n3_ := Aside0.mk ((by rw [hg]; exact (below_size (by repeat (first | (with_reducible first | exact HB.out | apply below_alloc | apply pw_below_drewN | apply below_drew1 | refine below_set ?_ GE192.out) | exact HB.out))) : w.heap.size ≤ gb196)); have n4_ := Aside0.mk ((by rw [hg]; exact (below_size (by repeat (first | (with_reducible first | exact HB.out | apply below_alloc | apply pw_below_drewN | apply below_drew1 | refine below_set ?_ GE192.out) | exact HB.out))) : w.heap.size ≤ gb196)); have n5_ := Aside0.mk ((by rw [hg]; exact Nat.ne_of_lt (blk_lt (g := gb192) (o := .cells #[.slice A0_0 l0_0.length c0_0, .slice A0_1 l0_1.length c0_1, .int .i64 a0_2, .slice (some ad195) l0_3.length c0_3] 25 (0, 0)) (by (with_reducible repeat (first | refine blk_drewN ?_ _ | refine blk_drew ?_ | refine blk_alloc ?_ _)); exact BK192.out)) : gb192 ≠ gb196)); have n6_ := Aside0.mk ((by rw [hg]; exact Nat.ne_of_gt (blk_lt (g := gb192) (o := .cells #[.slice A0_0 l0_0.length c0_0, .slice A0_1 l0_1.length c0_1, .int .i64 a0_2, .slice (some ad195) l0_3.length c0_3] 25 (0, 0)) (by (with_reducible repeat (first | refine blk_drewN ?_ _ | refine blk_drew ?_ | refine blk_alloc ?_ _)); exact BK192.out)) : gb196 ≠ gb192)); clear BK192; clear HB; have BK192 := n0_; have HB := n1_; have BK196 := n2_; have GW196 := n3_; have GE196 := n4_; have NB192_196 := n5_; have NB196_192 := n6_; clear n0_ n1_ n2_ n3_ n4_ n5_ n6_; clear hb hbox hg; have hnb33 := NB196_192.out; have hnc33 := NB192_196.out; have hcz34_0 : w32.cell? ⟨gb196, 0, none⟩ = some (.int .i64 0) := (blk_cell BK196.out 0).trans rfl; have hcz34_1 : w32.cell? ⟨gb196, 1, none⟩ = some (.slice none 0 0) := (blk_cell BK196.out 1).trans rfl; have hfz34_0 := blk_frozen BK196.out 0; have hfz34_1 := blk_frozen BK196.out 1))
                     (try simp only [Act.put, List.setIfInBounds_toArray, List.set_cons_zero, List.set_cons_succ])
                     go_cut [81] (fun v81 wc => ∃ (kq : Nat) (x81_29 : Bool), v81 = .bool x81_29 ∧ Aside0 (dovetailref03_Check.j4 kq (l0_0.length : Int) (l0_1.length : Int) x6_4 x81_29 l0_0 l0_1 a0_2 l0_3 ((rd_T52 l0_3 x6_4).f0) ((rd_T52 l0_3 x6_4).f1) = some (r1, r2)) ∧ Aside0 (kq ≤ k4) ∧ Aside0 (wc.heap[gb192]? = some (.cells #[(.slice A0_0 l0_0.length c0_0), (.slice A0_1 l0_1.length c0_1), .int .i64 a0_2, (.slice (some ad195) l0_3.length c0_3)] 25 (0, 0))) ∧ Aside0 (wc.heap[gb196]? = some (.cells #[.int .i64 ((rd_T52 l0_3 x6_4).f0), (.slice A195_1 ((rd_T52 l0_3 x6_4).f1).length c195_1)] 52 (0, 0))) ∧ Aside0 (Below w.heap.size w wc))
                     case first =>
                      have H := HC30.out
                      clear HC30
                      by_cases c35 : ((rd_T52 l0_3 x6_4).f0) < 0
                      · rw [if_pos c35] at H
                        have c35b0 : decide (((rd_T52 l0_3 x6_4).f0) < 0) = true := decide_eq_true c35
                        clear c35
                        (first | rw [c35b0] | (simp only [i64_w, i32_w]; rw [c35b0]) | skip)
                        have H' := Aside0.mk H
                        clear H
                        have hnb36 := NB196_192.out
                        have hnc36 := NB192_196.out
                        have hcz37_0 : w32.cell? ⟨gb196, 0, none⟩ = some (.int .i64 0) := (blk_cell BK196.out 0).trans rfl
                        have hcz37_1 : w32.cell? ⟨gb196, 1, none⟩ = some (.slice none 0 0) := (blk_cell BK196.out 1).trans rfl
                        have hfz37_0 := blk_frozen BK196.out 0
                        have hfz37_1 := blk_frozen BK196.out 1
                        go_wp2
                        go_meet
                        case rel => exact ⟨_, (true), (by first | rfl | (simp; done) | (simp [*]; done)), H', ⟨by have := HJ1.out; have := HJ9.out; have := HJ16.out; have := HK4.out; first | omega | exact Nat.le_refl _⟩, ⟨by (with_reducible repeat (first | refine blk_drewN ?_ _ | refine blk_drew ?_ | refine blk_alloc ?_ _)); refine blk_far ?_ NB192_196.out _; (with_reducible repeat (first | refine blk_drewN ?_ _ | refine blk_drew ?_ | refine blk_alloc ?_ _)); refine blk_far ?_ NB192_196.out _; (with_reducible repeat (first | refine blk_drewN ?_ _ | refine blk_drew ?_ | refine blk_alloc ?_ _)); exact BK192.out⟩, ⟨by (with_reducible repeat (first | refine blk_drewN ?_ _ | refine blk_drew ?_ | refine blk_alloc ?_ _)); refine blk_put (cs := #[.int .i64 ((rd_T52 l0_3 x6_4).f0), .slice none 0 0]) ?_ 1 _ rfl; (with_reducible repeat (first | refine blk_drewN ?_ _ | refine blk_drew ?_ | refine blk_alloc ?_ _)); refine blk_put (cs := #[.int .i64 0, .slice none 0 0]) ?_ 0 _ rfl; (with_reducible repeat (first | refine blk_drewN ?_ _ | refine blk_drew ?_ | refine blk_alloc ?_ _)); exact BK196.out⟩, ⟨by repeat (first | (with_reducible first | exact HB.out | apply below_alloc | apply pw_below_drewN | apply below_drew1 | refine below_set ?_ GE192.out | refine below_set ?_ GE196.out) | exact HB.out)⟩⟩
                      · rw [if_neg c35] at H
                        have c35b0 : decide (((rd_T52 l0_3 x6_4).f0) < 0) = false := decide_eq_false c35
                        clear c35
                        (first | rw [c35b0] | (simp only [i64_w, i32_w]; rw [c35b0]) | skip)
                        have H' := Aside0.mk H
                        clear H
                        have hnb38 := NB196_192.out
                        have hnc38 := NB192_196.out
                        have hcz39_0 : w32.cell? ⟨gb196, 0, none⟩ = some (.int .i64 0) := (blk_cell BK196.out 0).trans rfl
                        have hcz39_1 : w32.cell? ⟨gb196, 1, none⟩ = some (.slice none 0 0) := (blk_cell BK196.out 1).trans rfl
                        have hfz39_0 := blk_frozen BK196.out 0
                        have hfz39_1 := blk_frozen BK196.out 1
                        go_wp2
                        go_meet
                        case rel => exact ⟨_, (decide (((rd_T52 l0_3 x6_4).f0) ≥ (l0_1.length : Int))), (by first | rfl | (simp; done) | (simp [*]; done)), H', ⟨by have := HJ1.out; have := HJ9.out; have := HJ16.out; have := HK4.out; first | omega | exact Nat.le_refl _⟩, ⟨by (with_reducible repeat (first | refine blk_drewN ?_ _ | refine blk_drew ?_ | refine blk_alloc ?_ _)); refine blk_far ?_ NB192_196.out _; (with_reducible repeat (first | refine blk_drewN ?_ _ | refine blk_drew ?_ | refine blk_alloc ?_ _)); refine blk_far ?_ NB192_196.out _; (with_reducible repeat (first | refine blk_drewN ?_ _ | refine blk_drew ?_ | refine blk_alloc ?_ _)); exact BK192.out⟩, ⟨by (with_reducible repeat (first | refine blk_drewN ?_ _ | refine blk_drew ?_ | refine blk_alloc ?_ _)); refine blk_put (cs := #[.int .i64 ((rd_T52 l0_3 x6_4).f0), .slice none 0 0]) ?_ 1 _ rfl; (with_reducible repeat (first | refine blk_drewN ?_ _ | refine blk_drew ?_ | refine blk_alloc ?_ _)); refine blk_put (cs := #[.int .i64 0, .slice none 0 0]) ?_ 0 _ rfl; (with_reducible repeat (first | refine blk_drewN ?_ _ | refine blk_drew ?_ | refine blk_alloc ?_ _)); exact BK196.out⟩, ⟨by repeat (first | (with_reducible first | exact HB.out | apply below_alloc | apply pw_below_drewN | apply below_drew1 | refine below_set ?_ GE192.out | refine below_set ?_ GE196.out) | exact HB.out)⟩⟩
                     case rest =>
                      clear HC30
                      try clear c1
                      try clear p1
                      try clear q1
                      try clear hx1
                      try clear c2
                      try clear p2
                      try clear c3
                      try clear c5
                      try clear c5b0
                      try clear c5b1
                      try clear c6
                      try clear c6b0
                      try clear c6b1
                      try clear p6
                      try clear c7
                      try clear c7b0
                      try clear c8
                      try clear c9
                      try clear c12
                      try clear c16
                      try clear c18
                      try clear c18b0
                      try clear c18b1
                      try clear c18b2
                      try clear c19
                      try clear c19b0
                      try clear p19
                      try clear q19
                      try clear hx19
                      try clear c22
                      try clear c23
                      try clear c23b0
                      try clear c24
                      try clear c24b0
                      try clear c25
                      try clear c25b0
                      try clear c25b1
                      try clear c28
                      try clear c33
                      try clear c35
                      try clear c35b0
                      try clear c36
                      try clear c38
                      try clear hcz14_0
                      try clear hcz14_1
                      try clear hcz14_2
                      try clear hcz14_3
                      try clear hcz15_0
                      try clear hcz15_1
                      try clear hcz15_2
                      try clear hcz15_3
                      try clear hcz20_0
                      try clear hcz20_1
                      try clear hcz20_2
                      try clear hcz20_3
                      try clear hcz21_0
                      try clear hcz21_1
                      try clear hcz21_2
                      try clear hcz21_3
                      try clear hcz26_0
                      try clear hcz26_1
                      try clear hcz26_2
                      try clear hcz26_3
                      try clear hcz29_0
                      try clear hcz29_1
                      try clear hcz31_0
                      try clear hcz31_1
                      try clear hcz31_2
                      try clear hcz31_3
                      try clear hcz34_0
                      try clear hcz34_1
                      try clear hcz37_0
                      try clear hcz37_1
                      try clear hcz39_0
                      try clear hcz39_1
                      try clear hcz4_0
                      try clear hcz4_1
                      try clear hcz4_2
                      try clear hcz4_3
                      try clear hcz8_0
                      try clear hcz8_1
                      try clear hcz8_2
                      try clear hcz8_3
                      try clear hfz14_0
                      try clear hfz14_1
                      try clear hfz14_2
                      try clear hfz14_3
                      try clear hfz15_0
                      try clear hfz15_1
                      try clear hfz15_2
                      try clear hfz15_3
                      try clear hfz20_0
                      try clear hfz20_1
                      try clear hfz20_2
                      try clear hfz20_3
                      try clear hfz21_0
                      try clear hfz21_1
                      try clear hfz21_2
                      try clear hfz21_3
                      try clear hfz26_0
                      try clear hfz26_1
                      try clear hfz26_2
                      try clear hfz26_3
                      try clear hfz29_0
                      try clear hfz29_1
                      try clear hfz31_0
                      try clear hfz31_1
                      try clear hfz31_2
                      try clear hfz31_3
                      try clear hfz34_0
                      try clear hfz34_1
                      try clear hfz37_0
                      try clear hfz37_1
                      try clear hfz39_0
                      try clear hfz39_1
                      try clear hfz4_0
                      try clear hfz4_1
                      try clear hfz4_2
                      try clear hfz4_3
                      try clear hfz8_0
                      try clear hfz8_1
                      try clear hfz8_2
                      try clear hfz8_3
                      try clear hx195_0
                      try clear hx195_1
                      try clear p195
                      try clear p2
                      try clear p6
                      try clear q195
                      obtain ⟨kq, x81_29, rfl, HA, HJ29, BK192, BK196, HB⟩ := hcut
                      cases kq with
                      | zero => exact absurd HA.out (by simp [dovetailref03_Check.j4])
                      | succ kj29 =>
                       have H := HA.out
                       clear HA
                       simp only [dovetailref03_Check.j4] at H
                       by_cases c40 : x81_29 = true
                       · subst c40
                         have H1 : (some (1, x6_4)) = some (r1, r2) := by rw [if_pos rfl] at H; exact H
                         clear H
                         have H := H1
                         clear H1
                         simp only [Option.some.injEq, Prod.mk.injEq] at H
                         obtain ⟨rfl, rfl⟩ := H
                         go_wp2
                         go_ret2
                         exact ⟨by first | rfl | (simp [errW_none, errW_some] <;> rfl) | (simp [*, errW_none, errW_some] <;> rfl), by repeat (first | (with_reducible first | exact HB.out | apply below_alloc | apply pw_below_drewN | apply below_drew1 | refine below_set ?_ GE192.out | refine below_set ?_ GE196.out) | exact HB.out)⟩
                       · replace c40 := Bool.eq_false_iff.mpr c40
                         subst c40
                         have H1 : (dovetailref03_Check.l1 kj29 (l0_0.length : Int) (l0_1.length : Int) x6_4 0 l0_0 l0_1 a0_2 l0_3 ((rd_T52 l0_3 x6_4).f0) ((rd_T52 l0_3 x6_4).f1)) = some (r1, r2) := by rw [if_neg (show ¬ (false = true) by decide)] at H; exact H
                         clear H
                         have H := H1
                         clear H1
                         have H' := Aside0.mk H
                         clear H
                         go_wp2
                         go_loopg [8] kj29 (fun kq v8 w' => ∃ (x8_6 : Int), v8 = .int .i64 x8_6 ∧ Aside0 (dovetailref03_Check.l1 kq (l0_0.length : Int) (l0_1.length : Int) x6_4 x8_6 l0_0 l0_1 a0_2 l0_3 ((rd_T52 l0_3 x6_4).f0) ((rd_T52 l0_3 x6_4).f1) = some (r1, r2)) ∧ Aside0 (kq ≤ kj29) ∧ Aside0 (w'.heap[gb192]? = some (.cells #[(.slice A0_0 l0_0.length c0_0), (.slice A0_1 l0_1.length c0_1), .int .i64 a0_2, (.slice (some ad195) l0_3.length c0_3)] 25 (0, 0))) ∧ Aside0 (w'.heap[gb196]? = some (.cells #[.int .i64 ((rd_T52 l0_3 x6_4).f0), (.slice A195_1 ((rd_T52 l0_3 x6_4).f1).length c195_1)] 52 (0, 0))) ∧ Aside0 (Below w.heap.size w w'))
                         case atStart => exact ⟨(0), (by first | rfl | (simp; done) | (simp [*]; done)), H', ⟨Nat.le_refl _⟩, ⟨by (with_reducible repeat (first | refine blk_drewN ?_ _ | refine blk_drew ?_ | refine blk_alloc ?_ _)); exact BK192.out⟩, ⟨by (with_reducible repeat (first | refine blk_drewN ?_ _ | refine blk_drew ?_ | refine blk_alloc ?_ _)); exact BK196.out⟩, ⟨by repeat (first | (with_reducible first | exact HB.out | apply below_alloc | apply pw_below_drewN | apply below_drew1 | refine below_set ?_ GE192.out | refine below_set ?_ GE196.out) | exact HB.out)⟩⟩
                         case round =>
                          clear H'
                          try clear c1
                          try clear p1
                          try clear q1
                          try clear hx1
                          try clear c2
                          try clear p2
                          try clear c3
                          try clear c4
                          try clear c5
                          try clear c5b0
                          try clear c5b1
                          try clear c6
                          try clear c6b0
                          try clear c6b1
                          try clear p6
                          try clear c7
                          try clear c7b0
                          try clear c8
                          try clear c9
                          try clear c12
                          try clear c16
                          try clear c18
                          try clear c18b0
                          try clear c18b1
                          try clear c18b2
                          try clear c19
                          try clear c19b0
                          try clear p19
                          try clear q19
                          try clear hx19
                          try clear c22
                          try clear c23
                          try clear c23b0
                          try clear c24
                          try clear c24b0
                          try clear c25
                          try clear c25b0
                          try clear c25b1
                          try clear c28
                          try clear c33
                          try clear c35
                          try clear c35b0
                          try clear c36
                          try clear c38
                          try clear c40
                          try clear hcz14_0
                          try clear hcz14_1
                          try clear hcz14_2
                          try clear hcz14_3
                          try clear hcz15_0
                          try clear hcz15_1
                          try clear hcz15_2
                          try clear hcz15_3
                          try clear hcz20_0
                          try clear hcz20_1
                          try clear hcz20_2
                          try clear hcz20_3
                          try clear hcz21_0
                          try clear hcz21_1
                          try clear hcz21_2
                          try clear hcz21_3
                          try clear hcz26_0
                          try clear hcz26_1
                          try clear hcz26_2
                          try clear hcz26_3
                          try clear hcz29_0
                          try clear hcz29_1
                          try clear hcz31_0
                          try clear hcz31_1
                          try clear hcz31_2
                          try clear hcz31_3
                          try clear hcz34_0
                          try clear hcz34_1
                          try clear hcz37_0
                          try clear hcz37_1
                          try clear hcz39_0
                          try clear hcz39_1
                          try clear hcz4_0
                          try clear hcz4_1
                          try clear hcz4_2
                          try clear hcz4_3
                          try clear hcz8_0
                          try clear hcz8_1
                          try clear hcz8_2
                          try clear hcz8_3
                          try clear hfz14_0
                          try clear hfz14_1
                          try clear hfz14_2
                          try clear hfz14_3
                          try clear hfz15_0
                          try clear hfz15_1
                          try clear hfz15_2
                          try clear hfz15_3
                          try clear hfz20_0
                          try clear hfz20_1
                          try clear hfz20_2
                          try clear hfz20_3
                          try clear hfz21_0
                          try clear hfz21_1
                          try clear hfz21_2
                          try clear hfz21_3
                          try clear hfz26_0
                          try clear hfz26_1
                          try clear hfz26_2
                          try clear hfz26_3
                          try clear hfz29_0
                          try clear hfz29_1
                          try clear hfz31_0
                          try clear hfz31_1
                          try clear hfz31_2
                          try clear hfz31_3
                          try clear hfz34_0
                          try clear hfz34_1
                          try clear hfz37_0
                          try clear hfz37_1
                          try clear hfz39_0
                          try clear hfz39_1
                          try clear hfz4_0
                          try clear hfz4_1
                          try clear hfz4_2
                          try clear hfz4_3
                          try clear hfz8_0
                          try clear hfz8_1
                          try clear hfz8_2
                          try clear hfz8_3
                          try clear hx195_0
                          try clear hx195_1
                          try clear p1
                          try clear p19
                          try clear p195
                          try clear p2
                          try clear p6
                          try clear q1
                          try clear q19
                          try clear q195
                          obtain ⟨x8_6, rfl, HA, HK6, BK192, BK196, HB⟩ := hrel
                          cases gk with
                          | zero => exact absurd HA.out (by simp [dovetailref03_Check.l1])
                          | succ k6 =>
                           have H := HA.out
                           clear HA
                           simp only [dovetailref03_Check.l1] at H
                           by_cases c41 : x8_6 < (((rd_T52 l0_3 x6_4).f1).length : Int)
                           · rw [if_pos c41] at H
                             have c41b0 : decide (x8_6 < (((rd_T52 l0_3 x6_4).f1).length : Int)) = true := decide_eq_true c41
                             clear c41
                             by_cases c42 : 0 ≤ x8_6
                             · rw [if_pos c42] at H
                               have c42b0 : decide (0 ≤ x8_6) = true := decide_eq_true c42
                               clear c42
                               by_cases c43 : (rd ((rd_T52 l0_3 x6_4).f1) x8_6) ≥ (l0_0.length : Int)
                               · rw [if_pos c43] at H
                                 have c43b0 : decide ((l0_0.length : Int) ≤ (rd ((rd_T52 l0_3 x6_4).f1) x8_6)) = true := decide_eq_true c43
                                 clear c43
                                 simp only [Option.some.injEq, Prod.mk.injEq] at H
                                 obtain ⟨rfl, rfl⟩ := H
                                 have hnb44 := NB196_192.out
                                 have hnc44 := NB192_196.out
                                 have hcz45_0 : wr.cell? ⟨gb196, 0, none⟩ = some (.int .i64 ((rd_T52 l0_3 x6_4).f0)) := (blk_cell BK196.out 0).trans rfl
                                 have hcz45_1 : wr.cell? ⟨gb196, 1, none⟩ = some (.slice A195_1 ((rd_T52 l0_3 x6_4).f1).length c195_1) := (blk_cell BK196.out 1).trans rfl
                                 have hfz45_0 := blk_frozen BK196.out 0
                                 have hfz45_1 := blk_frozen BK196.out 1
                                 have p197 : 0 ≤ (x8_6 : Int) := of_decide_eq_true (by first | (with_reducible assumption) | assumption)
                                 have q197 : x8_6 < (((rd_T52 l0_3 x6_4).f1).length : Int) := of_decide_eq_true (by first | (with_reducible assumption) | assumption)
                                 obtain ⟨ad197, e197, hx197_0⟩ := Kd.at_int HR195_1.out x8_6 p197 q197
                                 cases e197
                                 replace hx197_0 := (HB.out.cell (World.block_lt_of_cell? w _ hx197_0)).trans hx197_0
                                 replace p197 := eq_true p197
                                 replace q197 := eq_true q197
                                 go_wp2
                                 go_ret2
                                 exact ⟨by first | rfl | (simp [errW_none, errW_some] <;> rfl) | (simp [*, errW_none, errW_some] <;> rfl), by repeat (first | (with_reducible first | exact HB.out | apply below_alloc | apply pw_below_drewN | apply below_drew1 | refine below_set ?_ GE192.out | refine below_set ?_ GE196.out) | exact HB.out)⟩
                               · rw [if_neg c43] at H
                                 have c43b0 : decide ((l0_0.length : Int) ≤ (rd ((rd_T52 l0_3 x6_4).f1) x8_6)) = false := decide_eq_false c43
                                 clear c43
                                 by_cases c46 : (rd ((rd_T52 l0_3 x6_4).f1) x8_6) < (wrap64 (-(l0_1.length : Int)))
                                 · rw [if_pos c46] at H
                                   have c46b0 : decide ((rd ((rd_T52 l0_3 x6_4).f1) x8_6) < (wrap64 (-(l0_1.length : Int)))) = true := decide_eq_true c46
                                   clear c46
                                   simp only [Option.some.injEq, Prod.mk.injEq] at H
                                   obtain ⟨rfl, rfl⟩ := H
                                   have hnb47 := NB196_192.out
                                   have hnc47 := NB192_196.out
                                   have hcz48_0 : wr.cell? ⟨gb196, 0, none⟩ = some (.int .i64 ((rd_T52 l0_3 x6_4).f0)) := (blk_cell BK196.out 0).trans rfl
                                   have hcz48_1 : wr.cell? ⟨gb196, 1, none⟩ = some (.slice A195_1 ((rd_T52 l0_3 x6_4).f1).length c195_1) := (blk_cell BK196.out 1).trans rfl
                                   have hfz48_0 := blk_frozen BK196.out 0
                                   have hfz48_1 := blk_frozen BK196.out 1
                                   have p197 : 0 ≤ (x8_6 : Int) := of_decide_eq_true (by first | (with_reducible assumption) | assumption)
                                   have q197 : x8_6 < (((rd_T52 l0_3 x6_4).f1).length : Int) := of_decide_eq_true (by first | (with_reducible assumption) | assumption)
                                   obtain ⟨ad197, e197, hx197_0⟩ := Kd.at_int HR195_1.out x8_6 p197 q197
                                   cases e197
                                   replace hx197_0 := (HB.out.cell (World.block_lt_of_cell? w _ hx197_0)).trans hx197_0
                                   replace p197 := eq_true p197
                                   replace q197 := eq_true q197
                                   have p198 : 0 ≤ (x8_6 : Int) := of_decide_eq_true (by first | (with_reducible assumption) | assumption)
                                   have q198 : x8_6 < (((rd_T52 l0_3 x6_4).f1).length : Int) := of_decide_eq_true (by first | (with_reducible assumption) | assumption)
                                   obtain ⟨ad198, e198, hx198_0⟩ := Kd.at_int HR195_1.out x8_6 p198 q198
                                   obtain rfl : ad197 = ad198 := (by injection e198)
                                   replace hx198_0 := (HB.out.cell (World.block_lt_of_cell? w _ hx198_0)).trans hx198_0
                                   replace p198 := eq_true p198
                                   replace q198 := eq_true q198
                                   go_wp2
                                   go_ret2
                                   exact ⟨by first | rfl | (simp [errW_none, errW_some] <;> rfl) | (simp [*, errW_none, errW_some] <;> rfl), by repeat (first | (with_reducible first | exact HB.out | apply below_alloc | apply pw_below_drewN | apply below_drew1 | refine below_set ?_ GE192.out | refine below_set ?_ GE196.out) | exact HB.out)⟩
                                 · rw [if_neg c46] at H
                                   have c46b0 : decide ((rd ((rd_T52 l0_3 x6_4).f1) x8_6) < (wrap64 (-(l0_1.length : Int)))) = false := decide_eq_false c46
                                   clear c46
                                   have H' := Aside0.mk H
                                   clear H
                                   have hnb49 := NB196_192.out
                                   have hnc49 := NB192_196.out
                                   have hcz50_0 : wr.cell? ⟨gb196, 0, none⟩ = some (.int .i64 ((rd_T52 l0_3 x6_4).f0)) := (blk_cell BK196.out 0).trans rfl
                                   have hcz50_1 : wr.cell? ⟨gb196, 1, none⟩ = some (.slice A195_1 ((rd_T52 l0_3 x6_4).f1).length c195_1) := (blk_cell BK196.out 1).trans rfl
                                   have hfz50_0 := blk_frozen BK196.out 0
                                   have hfz50_1 := blk_frozen BK196.out 1
                                   have p197 : 0 ≤ (x8_6 : Int) := of_decide_eq_true (by first | (with_reducible assumption) | assumption)
                                   have q197 : x8_6 < (((rd_T52 l0_3 x6_4).f1).length : Int) := of_decide_eq_true (by first | (with_reducible assumption) | assumption)
                                   obtain ⟨ad197, e197, hx197_0⟩ := Kd.at_int HR195_1.out x8_6 p197 q197
                                   cases e197
                                   replace hx197_0 := (HB.out.cell (World.block_lt_of_cell? w _ hx197_0)).trans hx197_0
                                   replace p197 := eq_true p197
                                   replace q197 := eq_true q197
                                   have p198 : 0 ≤ (x8_6 : Int) := of_decide_eq_true (by first | (with_reducible assumption) | assumption)
                                   have q198 : x8_6 < (((rd_T52 l0_3 x6_4).f1).length : Int) := of_decide_eq_true (by first | (with_reducible assumption) | assumption)
                                   obtain ⟨ad198, e198, hx198_0⟩ := Kd.at_int HR195_1.out x8_6 p198 q198
                                   obtain rfl : ad197 = ad198 := (by injection e198)
                                   replace hx198_0 := (HB.out.cell (World.block_lt_of_cell? w _ hx198_0)).trans hx198_0
                                   replace p198 := eq_true p198
                                   replace q198 := eq_true q198
                                   go_wp2
                                   go_roundg k6
                                   case measure => have := HJ1.out; have := HJ9.out; have := HJ16.out; have := HK4.out; have := HJ29.out; have := HK6.out; omega
                                   case rel => exact ⟨(wrap64 (x8_6 + 1)), (by first | rfl | (simp; done) | (simp [*]; done)), H', ⟨by have := HJ1.out; have := HJ9.out; have := HJ16.out; have := HK4.out; have := HJ29.out; have := HK6.out; omega⟩, ⟨by (with_reducible repeat (first | refine blk_drewN ?_ _ | refine blk_drew ?_ | refine blk_alloc ?_ _)); exact BK192.out⟩, ⟨by (with_reducible repeat (first | refine blk_drewN ?_ _ | refine blk_drew ?_ | refine blk_alloc ?_ _)); exact BK196.out⟩, ⟨by repeat (first | (with_reducible first | exact HB.out | apply below_alloc | apply pw_below_drewN | apply below_drew1 | refine below_set ?_ GE192.out | refine below_set ?_ GE196.out) | exact HB.out)⟩⟩
                             · rw [if_neg c42] at H
                               exact absurd H (by simp)
                           · rw [if_neg c41] at H
                             have c41b0 : decide (x8_6 < (((rd_T52 l0_3 x6_4).f1).length : Int)) = false := decide_eq_false c41
                             clear c41
                             have H' := Aside0.mk H
                             clear H
                             have hnb51 := NB196_192.out
                             have hnc51 := NB192_196.out
                             have hcz52_0 : wr.cell? ⟨gb196, 0, none⟩ = some (.int .i64 ((rd_T52 l0_3 x6_4).f0)) := (blk_cell BK196.out 0).trans rfl
                             have hcz52_1 : wr.cell? ⟨gb196, 1, none⟩ = some (.slice A195_1 ((rd_T52 l0_3 x6_4).f1).length c195_1) := (blk_cell BK196.out 1).trans rfl
                             have hfz52_0 := blk_frozen BK196.out 0
                             have hfz52_1 := blk_frozen BK196.out 1
                             go_wp2
                             go_roundg k6
                             case measure => have := HJ1.out; have := HJ9.out; have := HJ16.out; have := HK4.out; have := HJ29.out; have := HK6.out; omega
                             case rel => exact ⟨(wrap64 (x6_4 + 1)), (by first | rfl | (simp; done) | (simp [*]; done)), H', ⟨by have := HJ1.out; have := HJ9.out; have := HJ16.out; have := HK4.out; have := HJ29.out; have := HK6.out; omega⟩, ⟨by (with_reducible repeat (first | refine blk_drewN ?_ _ | refine blk_drew ?_ | refine blk_alloc ?_ _)); exact BK192.out⟩, ⟨by repeat (first | (with_reducible first | exact HB.out | apply below_alloc | apply pw_below_drewN | apply below_drew1 | refine below_set ?_ GE192.out | refine below_set ?_ GE196.out) | exact HB.out)⟩⟩
                 · rw [if_neg c24] at H
                   exact absurd H (by simp)
               · rw [if_neg c23] at H
                 have c23b0 : decide (x6_4 < (l0_3.length : Int)) = false := decide_eq_false c23
                 clear c23
                 simp only [Option.some.injEq, Prod.mk.injEq] at H
                 obtain ⟨rfl, rfl⟩ := H
                 have hcz53_0 : wr.cell? ⟨gb192, 0, none⟩ = some (.slice A0_0 l0_0.length c0_0) := (blk_cell BK192.out 0).trans rfl
                 have hcz53_1 : wr.cell? ⟨gb192, 1, none⟩ = some (.slice A0_1 l0_1.length c0_1) := (blk_cell BK192.out 1).trans rfl
                 have hcz53_2 : wr.cell? ⟨gb192, 2, none⟩ = some (.int .i64 a0_2) := (blk_cell BK192.out 2).trans rfl
                 have hcz53_3 : wr.cell? ⟨gb192, 3, none⟩ = some (.slice A0_3 l0_3.length c0_3) := (blk_cell BK192.out 3).trans rfl
                 have hfz53_0 := blk_frozen BK192.out 0
                 have hfz53_1 := blk_frozen BK192.out 1
                 have hfz53_2 := blk_frozen BK192.out 2
                 have hfz53_3 := blk_frozen BK192.out 3
                 go_wp2
                 go_ret2
                 exact ⟨by first | rfl | (simp [errW_none, errW_some] <;> rfl) | (simp [*, errW_none, errW_some] <;> rfl), by repeat (first | (with_reducible first | exact HB.out | apply below_alloc | apply pw_below_drewN | apply below_drew1 | refine below_set ?_ GE192.out) | exact HB.out)⟩

end Go.Proofs.YthjhaogfpdkhbaaDoor.B
namespace Go.Proofs.YthjhaogfpdkhbaaDoor.B
open Go.RowKit Go.Proofs.YthjhaogfpdkhbaaDoorW.PrintWords Go.Proofs.YthjhaogfpdkhbaaDoorW.PrintLast Go.Proofs.YthjhaogfpdkhbaaDoorW.PrintMore
attribute [local go_sem] max2_int min2_int max_two min_two max_three min_three max_four min_four   -- for this text's walks alone
set_option linter.unusedVariables false
set_option linter.unusedSimpArgs false

def dovetailref05_rises.l0 : Nat → List Int → Int → Int → Int → Option (Bool)
 | 0, _, _, _, _ => none
 | k + 1, x0, x1, x5, x6 => if x6 < (x0.length : Int) then (if 0 ≤ x6 then (if (rd x0 x6) > x5 then (some false) else (if (rd x0 x6) = x5 then (dovetailref05_rises.l0 k x0 x1 (wrap64 (x5 + 1)) (wrap64 (x6 + 1))) else (dovetailref05_rises.l0 k x0 x1 x5 (wrap64 (x6 + 1))))) else (none)) else (some (x5 == x1))
def dovetailref05_rises.f (k : Nat) (l0 : List Int) (a1 : Int) : Option (Bool) := dovetailref05_rises.l0 k l0 a1 0 0
theorem dovetailref05_rises.mono_l : ∀ k, (∀ y0 y1 y2 y3, LeO (dovetailref05_rises.l0 k y0 y1 y2 y3) (dovetailref05_rises.l0 (k + 1) y0 y1 y2 y3))
 | 0 => fun _ _ _ _ r h => by simp [dovetailref05_rises.l0] at h
 | k + 1 => by
  have ih0 := dovetailref05_rises.mono_l k
  · intro y0 y1 y2 y3
    unfold dovetailref05_rises.l0
    repeat' first
    | (with_reducible exact ih0 _ _ _ _)
    | (with_reducible exact LeO.refl _)
    | (with_reducible exact LeO.none _)
    | (with_reducible refine LeO.ite ?_ ?_)
    | (with_reducible refine LeO.bind ?_ (fun _ => ?_))
    | exact ih0 _ _ _ _
    | exact LeO.none _
    | refine LeO.ite ?_ ?_
    | refine LeO.bind ?_ (fun _ => ?_)
theorem dovetailref05_rises.mono : ∀ a0 a1 k, LeO (dovetailref05_rises.f k a0 a1) (dovetailref05_rises.f (k + 1) a0 a1) := by
 intro a0 a1 k
 have ih0 := dovetailref05_rises.mono_l k
 unfold dovetailref05_rises.f
 repeat' first
  | (with_reducible exact ih0 _ _ _ _)
  | (with_reducible exact LeO.refl _)
  | (with_reducible exact LeO.none _)
  | (with_reducible refine LeO.ite ?_ ?_)
  | (with_reducible refine LeO.bind ?_ (fun _ => ?_))
  | exact ih0 _ _ _ _
  | exact LeO.none _
  | refine LeO.ite ?_ ?_
  | refine LeO.bind ?_ (fun _ => ?_)
set_option maxHeartbeats 8000000 in
set_option maxRecDepth 100000 in
theorem dovetailref05_rises.calls (k : Nat) (A0 : Option Addr) (c0 : Nat) (l0 : List Int) (a1 : Int) (r : Bool) (w : World) (hr0 : Kd.C (Kd.int .i64) w A0 l0.length l0) (hc0 : l0.length ≤ c0) (h : dovetailref05_rises.f k l0 a1 = some r) :
 Calls Tryd.prog 68 #[.slice A0 l0.length c0, .int .i64 a1] w fun e w' => e = .returned (.bool r) ∧ Drawn0 w w' := by
 have HR0 := Aside0.mk hr0
 have HC0 := Aside0.mk hc0
 clear hr0 hc0
 have H : (dovetailref05_rises.l0 k l0 a1 0 0) = some r := h
 clear h
 have H' := Aside0.mk H
 clear H
 go_enter Tryd.func68, Tryd.ntmps68
 go_wp2
 go_loopg [5, 6] k (fun kq v5 v6 w' => ∃ (x5_1 : Int) (x6_1 : Int), v5 = .int .i64 x5_1 ∧ v6 = .int .i64 x6_1 ∧ Aside0 (dovetailref05_rises.l0 kq l0 a1 x5_1 x6_1 = some r) ∧ Aside0 (kq ≤ k) ∧ Drawn0 w w')
 case atStart => exact ⟨(0), (0), (by first | rfl | (simp; done) | (simp [*]; done)), (by first | rfl | (simp; done) | (simp [*]; done)), H', ⟨Nat.le_refl _⟩, by repeat (first | exact Drawn0.refl _ | apply Drawn0.step)⟩
 case round =>
  clear H'
  try clear p2
  obtain ⟨x5_1, x6_1, rfl, rfl, HA, HK1, ⟨m1, rfl⟩⟩ := hrel
  cases gk with
  | zero => exact absurd HA.out (by simp [dovetailref05_rises.l0])
  | succ k1 =>
   have H := HA.out
   clear HA
   simp only [dovetailref05_rises.l0] at H
   by_cases c3 : x6_1 < (l0.length : Int)
   · rw [if_pos c3] at H
     have c3b0 : decide (x6_1 < (l0.length : Int)) = true := decide_eq_true c3
     clear c3
     by_cases c4 : 0 ≤ x6_1
     · rw [if_pos c4] at H
       have c4b0 : decide (0 ≤ x6_1) = true := decide_eq_true c4
       clear c4
       by_cases c5 : (rd l0 x6_1) > x5_1
       · rw [if_pos c5] at H
         have c5b0 : decide (x5_1 < (rd l0 x6_1)) = true := decide_eq_true c5
         clear c5
         obtain rfl := Option.some.inj H
         have p209 : 0 ≤ (x6_1 : Int) := of_decide_eq_true (by first | (with_reducible assumption) | assumption)
         have q209 : x6_1 < (l0.length : Int) := of_decide_eq_true (by first | (with_reducible assumption) | assumption)
         obtain ⟨ad209, e209, hx209_0⟩ := Kd.at_int HR0.out x6_1 p209 q209
         cases e209
         replace p209 := eq_true p209
         replace q209 := eq_true q209
         go_wp2
         go_ret
         exact ⟨by first | rfl | (simp; done) | (simp [*]; done), by repeat (first | exact Drawn0.refl _ | apply Drawn0.step)⟩
       · rw [if_neg c5] at H
         have c5b0 : decide (x5_1 < (rd l0 x6_1)) = false := decide_eq_false c5
         clear c5
         by_cases c6 : (rd l0 x6_1) = x5_1
         · rw [if_pos c6] at H
           have c6b0 : ((rd l0 x6_1) == x5_1) = true := beq_iff_eq.mpr c6
           have c6b1 : ((rd l0 x6_1) != x5_1) = false := bne_eq_false_iff_eq.mpr c6
           clear c6
           have H' := Aside0.mk H
           clear H
           have p209 : 0 ≤ (x6_1 : Int) := of_decide_eq_true (by first | (with_reducible assumption) | assumption)
           have q209 : x6_1 < (l0.length : Int) := of_decide_eq_true (by first | (with_reducible assumption) | assumption)
           obtain ⟨ad209, e209, hx209_0⟩ := Kd.at_int HR0.out x6_1 p209 q209
           cases e209
           replace p209 := eq_true p209
           replace q209 := eq_true q209
           have p210 : 0 ≤ (x6_1 : Int) := of_decide_eq_true (by first | (with_reducible assumption) | assumption)
           have q210 : x6_1 < (l0.length : Int) := of_decide_eq_true (by first | (with_reducible assumption) | assumption)
           obtain ⟨ad210, e210, hx210_0⟩ := Kd.at_int HR0.out x6_1 p210 q210
           obtain rfl : ad209 = ad210 := (by injection e210)
           replace p210 := eq_true p210
           replace q210 := eq_true q210
           go_wp2
           go_roundg k1
           case measure => have := HK1.out; omega
           case rel => exact ⟨(wrap64 (x5_1 + 1)), (wrap64 (x6_1 + 1)), (by first | rfl | (simp; done) | (simp [*]; done)), (by first | rfl | (simp; done) | (simp [*]; done)), H', ⟨by have := HK1.out; omega⟩, by repeat (first | exact Drawn0.refl _ | apply Drawn0.step)⟩
         · rw [if_neg c6] at H
           have c6b0 : ((rd l0 x6_1) == x5_1) = false := beq_eq_false_iff_ne.mpr c6
           have c6b1 : ((rd l0 x6_1) != x5_1) = true := bne_iff_ne.mpr c6
           have H' := Aside0.mk H
           clear H
           have p209 : 0 ≤ (x6_1 : Int) := of_decide_eq_true (by first | (with_reducible assumption) | assumption)
           have q209 : x6_1 < (l0.length : Int) := of_decide_eq_true (by first | (with_reducible assumption) | assumption)
           obtain ⟨ad209, e209, hx209_0⟩ := Kd.at_int HR0.out x6_1 p209 q209
           cases e209
           replace p209 := eq_true p209
           replace q209 := eq_true q209
           have p210 : 0 ≤ (x6_1 : Int) := of_decide_eq_true (by first | (with_reducible assumption) | assumption)
           have q210 : x6_1 < (l0.length : Int) := of_decide_eq_true (by first | (with_reducible assumption) | assumption)
           obtain ⟨ad210, e210, hx210_0⟩ := Kd.at_int HR0.out x6_1 p210 q210
           obtain rfl : ad209 = ad210 := (by injection e210)
           replace p210 := eq_true p210
           replace q210 := eq_true q210
           go_wp2
           go_roundg k1
           case measure => have := HK1.out; omega
           case rel => exact ⟨(x5_1), (wrap64 (x6_1 + 1)), (by first | rfl | (simp; done) | (simp [*]; done)), (by first | rfl | (simp; done) | (simp [*]; done)), H', ⟨by have := HK1.out; omega⟩, by repeat (first | exact Drawn0.refl _ | apply Drawn0.step)⟩
     · rw [if_neg c4] at H
       exact absurd H (by simp)
   · rw [if_neg c3] at H
     have c3b0 : decide (x6_1 < (l0.length : Int)) = false := decide_eq_false c3
     clear c3
     obtain rfl := Option.some.inj H
     go_wp2
     go_ret
     exact ⟨by first | rfl | (simp; done) | (simp [*]; done), by repeat (first | exact Drawn0.refl _ | apply Drawn0.step)⟩

mutual
def dovetailref05_Readable.l0 : Nat → Int → List ByteArray → List ByteArray → Int → List (S52) → Option (Int)
 | 0, _, _, _, _, _ => none
 | k + 1, x5, x212000, x212001, x212002, x212003 => if x5 < (x212001.length : Int) then (if 0 ≤ x5 then ((dovetailref05_free.f k (rdOf ByteArray.empty x212001 x5)).bind fun t215 => (if t215 = true then (dovetailref05_Readable.l0 k (wrap64 (x5 + 1)) x212000 x212001 x212002 x212003) else (some 10))) else (none)) else (dovetailref05_Readable.l1 k ([] : List Int) ([] : List Int) 0 x212000 x212001 x212002 x212003)
def dovetailref05_Readable.l1 : Nat → List Int → List Int → Int → List ByteArray → List ByteArray → Int → List (S52) → Option (Int)
 | 0, _, _, _, _, _, _, _ => none
 | k + 1, x6, x7, x8, x212000, x212001, x212002, x212003 => if x8 < (x212003.length : Int) then (if 0 ≤ x8 then (if x6.length < 17592186044416 then (dovetailref05_Readable.l2 k (x6 ++ [(rd_T52 x212003 x8).f0]) x7 x8 0 x212000 x212001 x212002 x212003) else (none)) else (none)) else (if x212002 = 0 then ((dovetailref05_rises.f k x6 (x212001.length : Int)).bind fun t228 => (if t228 = true then ((dovetailref05_rises.f k x7 (x212000.length : Int)).bind fun t229 => (if t229 = true then (some 0) else (some 13))) else (some 13))) else (some 13))
def dovetailref05_Readable.l2 : Nat → List Int → List Int → Int → Int → List ByteArray → List ByteArray → Int → List (S52) → Option (Int)
 | 0, _, _, _, _, _, _, _, _ => none
 | k + 1, x6, x7, x8, x9, x212000, x212001, x212002, x212003 => if 0 ≤ x8 then (if x8 < (x212003.length : Int) then (if x9 < (((rd_T52 x212003 x8).f1).length : Int) then (if 0 ≤ x9 then (if (rd ((rd_T52 x212003 x8).f1) x9) ≥ 0 then (if x7.length < 17592186044416 then (dovetailref05_Readable.l2 k x6 (x7 ++ [rd ((rd_T52 x212003 x8).f1) x9]) x8 (wrap64 (x9 + 1)) x212000 x212001 x212002 x212003) else (none)) else (dovetailref05_Readable.l2 k x6 x7 x8 (wrap64 (x9 + 1)) x212000 x212001 x212002 x212003)) else (none)) else (dovetailref05_Readable.l1 k x6 x7 (wrap64 (x8 + 1)) x212000 x212001 x212002 x212003)) else (none)) else (none)
end
def dovetailref05_Readable.f (k : Nat) (l0_0 : List ByteArray) (l0_1 : List ByteArray) (a0_2 : Int) (l0_3 : List (S52)) : Option (Int) := (dovetailref03_Check.f k l0_0 l0_1 a0_2 l0_3).bind fun bt212 => (if bt212.1 = 0 then (dovetailref05_Readable.l0 k 0 l0_0 l0_1 a0_2 l0_3) else (some bt212.1))
theorem dovetailref05_Readable.mono_l : ∀ k, (∀ y0 y1 y2 y3 y4, LeO (dovetailref05_Readable.l0 k y0 y1 y2 y3 y4) (dovetailref05_Readable.l0 (k + 1) y0 y1 y2 y3 y4)) ∧ (∀ y0 y1 y2 y3 y4 y5 y6, LeO (dovetailref05_Readable.l1 k y0 y1 y2 y3 y4 y5 y6) (dovetailref05_Readable.l1 (k + 1) y0 y1 y2 y3 y4 y5 y6)) ∧ (∀ y0 y1 y2 y3 y4 y5 y6 y7, LeO (dovetailref05_Readable.l2 k y0 y1 y2 y3 y4 y5 y6 y7) (dovetailref05_Readable.l2 (k + 1) y0 y1 y2 y3 y4 y5 y6 y7))
 | 0 => ⟨fun _ _ _ _ _ r h => by simp [dovetailref05_Readable.l0] at h, fun _ _ _ _ _ _ _ r h => by simp [dovetailref05_Readable.l1] at h, fun _ _ _ _ _ _ _ _ r h => by simp [dovetailref05_Readable.l2] at h⟩
 | k + 1 => by
  obtain ⟨ih0, ih1, ih2⟩ := dovetailref05_Readable.mono_l k
  refine ⟨?_, ?_, ?_⟩
  · intro y0 y1 y2 y3 y4
    unfold dovetailref05_Readable.l0
    repeat' first
    | (with_reducible exact ih0 _ _ _ _ _)
    | (with_reducible exact ih1 _ _ _ _ _ _ _)
    | (with_reducible exact ih2 _ _ _ _ _ _ _ _)
    | (with_reducible exact dovetailref03_Check.mono _ _ _ _ _)
    | (with_reducible exact dovetailref05_free.mono _ _)
    | (with_reducible exact dovetailref05_rises.mono _ _ _)
    | (with_reducible exact LeO.refl _)
    | (with_reducible exact LeO.none _)
    | (with_reducible refine LeO.ite ?_ ?_)
    | (with_reducible refine LeO.bind ?_ (fun _ => ?_))
    | exact ih0 _ _ _ _ _
    | exact ih1 _ _ _ _ _ _ _
    | exact ih2 _ _ _ _ _ _ _ _
    | exact dovetailref03_Check.mono _ _ _ _ _
    | exact dovetailref05_free.mono _ _
    | exact dovetailref05_rises.mono _ _ _
    | exact LeO.none _
    | refine LeO.ite ?_ ?_
    | refine LeO.bind ?_ (fun _ => ?_)
  · intro y0 y1 y2 y3 y4 y5 y6
    unfold dovetailref05_Readable.l1
    repeat' first
    | (with_reducible exact ih0 _ _ _ _ _)
    | (with_reducible exact ih1 _ _ _ _ _ _ _)
    | (with_reducible exact ih2 _ _ _ _ _ _ _ _)
    | (with_reducible exact dovetailref03_Check.mono _ _ _ _ _)
    | (with_reducible exact dovetailref05_free.mono _ _)
    | (with_reducible exact dovetailref05_rises.mono _ _ _)
    | (with_reducible exact LeO.refl _)
    | (with_reducible exact LeO.none _)
    | (with_reducible refine LeO.ite ?_ ?_)
    | (with_reducible refine LeO.bind ?_ (fun _ => ?_))
    | exact ih0 _ _ _ _ _
    | exact ih1 _ _ _ _ _ _ _
    | exact ih2 _ _ _ _ _ _ _ _
    | exact dovetailref03_Check.mono _ _ _ _ _
    | exact dovetailref05_free.mono _ _
    | exact dovetailref05_rises.mono _ _ _
    | exact LeO.none _
    | refine LeO.ite ?_ ?_
    | refine LeO.bind ?_ (fun _ => ?_)
  · intro y0 y1 y2 y3 y4 y5 y6 y7
    unfold dovetailref05_Readable.l2
    repeat' first
    | (with_reducible exact ih0 _ _ _ _ _)
    | (with_reducible exact ih1 _ _ _ _ _ _ _)
    | (with_reducible exact ih2 _ _ _ _ _ _ _ _)
    | (with_reducible exact dovetailref03_Check.mono _ _ _ _ _)
    | (with_reducible exact dovetailref05_free.mono _ _)
    | (with_reducible exact dovetailref05_rises.mono _ _ _)
    | (with_reducible exact LeO.refl _)
    | (with_reducible exact LeO.none _)
    | (with_reducible refine LeO.ite ?_ ?_)
    | (with_reducible refine LeO.bind ?_ (fun _ => ?_))
    | exact ih0 _ _ _ _ _
    | exact ih1 _ _ _ _ _ _ _
    | exact ih2 _ _ _ _ _ _ _ _
    | exact dovetailref03_Check.mono _ _ _ _ _
    | exact dovetailref05_free.mono _ _
    | exact dovetailref05_rises.mono _ _ _
    | exact LeO.none _
    | refine LeO.ite ?_ ?_
    | refine LeO.bind ?_ (fun _ => ?_)
theorem dovetailref05_Readable.mono : ∀ a0 a1 a2 a3 k, LeO (dovetailref05_Readable.f k a0 a1 a2 a3) (dovetailref05_Readable.f (k + 1) a0 a1 a2 a3) := by
 intro a0 a1 a2 a3 k
 obtain ⟨ih0, ih1, ih2⟩ := dovetailref05_Readable.mono_l k
 unfold dovetailref05_Readable.f
 repeat' first
  | (with_reducible exact ih0 _ _ _ _ _)
  | (with_reducible exact ih1 _ _ _ _ _ _ _)
  | (with_reducible exact ih2 _ _ _ _ _ _ _ _)
  | (with_reducible exact dovetailref03_Check.mono _ _ _ _ _)
  | (with_reducible exact dovetailref05_free.mono _ _)
  | (with_reducible exact dovetailref05_rises.mono _ _ _)
  | (with_reducible exact LeO.refl _)
  | (with_reducible exact LeO.none _)
  | (with_reducible refine LeO.ite ?_ ?_)
  | (with_reducible refine LeO.bind ?_ (fun _ => ?_))
  | exact ih0 _ _ _ _ _
  | exact ih1 _ _ _ _ _ _ _
  | exact ih2 _ _ _ _ _ _ _ _
  | exact dovetailref03_Check.mono _ _ _ _ _
  | exact dovetailref05_free.mono _ _
  | exact dovetailref05_rises.mono _ _ _
  | exact LeO.none _
  | refine LeO.ite ?_ ?_
  | refine LeO.bind ?_ (fun _ => ?_)
set_option maxHeartbeats 8000000 in
set_option maxRecDepth 100000 in
theorem dovetailref05_Readable.calls (k : Nat) (A0_0 : Option Addr) (c0_0 : Nat) (l0_0 : List ByteArray) (A0_1 : Option Addr) (c0_1 : Nat) (l0_1 : List ByteArray) (a0_2 : Int) (A0_3 : Option Addr) (c0_3 : Nat) (l0_3 : List (S52)) (r : Int) (w : World) (hr0_0 : Kd.C Kd.string w A0_0 l0_0.length l0_0) (hc0_0 : l0_0.length ≤ c0_0) (hr0_1 : Kd.C Kd.string w A0_1 l0_1.length l0_1) (hc0_1 : l0_1.length ≤ c0_1) (hr0_3 : Kd.C k52 w A0_3 l0_3.length l0_3) (hc0_3 : l0_3.length ≤ c0_3) (h : dovetailref05_Readable.f k l0_0 l0_1 a0_2 l0_3 = some r) :
 Calls Tryd.prog 26 #[.agg #[.slice A0_0 l0_0.length c0_0, .slice A0_1 l0_1.length c0_1, .int .i64 a0_2, .slice A0_3 l0_3.length c0_3]] w fun e w' => e = .returned (.int .i64 r) ∧ Below w.heap.size w w' := by
 have hu25 := Tryd.underlying25
 have HR0_0 := Aside0.mk hr0_0
 have HC0_0 := Aside0.mk hc0_0
 clear hr0_0 hc0_0
 have HR0_1 := Aside0.mk hr0_1
 have HC0_1 := Aside0.mk hc0_1
 clear hr0_1 hc0_1
 have HR0_3 := Aside0.mk hr0_3
 have HC0_3 := Aside0.mk hc0_3
 clear hr0_3 hc0_3
 have HB := Aside0.mk (Below.refl w.heap.size w)
 have H : ((dovetailref03_Check.f k l0_0 l0_1 a0_2 l0_3).bind fun bt212 => (if bt212.1 = 0 then (dovetailref05_Readable.l0 k 0 l0_0 l0_1 a0_2 l0_3) else (some bt212.1))) = some r := h
 clear h
 replace H := Option.bind_eq_some_iff.mp H
 obtain ⟨⟨t212, t213⟩, A20, H⟩ := H
 replace H : (if t212 = 0 then (dovetailref05_Readable.l0 k 0 l0_0 l0_1 a0_2 l0_3) else (some t212)) = some r := H
 have A2 := Aside0.mk A20
 clear A20
 by_cases c3 : t212 = 0
 · rw [if_pos c3] at H
   have c3b0 : (t212 == 0) = true := beq_iff_eq.mpr c3
   have c3b1 : (t212 != 0) = false := bne_eq_false_iff_eq.mpr c3
   clear c3
   have H' := Aside0.mk H
   clear H
   go_enter Tryd.func26, Tryd.ntmps26
   go_wp2_with (first | ((with_reducible refine gate_dst (N := 1) rfl ?_); (try (refine gate_guard (by rfl) ?_; dsimp only)); refine box_event ?hg (N := 1) ?hd (cs := #[.slice A0_0 l0_0.length c0_0, .slice A0_1 l0_1.length c0_1, .int .i64 a0_2, .slice A0_3 l0_3.length c0_3]) (t := 25) ?hr ?_; (case hd => rfl); (case hg => rfl); (case hr => first | (go_simp; done) | (go_simp; rfl)); intro gb211 hg w4 hbox hb; have n0_ := Aside0.mk (below_step (by repeat (first | (with_reducible first | exact HB.out | apply below_alloc | apply pw_below_drewN | apply below_drew1) | exact HB.out)) hb); have n1_ := Aside0.mk (hbox); have n2_ := Aside0.mk ((by rw [hg]; exact (below_size (by repeat (first | (with_reducible first | exact HB.out | apply below_alloc | apply pw_below_drewN | apply below_drew1) | exact HB.out))) : w.heap.size ≤ gb211)); have n3_ := Aside0.mk ((by rw [hg]; exact (below_size (by repeat (first | (with_reducible first | exact HB.out | apply below_alloc | apply pw_below_drewN | apply below_drew1) | exact HB.out))) : w.heap.size ≤ gb211)); clear HB; have HB := n0_; have BK211 := n1_; have GW211 := n2_; have GE211 := n3_; clear n0_ n1_ n2_ n3_; clear hb hbox hg; have hcz5_0 : w4.cell? ⟨gb211, 0, none⟩ = some (.slice A0_0 l0_0.length c0_0) := (blk_cell BK211.out 0).trans rfl; have hcz5_1 : w4.cell? ⟨gb211, 1, none⟩ = some (.slice A0_1 l0_1.length c0_1) := (blk_cell BK211.out 1).trans rfl; have hcz5_2 : w4.cell? ⟨gb211, 2, none⟩ = some (.int .i64 a0_2) := (blk_cell BK211.out 2).trans rfl; have hcz5_3 : w4.cell? ⟨gb211, 3, none⟩ = some (.slice A0_3 l0_3.length c0_3) := (blk_cell BK211.out 3).trans rfl; have hfz5_0 := blk_frozen BK211.out 0; have hfz5_1 := blk_frozen BK211.out 1; have hfz5_2 := blk_frozen BK211.out 2; have hfz5_3 := blk_frozen BK211.out 3) | ((with_reducible refine gate_callee (f := 53) rfl ?_); refine goesL_ (some 12) rfl rfl Tryd.func53 (by kernel_rfl) rfl #[.agg #[.slice A0_0 l0_0.length c0_0, .slice A0_1 l0_1.length c0_1, .int .i64 a0_2, .slice A0_3 l0_3.length c0_3]] rfl (by (try simp only [List.map_toArray, List.map_cons, List.map_nil]); first | done | rfl | (simp only [List.length_drop, List.length_take]; rfl)) ?_; (with_reducible refine (dovetailref03_Check.calls k _ _ l0_0 _ _ l0_1 a0_2 _ _ l0_3 t212 t213 _ ?side1 ?side2 ?side3 ?side4 ?side5 ?side6 A2.out).mono ?_); (case side1 => repeat (first | exact (Kd.C_below HR0_0.out HB.out) | (with_reducible refine Kd.C_alloc ?_ _) | (with_reducible refine Kd.C_drewN ?_ _) | (with_reducible refine Kd.C_drew ?_))); (case side2 => exact HC0_0.out); (case side3 => repeat (first | exact (Kd.C_below HR0_1.out HB.out) | (with_reducible refine Kd.C_alloc ?_ _) | (with_reducible refine Kd.C_drewN ?_ _) | (with_reducible refine Kd.C_drew ?_))); (case side4 => exact HC0_1.out); (case side5 => repeat (first | exact (Kd.C_below HR0_3.out HB.out) | (with_reducible refine Kd.C_alloc ?_ _) | (with_reducible refine Kd.C_drewN ?_ _) | (with_reducible refine Kd.C_drew ?_))); (case side6 => exact HC0_3.out); rintro e w6 ⟨rfl, hb⟩; refine ⟨_, rfl, ?_⟩; have n0_ := Aside0.mk (blk_below (g := gb211) (o := .cells #[.slice A0_0 l0_0.length c0_0, .slice A0_1 l0_1.length c0_1, .int .i64 a0_2, .slice A0_3 l0_3.length c0_3] 25 (0, 0)) (by (with_reducible repeat (first | refine blk_drewN ?_ _ | refine blk_drew ?_ | refine blk_alloc ?_ _)); exact BK211.out) hb); have n1_ := Aside0.mk (below_step (by repeat (first | (with_reducible first | exact HB.out | apply below_alloc | apply pw_below_drewN | apply below_drew1 | refine below_set ?_ GE211.out) | exact HB.out)) hb); clear BK211; clear HB; have BK211 := n0_; have HB := n1_; clear n0_ n1_; (try clear hb); (try clear hb2); (try clear hk); (try clear hi)))
   go_loopg [5] k (fun kq v5 w' => ∃ (x5_1 : Int), v5 = .int .i64 x5_1 ∧ Aside0 (dovetailref05_Readable.l0 kq x5_1 l0_0 l0_1 a0_2 l0_3 = some r) ∧ Aside0 (kq ≤ k) ∧ Aside0 (w'.heap[gb211]? = some (.cells #[(.slice A0_0 l0_0.length c0_0), (.slice A0_1 l0_1.length c0_1), .int .i64 a0_2, (.slice A0_3 l0_3.length c0_3)] 25 (0, 0))) ∧ Aside0 (Below w.heap.size w w'))
   case atStart => exact ⟨(0), (by first | rfl | (simp; done) | (simp [*]; done)), H', ⟨Nat.le_refl _⟩, ⟨by (with_reducible repeat (first | refine blk_drewN ?_ _ | refine blk_drew ?_ | refine blk_alloc ?_ _)); exact BK211.out⟩, ⟨by repeat (first | (with_reducible first | exact HB.out | apply below_alloc | apply pw_below_drewN | apply below_drew1 | refine below_set ?_ GE211.out) | exact HB.out)⟩⟩
   case round =>
    clear H'
    try clear c2
    try clear p2
    try clear c3
    try clear c3b0
    try clear c3b1
    try clear c5
    try clear hcz5_0
    try clear hcz5_1
    try clear hcz5_2
    try clear hcz5_3
    try clear hfz5_0
    try clear hfz5_1
    try clear hfz5_2
    try clear hfz5_3
    obtain ⟨x5_1, rfl, HA, HK1, BK211, HB⟩ := hrel
    cases gk with
    | zero => exact absurd HA.out (by simp [dovetailref05_Readable.l0])
    | succ k1 =>
     have H := HA.out
     clear HA
     simp only [dovetailref05_Readable.l0] at H
     by_cases c7 : x5_1 < (l0_1.length : Int)
     · rw [if_pos c7] at H
       have c7b0 : decide (x5_1 < (l0_1.length : Int)) = true := decide_eq_true c7
       clear c7
       by_cases c8 : 0 ≤ x5_1
       · rw [if_pos c8] at H
         have c8b0 : decide (0 ≤ x5_1) = true := decide_eq_true c8
         clear c8
         replace H := Option.bind_eq_some_iff.mp H
         obtain ⟨t215, A90, H⟩ := H
         replace H : (if t215 = true then (dovetailref05_Readable.l0 k1 (wrap64 (x5_1 + 1)) l0_0 l0_1 a0_2 l0_3) else (some 10)) = some r := H
         have A9 := Aside0.mk A90
         clear A90
         by_cases c10 : t215 = true
         · subst c10
           have H1 : (dovetailref05_Readable.l0 k1 (wrap64 (x5_1 + 1)) l0_0 l0_1 a0_2 l0_3) = some r := by rw [if_pos rfl] at H; exact H
           clear H
           have H := H1
           clear H1
           have H' := Aside0.mk H
           clear H
           have hcz11_0 : wr.cell? ⟨gb211, 0, none⟩ = some (.slice A0_0 l0_0.length c0_0) := (blk_cell BK211.out 0).trans rfl
           have hcz11_1 : wr.cell? ⟨gb211, 1, none⟩ = some (.slice A0_1 l0_1.length c0_1) := (blk_cell BK211.out 1).trans rfl
           have hcz11_2 : wr.cell? ⟨gb211, 2, none⟩ = some (.int .i64 a0_2) := (blk_cell BK211.out 2).trans rfl
           have hcz11_3 : wr.cell? ⟨gb211, 3, none⟩ = some (.slice A0_3 l0_3.length c0_3) := (blk_cell BK211.out 3).trans rfl
           have hfz11_0 := blk_frozen BK211.out 0
           have hfz11_1 := blk_frozen BK211.out 1
           have hfz11_2 := blk_frozen BK211.out 2
           have hfz11_3 := blk_frozen BK211.out 3
           have p214 : 0 ≤ (x5_1 : Int) := of_decide_eq_true (by first | (with_reducible assumption) | assumption)
           have q214 : x5_1 < (l0_1.length : Int) := of_decide_eq_true (by first | (with_reducible assumption) | assumption)
           obtain ⟨ad214, e214, hx214_0⟩ := Kd.at_string HR0_1.out x5_1 p214 q214
           cases e214
           replace hx214_0 := (HB.out.cell (World.block_lt_of_cell? w _ hx214_0)).trans hx214_0
           replace p214 := eq_true p214
           replace q214 := eq_true q214
           go_wp2_with (first | ((with_reducible refine gate_callee (f := 61) rfl ?_); refine goesL_ (some 30) rfl rfl Tryd.func61 (by kernel_rfl) rfl #[.string (rdOf ByteArray.empty l0_1 x5_1)] rfl (by (try simp only [List.map_toArray, List.map_cons, List.map_nil]); first | done | rfl | (simp only [List.length_drop, List.length_take]; rfl)) ?_; (with_reducible refine (dovetailref05_free.calls k1 (rdOf ByteArray.empty l0_1 x5_1) true _ A9.out).mono ?_); rintro e w' ⟨rfl, ⟨nd, rfl⟩⟩; refine ⟨_, rfl, ?_⟩))
           go_roundg k1
           case measure => have := HK1.out; omega
           case rel => exact ⟨(wrap64 (x5_1 + 1)), (by first | rfl | (simp; done) | (simp [*]; done)), H', ⟨by have := HK1.out; omega⟩, ⟨by (with_reducible repeat (first | refine blk_drewN ?_ _ | refine blk_drew ?_ | refine blk_alloc ?_ _)); exact BK211.out⟩, ⟨by repeat (first | (with_reducible first | exact HB.out | apply below_alloc | apply pw_below_drewN | apply below_drew1 | refine below_set ?_ GE211.out) | exact HB.out)⟩⟩
         · replace c10 := Bool.eq_false_iff.mpr c10
           subst c10
           have H1 : (some 10) = some r := by rw [if_neg (show ¬ (false = true) by decide)] at H; exact H
           clear H
           have H := H1
           clear H1
           obtain rfl := Option.some.inj H
           have hcz12_0 : wr.cell? ⟨gb211, 0, none⟩ = some (.slice A0_0 l0_0.length c0_0) := (blk_cell BK211.out 0).trans rfl
           have hcz12_1 : wr.cell? ⟨gb211, 1, none⟩ = some (.slice A0_1 l0_1.length c0_1) := (blk_cell BK211.out 1).trans rfl
           have hcz12_2 : wr.cell? ⟨gb211, 2, none⟩ = some (.int .i64 a0_2) := (blk_cell BK211.out 2).trans rfl
           have hcz12_3 : wr.cell? ⟨gb211, 3, none⟩ = some (.slice A0_3 l0_3.length c0_3) := (blk_cell BK211.out 3).trans rfl
           have hfz12_0 := blk_frozen BK211.out 0
           have hfz12_1 := blk_frozen BK211.out 1
           have hfz12_2 := blk_frozen BK211.out 2
           have hfz12_3 := blk_frozen BK211.out 3
           have p214 : 0 ≤ (x5_1 : Int) := of_decide_eq_true (by first | (with_reducible assumption) | assumption)
           have q214 : x5_1 < (l0_1.length : Int) := of_decide_eq_true (by first | (with_reducible assumption) | assumption)
           obtain ⟨ad214, e214, hx214_0⟩ := Kd.at_string HR0_1.out x5_1 p214 q214
           cases e214
           replace hx214_0 := (HB.out.cell (World.block_lt_of_cell? w _ hx214_0)).trans hx214_0
           replace p214 := eq_true p214
           replace q214 := eq_true q214
           go_wp2_with (first | ((with_reducible refine gate_callee (f := 61) rfl ?_); refine goesL_ (some 30) rfl rfl Tryd.func61 (by kernel_rfl) rfl #[.string (rdOf ByteArray.empty l0_1 x5_1)] rfl (by (try simp only [List.map_toArray, List.map_cons, List.map_nil]); first | done | rfl | (simp only [List.length_drop, List.length_take]; rfl)) ?_; (with_reducible refine (dovetailref05_free.calls k1 (rdOf ByteArray.empty l0_1 x5_1) false _ A9.out).mono ?_); rintro e w' ⟨rfl, ⟨nd, rfl⟩⟩; refine ⟨_, rfl, ?_⟩))
           go_ret
           exact ⟨by first | rfl | (simp [errW_none, errW_some] <;> rfl) | (simp [*, errW_none, errW_some] <;> rfl), by repeat (first | (with_reducible first | exact HB.out | apply below_alloc | apply pw_below_drewN | apply below_drew1 | refine below_set ?_ GE211.out) | exact HB.out)⟩
       · rw [if_neg c8] at H
         exact absurd H (by simp)
     · rw [if_neg c7] at H
       have c7b0 : decide (x5_1 < (l0_1.length : Int)) = false := decide_eq_false c7
       clear c7
       have H' := Aside0.mk H
       clear H
       have hcz13_0 : wr.cell? ⟨gb211, 0, none⟩ = some (.slice A0_0 l0_0.length c0_0) := (blk_cell BK211.out 0).trans rfl
       have hcz13_1 : wr.cell? ⟨gb211, 1, none⟩ = some (.slice A0_1 l0_1.length c0_1) := (blk_cell BK211.out 1).trans rfl
       have hcz13_2 : wr.cell? ⟨gb211, 2, none⟩ = some (.int .i64 a0_2) := (blk_cell BK211.out 2).trans rfl
       have hcz13_3 : wr.cell? ⟨gb211, 3, none⟩ = some (.slice A0_3 l0_3.length c0_3) := (blk_cell BK211.out 3).trans rfl
       have hfz13_0 := blk_frozen BK211.out 0
       have hfz13_1 := blk_frozen BK211.out 1
       have hfz13_2 := blk_frozen BK211.out 2
       have hfz13_3 := blk_frozen BK211.out 3
       go_wp2
       go_loopg [6, 7, 8] k1 (fun kq v6 v7 v8 w' => ∃ (x6_2 : List Int) (x7_2 : List Int) (x8_2 : Int), v8 = .int .i64 x8_2 ∧ Aside0 (dovetailref05_Readable.l1 kq x6_2 x7_2 x8_2 l0_0 l0_1 a0_2 l0_3 = some r) ∧ Aside0 (kq ≤ k1) ∧ Aside0 (Kd.R (Kd.int .i64) 3 w' w.heap.size (fun k_ => some k_ ≠ (v7 : Value).ownBlock) v6 x6_2) ∧ Aside0 (Kd.R (Kd.int .i64) 3 w' w.heap.size (fun k_ => some k_ ≠ (v6 : Value).ownBlock) v7 x7_2) ∧ Aside0 (w'.heap[gb211]? = some (.cells #[(.slice A0_0 l0_0.length c0_0), (.slice A0_1 l0_1.length c0_1), .int .i64 a0_2, (.slice A0_3 l0_3.length c0_3)] 25 (0, 0))) ∧ Aside0 (Below w.heap.size w w'))
       case atStart => exact ⟨(([] : List Int)), (([] : List Int)), (0), (by first | rfl | (simp; done) | (simp [*]; done)), H', ⟨Nat.le_refl _⟩, ⟨by first | exact Kd.R_nil _ _ _ _ _ | exact Kd.N_nil _ _ _ _ _ | exact Kd.V_nil _ _ _ _ _ | exact Kd.Q_nil _ _ _ _ _ | exact Kd.S_nil _ _ _ _ _⟩, ⟨by first | exact Kd.R_nil _ _ _ _ _ | exact Kd.N_nil _ _ _ _ _ | exact Kd.V_nil _ _ _ _ _ | exact Kd.Q_nil _ _ _ _ _ | exact Kd.S_nil _ _ _ _ _⟩, ⟨by (with_reducible repeat (first | refine blk_drewN ?_ _ | refine blk_drew ?_ | refine blk_alloc ?_ _)); exact BK211.out⟩, ⟨by repeat (first | (with_reducible first | exact HB.out | apply below_alloc | apply pw_below_drewN | apply below_drew1 | refine below_set ?_ GE211.out) | exact HB.out)⟩⟩
       case round =>
        clear H'
        try clear c1
        try clear c2
        try clear p2
        try clear q2
        try clear hx2
        try clear c3
        try clear c3b0
        try clear c3b1
        try clear c5
        try clear c6
        try clear p6
        try clear c7
        try clear c7b0
        try clear c8
        try clear c8b0
        try clear c10
        try clear hcz11_0
        try clear hcz11_1
        try clear hcz11_2
        try clear hcz11_3
        try clear hcz12_0
        try clear hcz12_1
        try clear hcz12_2
        try clear hcz12_3
        try clear hcz13_0
        try clear hcz13_1
        try clear hcz13_2
        try clear hcz13_3
        try clear hcz5_0
        try clear hcz5_1
        try clear hcz5_2
        try clear hcz5_3
        try clear hfz11_0
        try clear hfz11_1
        try clear hfz11_2
        try clear hfz11_3
        try clear hfz12_0
        try clear hfz12_1
        try clear hfz12_2
        try clear hfz12_3
        try clear hfz13_0
        try clear hfz13_1
        try clear hfz13_2
        try clear hfz13_3
        try clear hfz5_0
        try clear hfz5_1
        try clear hfz5_2
        try clear hfz5_3
        try clear hx214_0
        try clear p2
        try clear p214
        try clear q214
        obtain ⟨x6_2, x7_2, x8_2, rfl, HA, HK2, HO_6, HO_7, BK211, HB⟩ := hrel
        cases gk with
        | zero => exact absurd HA.out (by simp [dovetailref05_Readable.l1])
        | succ k2 =>
         have H := HA.out
         clear HA
         simp only [dovetailref05_Readable.l1] at H
         by_cases c14 : x8_2 < (l0_3.length : Int)
         · rw [if_pos c14] at H
           have c14b0 : decide (x8_2 < (l0_3.length : Int)) = true := decide_eq_true c14
           clear c14
           by_cases c15 : 0 ≤ x8_2
           · rw [if_pos c15] at H
             have c15b0 : decide (0 ≤ x8_2) = true := decide_eq_true c15
             clear c15
             by_cases c16 : x6_2.length < 17592186044416
             · rw [if_pos c16] at H
               have LMc16 := Aside0.mk c16
               clear c16
               obtain ⟨y217, hy217⟩ : ∃ y_ : List Int, y_ = (x6_2 ++ [(rd_T52 l0_3 x8_2).f0]) := ⟨_, rfl⟩
               replace H : (dovetailref05_Readable.l2 k2 y217 x7_2 x8_2 0 l0_0 l0_1 a0_2 l0_3) = some r := by first | (rw [hy217]; with_reducible exact H) | (have H2_ := (Option.bind_some _ _).symm.trans H; rw [hy217]; with_reducible exact H2_) | (have H2_ := (Option.bind_some _ _).symm.trans H; with_reducible exact H2_) | with_reducible exact H | (rw [hy217]; exact H) | exact H
               have Ny217 := Aside0.mk hy217
               clear hy217
               have H' := Aside0.mk H
               clear H
               have hcz17_0 : wr.cell? ⟨gb211, 0, none⟩ = some (.slice A0_0 l0_0.length c0_0) := (blk_cell BK211.out 0).trans rfl
               have hcz17_1 : wr.cell? ⟨gb211, 1, none⟩ = some (.slice A0_1 l0_1.length c0_1) := (blk_cell BK211.out 1).trans rfl
               have hcz17_2 : wr.cell? ⟨gb211, 2, none⟩ = some (.int .i64 a0_2) := (blk_cell BK211.out 2).trans rfl
               have hcz17_3 : wr.cell? ⟨gb211, 3, none⟩ = some (.slice A0_3 l0_3.length c0_3) := (blk_cell BK211.out 3).trans rfl
               have hfz17_0 := blk_frozen BK211.out 0
               have hfz17_1 := blk_frozen BK211.out 1
               have hfz17_2 := blk_frozen BK211.out 2
               have hfz17_3 := blk_frozen BK211.out 3
               have p216 : 0 ≤ (x8_2 : Int) := of_decide_eq_true (by first | (with_reducible assumption) | assumption)
               have q216 : x8_2 < (l0_3.length : Int) := of_decide_eq_true (by first | (with_reducible assumption) | assumption)
               obtain ⟨ad216, A216_1, c216_1, e216, hx216_0, hx216_1, hl216_1, hi216_1⟩ := at_T52 HR0_3.out x8_2 p216 q216
               cases e216
               replace hx216_0 := (HB.out.cell (World.block_lt_of_cell? w _ hx216_0)).trans hx216_0
               replace hx216_1 := (HB.out.cell (World.block_lt_of_cell? w _ hx216_1)).trans hx216_1
               have HR216_1 := Aside0.mk hi216_1
               have HC216_1 := Aside0.mk hl216_1
               clear hi216_1 hl216_1
               replace p216 := eq_true p216
               replace q216 := eq_true q216
               go_wp2_with (first | ((with_reducible refine gate_builtin (b := .append) (xs := #[.tmp 39, .tmp 46]) rfl ?_); (try (refine gate_guard (by rfl) ?_; dsimp only)); at_builtin; refine Kd.R_append (Kd.int .i64) (w0 := w) w.heap.size rfl (.tmp 39) (.tmp 46) 26 3 (.int .i64 0) 8 rfl Tryd.underlying26 info3 rfl (by decide) (by omega) u6 x6_2 ((rd_T52 l0_3 x8_2).f0) [.int .i64 ((rd_T52 l0_3 x8_2).f0)] (fun k_ => some k_ ≠ (u7 : Value).ownBlock) (fun _ => False) rfl rfl ?aP (fun _ hk => hk.elim) ?aF ?aO ?aB ?aS ?aL ?_; (case aP => exact rfl); (case aB => exact (by repeat (first | (with_reducible first | exact HB.out | apply below_alloc | apply pw_below_drewN | apply below_drew1 | refine below_set ?_ GE211.out) | exact HB.out))); (case aF => exact (fun k_ hk => Kd.fresh' (Kd.R_lt (by (with_reducible repeat (first | apply Kd.R_alloc | apply Kd.R_drewN | apply Kd.R_drew)); exact HO_7.out)) k_ hk)); (case aO => exact (by (with_reducible repeat (first | apply Kd.R_alloc | apply Kd.R_drewN | apply Kd.R_drew)); exact HO_6.out)); (case aS => exact (below_size (by repeat (first | (with_reducible first | exact HB.out | apply below_alloc | apply pw_below_drewN | apply below_drew1 | refine below_set ?_ GE211.out) | exact HB.out)))); (case aL => have := LMc16.out; omega); intro v218 w18 ho hb hg hat; rw [← Ny217.out] at ho; have n0_ := Aside0.mk (Kd.R_after (ok := (fun _ => True)) (by (with_reducible repeat (first | apply Kd.R_alloc | apply Kd.R_drewN | apply Kd.R_drew)); exact Kd.R_mono HO_7.out (fun _ hk => ⟨trivial, hk⟩)) hg hat); have n1_ := Aside0.mk (blk_grown (g := gb211) (o := .cells #[.slice A0_0 l0_0.length c0_0, .slice A0_1 l0_1.length c0_1, .int .i64 a0_2, .slice (some ad216) l0_3.length c0_3] 25 (0, 0)) (by (with_reducible repeat (first | refine blk_drewN ?_ _ | refine blk_drew ?_ | refine blk_alloc ?_ _)); exact BK211.out) hg (Kd.R_ne HO_6.out BK211.out (by decide))); have n2_ := Aside0.mk (hb); have n3_ := Aside0.mk (ho); clear HO_7; clear BK211; clear HB; clear HO_6; have HO_7 := n0_; have BK211 := n1_; have HB := n2_; have HO219 := n3_; clear n0_ n1_ n2_ n3_; clear ho hb hg hat))
               go_loopg [7, 9] k2 (fun kq v7 v9 w' => ∃ (x7_3 : List Int) (x9_3 : Int), v9 = .int .i64 x9_3 ∧ Aside0 (dovetailref05_Readable.l2 kq y217 x7_3 x8_2 x9_3 l0_0 l0_1 a0_2 l0_3 = some r) ∧ Aside0 (kq ≤ k2) ∧ Aside0 (Kd.R (Kd.int .i64) 3 w' w.heap.size (fun k_ => some k_ ≠ (v7 : Value).ownBlock) v218 y217) ∧ Aside0 (Kd.R (Kd.int .i64) 3 w' w.heap.size (fun k_ => some k_ ≠ (v218 : Value).ownBlock) v7 x7_3) ∧ Aside0 (w'.heap[gb211]? = some (.cells #[(.slice A0_0 l0_0.length c0_0), (.slice A0_1 l0_1.length c0_1), .int .i64 a0_2, (.slice (some ad216) l0_3.length c0_3)] 25 (0, 0))) ∧ Aside0 (Below w.heap.size w w'))
               case atStart => exact ⟨(x7_2), (0), (by first | rfl | (simp; done) | (simp [*]; done)), H', ⟨Nat.le_refl _⟩, ⟨by (with_reducible repeat (first | apply Kd.R_alloc | apply Kd.R_drewN | apply Kd.R_drew)); exact HO219.out⟩, ⟨by (with_reducible repeat (first | apply Kd.R_alloc | apply Kd.R_drewN | apply Kd.R_drew)); exact Kd.R_mono HO_7.out (fun _ hk => hk.2)⟩, ⟨by (with_reducible repeat (first | refine blk_drewN ?_ _ | refine blk_drew ?_ | refine blk_alloc ?_ _)); exact BK211.out⟩, ⟨by repeat (first | (with_reducible first | exact HB.out | apply below_alloc | apply pw_below_drewN | apply below_drew1 | refine below_set ?_ GE211.out) | exact HB.out)⟩⟩
               case round =>
                clear H'
                try clear c1
                try clear c2
                try clear p2
                try clear q2
                try clear hx2
                try clear c3
                try clear c3b0
                try clear c3b1
                try clear c5
                try clear c6
                try clear p6
                try clear c7
                try clear c7b0
                try clear c8
                try clear c8b0
                try clear c10
                try clear c14
                try clear c14b0
                try clear c15
                try clear c15b0
                try clear c16
                try clear hcz11_0
                try clear hcz11_1
                try clear hcz11_2
                try clear hcz11_3
                try clear hcz12_0
                try clear hcz12_1
                try clear hcz12_2
                try clear hcz12_3
                try clear hcz13_0
                try clear hcz13_1
                try clear hcz13_2
                try clear hcz13_3
                try clear hcz17_0
                try clear hcz17_1
                try clear hcz17_2
                try clear hcz17_3
                try clear hcz5_0
                try clear hcz5_1
                try clear hcz5_2
                try clear hcz5_3
                try clear hfz11_0
                try clear hfz11_1
                try clear hfz11_2
                try clear hfz11_3
                try clear hfz12_0
                try clear hfz12_1
                try clear hfz12_2
                try clear hfz12_3
                try clear hfz13_0
                try clear hfz13_1
                try clear hfz13_2
                try clear hfz13_3
                try clear hfz17_0
                try clear hfz17_1
                try clear hfz17_2
                try clear hfz17_3
                try clear hfz5_0
                try clear hfz5_1
                try clear hfz5_2
                try clear hfz5_3
                try clear hx214_0
                try clear hx216_0
                try clear hx216_1
                try clear p2
                try clear p214
                try clear p216
                try clear p6
                try clear q2
                try clear q214
                try clear q216
                obtain ⟨x7_3, x9_3, rfl, HA, HK3, HO_6, HO_7, BK211, HB⟩ := hrel
                cases gk with
                | zero => exact absurd HA.out (by simp [dovetailref05_Readable.l2])
                | succ k3 =>
                 have H := HA.out
                 clear HA
                 simp only [dovetailref05_Readable.l2] at H
                 by_cases c19 : 0 ≤ x8_2
                 · rw [if_pos c19] at H
                   have c19b0 : decide (0 ≤ x8_2) = true := decide_eq_true c19
                   clear c19
                   by_cases c20 : x8_2 < (l0_3.length : Int)
                   · rw [if_pos c20] at H
                     have c20b0 : decide (x8_2 < (l0_3.length : Int)) = true := decide_eq_true c20
                     clear c20
                     by_cases c21 : x9_3 < (((rd_T52 l0_3 x8_2).f1).length : Int)
                     · rw [if_pos c21] at H
                       have c21b0 : decide (x9_3 < (((rd_T52 l0_3 x8_2).f1).length : Int)) = true := decide_eq_true c21
                       clear c21
                       by_cases c22 : 0 ≤ x9_3
                       · rw [if_pos c22] at H
                         have c22b0 : decide (0 ≤ x9_3) = true := decide_eq_true c22
                         clear c22
                         by_cases c23 : (rd ((rd_T52 l0_3 x8_2).f1) x9_3) ≥ 0
                         · rw [if_pos c23] at H
                           have c23b0 : decide (0 ≤ (rd ((rd_T52 l0_3 x8_2).f1) x9_3)) = true := decide_eq_true c23
                           clear c23
                           by_cases c24 : x7_3.length < 17592186044416
                           · rw [if_pos c24] at H
                             have LMc24 := Aside0.mk c24
                             clear c24
                             obtain ⟨y225, hy225⟩ : ∃ y_ : List Int, y_ = (x7_3 ++ [rd ((rd_T52 l0_3 x8_2).f1) x9_3]) := ⟨_, rfl⟩
                             replace H : (dovetailref05_Readable.l2 k3 y217 y225 x8_2 (wrap64 (x9_3 + 1)) l0_0 l0_1 a0_2 l0_3) = some r := by first | (rw [hy225]; with_reducible exact H) | (have H2_ := (Option.bind_some _ _).symm.trans H; rw [hy225]; with_reducible exact H2_) | (have H2_ := (Option.bind_some _ _).symm.trans H; with_reducible exact H2_) | with_reducible exact H | (rw [hy225]; exact H) | exact H
                             have Ny225 := Aside0.mk hy225
                             clear hy225
                             have H' := Aside0.mk H
                             clear H
                             have hcz25_0 : wr.cell? ⟨gb211, 0, none⟩ = some (.slice A0_0 l0_0.length c0_0) := (blk_cell BK211.out 0).trans rfl
                             have hcz25_1 : wr.cell? ⟨gb211, 1, none⟩ = some (.slice A0_1 l0_1.length c0_1) := (blk_cell BK211.out 1).trans rfl
                             have hcz25_2 : wr.cell? ⟨gb211, 2, none⟩ = some (.int .i64 a0_2) := (blk_cell BK211.out 2).trans rfl
                             have hcz25_3 : wr.cell? ⟨gb211, 3, none⟩ = some (.slice (some ad216) l0_3.length c0_3) := (blk_cell BK211.out 3).trans rfl
                             have hfz25_0 := blk_frozen BK211.out 0
                             have hfz25_1 := blk_frozen BK211.out 1
                             have hfz25_2 := blk_frozen BK211.out 2
                             have hfz25_3 := blk_frozen BK211.out 3
                             have p220 : 0 ≤ (x8_2 : Int) := of_decide_eq_true (by first | (with_reducible assumption) | assumption)
                             have q220 : x8_2 < (l0_3.length : Int) := of_decide_eq_true (by first | (with_reducible assumption) | assumption)
                             obtain ⟨ad220, A220_1, c220_1, e220, hx220_0, hx220_1, hl220_1, hi220_1⟩ := at_T52 HR0_3.out x8_2 p220 q220
                             obtain rfl : ad216 = ad220 := (by injection e220)
                             replace hx220_0 := (HB.out.cell (World.block_lt_of_cell? w _ hx220_0)).trans hx220_0
                             replace hx220_1 := (HB.out.cell (World.block_lt_of_cell? w _ hx220_1)).trans hx220_1
                             have HR220_1 := Aside0.mk hi220_1
                             have HC220_1 := Aside0.mk hl220_1
                             clear hi220_1 hl220_1
                             replace p220 := eq_true p220
                             replace q220 := eq_true q220
                             have p221 : 0 ≤ (x8_2 : Int) := of_decide_eq_true (by first | (with_reducible assumption) | assumption)
                             have q221 : x8_2 < (l0_3.length : Int) := of_decide_eq_true (by first | (with_reducible assumption) | assumption)
                             obtain ⟨ad221, A221_1, c221_1, e221, hx221_0, hx221_1, hl221_1, hi221_1⟩ := at_T52 HR0_3.out x8_2 p221 q221
                             obtain rfl : ad216 = ad221 := (by injection e221)
                             replace hx221_0 := (HB.out.cell (World.block_lt_of_cell? w _ hx221_0)).trans hx221_0
                             replace hx221_1 := (HB.out.cell (World.block_lt_of_cell? w _ hx221_1)).trans hx221_1
                             have HR221_1 := Aside0.mk hi221_1
                             have HC221_1 := Aside0.mk hl221_1
                             clear hi221_1 hl221_1
                             replace p221 := eq_true p221
                             replace q221 := eq_true q221
                             have ea_ := Option.some.inj (hx220_1.symm.trans hx221_1)
                             injection ea_ with ea_ en_ ec_
                             subst ea_
                             subst ec_
                             clear en_
                             have p222 : 0 ≤ (x9_3 : Int) := of_decide_eq_true (by first | (with_reducible assumption) | assumption)
                             have q222 : x9_3 < (((rd_T52 l0_3 x8_2).f1).length : Int) := of_decide_eq_true (by first | (with_reducible assumption) | assumption)
                             obtain ⟨ad222, e222, hx222_0⟩ := Kd.at_int HR221_1.out x9_3 p222 q222
                             cases e222
                             replace hx222_0 := (HB.out.cell (World.block_lt_of_cell? w _ hx222_0)).trans hx222_0
                             replace p222 := eq_true p222
                             replace q222 := eq_true q222
                             have p223 : 0 ≤ (x8_2 : Int) := of_decide_eq_true (by first | (with_reducible assumption) | assumption)
                             have q223 : x8_2 < (l0_3.length : Int) := of_decide_eq_true (by first | (with_reducible assumption) | assumption)
                             obtain ⟨ad223, A223_1, c223_1, e223, hx223_0, hx223_1, hl223_1, hi223_1⟩ := at_T52 HR0_3.out x8_2 p223 q223
                             obtain rfl : ad216 = ad223 := (by injection e223)
                             replace hx223_0 := (HB.out.cell (World.block_lt_of_cell? w _ hx223_0)).trans hx223_0
                             replace hx223_1 := (HB.out.cell (World.block_lt_of_cell? w _ hx223_1)).trans hx223_1
                             have HR223_1 := Aside0.mk hi223_1
                             have HC223_1 := Aside0.mk hl223_1
                             clear hi223_1 hl223_1
                             replace p223 := eq_true p223
                             replace q223 := eq_true q223
                             have ea_ := Option.some.inj (hx220_1.symm.trans hx223_1)
                             injection ea_ with ea_ en_ ec_
                             subst ea_
                             subst ec_
                             clear en_
                             have p224 : 0 ≤ (x9_3 : Int) := of_decide_eq_true (by first | (with_reducible assumption) | assumption)
                             have q224 : x9_3 < (((rd_T52 l0_3 x8_2).f1).length : Int) := of_decide_eq_true (by first | (with_reducible assumption) | assumption)
                             obtain ⟨ad224, e224, hx224_0⟩ := Kd.at_int HR223_1.out x9_3 p224 q224
                             cases e224
                             replace hx224_0 := (HB.out.cell (World.block_lt_of_cell? w _ hx224_0)).trans hx224_0
                             replace p224 := eq_true p224
                             replace q224 := eq_true q224
                             go_wp2_with (first | ((with_reducible refine gate_builtin (b := .append) (xs := #[.tmp 69, .tmp 79]) rfl ?_); (try (refine gate_guard (by rfl) ?_; dsimp only)); at_builtin; refine Kd.R_append (Kd.int .i64) (w0 := w) w.heap.size rfl (.tmp 69) (.tmp 79) 26 3 (.int .i64 0) 8 rfl Tryd.underlying26 info3 rfl (by decide) (by omega) u7 x7_3 (rd ((rd_T52 l0_3 x8_2).f1) x9_3) [.int .i64 (rd ((rd_T52 l0_3 x8_2).f1) x9_3)] (fun k_ => some k_ ≠ (v218 : Value).ownBlock) (fun _ => False) rfl rfl ?aP (fun _ hk => hk.elim) ?aF ?aO ?aB ?aS ?aL ?_; (case aP => exact rfl); (case aB => exact (by repeat (first | (with_reducible first | exact HB.out | apply below_alloc | apply pw_below_drewN | apply below_drew1 | refine below_set ?_ GE211.out) | exact HB.out))); (case aF => exact (fun k_ hk => Kd.fresh' (Kd.R_lt (by (with_reducible repeat (first | apply Kd.R_alloc | apply Kd.R_drewN | apply Kd.R_drew)); exact HO_6.out)) k_ hk)); (case aO => exact (by (with_reducible repeat (first | apply Kd.R_alloc | apply Kd.R_drewN | apply Kd.R_drew)); exact HO_7.out)); (case aS => exact (below_size (by repeat (first | (with_reducible first | exact HB.out | apply below_alloc | apply pw_below_drewN | apply below_drew1 | refine below_set ?_ GE211.out) | exact HB.out)))); (case aL => have := LMc24.out; omega); intro v226 w26 ho hb hg hat; rw [← Ny225.out] at ho; have n0_ := Aside0.mk (Kd.R_after (ok := (fun _ => True)) (by (with_reducible repeat (first | apply Kd.R_alloc | apply Kd.R_drewN | apply Kd.R_drew)); exact Kd.R_mono HO_6.out (fun _ hk => ⟨trivial, hk⟩)) hg hat); have n1_ := Aside0.mk (blk_grown (g := gb211) (o := .cells #[.slice A0_0 l0_0.length c0_0, .slice A0_1 l0_1.length c0_1, .int .i64 a0_2, .slice (some ad216) l0_3.length c0_3] 25 (0, 0)) (by (with_reducible repeat (first | refine blk_drewN ?_ _ | refine blk_drew ?_ | refine blk_alloc ?_ _)); exact BK211.out) hg (Kd.R_ne HO_7.out BK211.out (by decide))); have n2_ := Aside0.mk (hb); have n3_ := Aside0.mk (ho); clear HO_6; clear BK211; clear HB; clear HO_7; have HO_6 := n0_; have BK211 := n1_; have HB := n2_; have HO227 := n3_; clear n0_ n1_ n2_ n3_; clear ho hb hg hat))
                             go_roundg k3
                             case measure => have := HK1.out; have := HK2.out; have := HK3.out; omega
                             case rel => exact ⟨(y225), (wrap64 (x9_3 + 1)), (by first | rfl | (simp; done) | (simp [*]; done)), H', ⟨by have := HK1.out; have := HK2.out; have := HK3.out; omega⟩, ⟨by (with_reducible repeat (first | apply Kd.R_alloc | apply Kd.R_drewN | apply Kd.R_drew)); exact Kd.R_mono HO_6.out (fun _ hk => hk.2)⟩, ⟨by (with_reducible repeat (first | apply Kd.R_alloc | apply Kd.R_drewN | apply Kd.R_drew)); exact HO227.out⟩, ⟨by (with_reducible repeat (first | refine blk_drewN ?_ _ | refine blk_drew ?_ | refine blk_alloc ?_ _)); exact BK211.out⟩, ⟨by repeat (first | (with_reducible first | exact HB.out | apply below_alloc | apply pw_below_drewN | apply below_drew1 | refine below_set ?_ GE211.out) | exact HB.out)⟩⟩
                           · rw [if_neg c24] at H
                             exact absurd H (by simp)
                         · rw [if_neg c23] at H
                           have c23b0 : decide (0 ≤ (rd ((rd_T52 l0_3 x8_2).f1) x9_3)) = false := decide_eq_false c23
                           clear c23
                           have H' := Aside0.mk H
                           clear H
                           have hcz27_0 : wr.cell? ⟨gb211, 0, none⟩ = some (.slice A0_0 l0_0.length c0_0) := (blk_cell BK211.out 0).trans rfl
                           have hcz27_1 : wr.cell? ⟨gb211, 1, none⟩ = some (.slice A0_1 l0_1.length c0_1) := (blk_cell BK211.out 1).trans rfl
                           have hcz27_2 : wr.cell? ⟨gb211, 2, none⟩ = some (.int .i64 a0_2) := (blk_cell BK211.out 2).trans rfl
                           have hcz27_3 : wr.cell? ⟨gb211, 3, none⟩ = some (.slice (some ad216) l0_3.length c0_3) := (blk_cell BK211.out 3).trans rfl
                           have hfz27_0 := blk_frozen BK211.out 0
                           have hfz27_1 := blk_frozen BK211.out 1
                           have hfz27_2 := blk_frozen BK211.out 2
                           have hfz27_3 := blk_frozen BK211.out 3
                           have p220 : 0 ≤ (x8_2 : Int) := of_decide_eq_true (by first | (with_reducible assumption) | assumption)
                           have q220 : x8_2 < (l0_3.length : Int) := of_decide_eq_true (by first | (with_reducible assumption) | assumption)
                           obtain ⟨ad220, A220_1, c220_1, e220, hx220_0, hx220_1, hl220_1, hi220_1⟩ := at_T52 HR0_3.out x8_2 p220 q220
                           obtain rfl : ad216 = ad220 := (by injection e220)
                           replace hx220_0 := (HB.out.cell (World.block_lt_of_cell? w _ hx220_0)).trans hx220_0
                           replace hx220_1 := (HB.out.cell (World.block_lt_of_cell? w _ hx220_1)).trans hx220_1
                           have HR220_1 := Aside0.mk hi220_1
                           have HC220_1 := Aside0.mk hl220_1
                           clear hi220_1 hl220_1
                           replace p220 := eq_true p220
                           replace q220 := eq_true q220
                           have p221 : 0 ≤ (x8_2 : Int) := of_decide_eq_true (by first | (with_reducible assumption) | assumption)
                           have q221 : x8_2 < (l0_3.length : Int) := of_decide_eq_true (by first | (with_reducible assumption) | assumption)
                           obtain ⟨ad221, A221_1, c221_1, e221, hx221_0, hx221_1, hl221_1, hi221_1⟩ := at_T52 HR0_3.out x8_2 p221 q221
                           obtain rfl : ad216 = ad221 := (by injection e221)
                           replace hx221_0 := (HB.out.cell (World.block_lt_of_cell? w _ hx221_0)).trans hx221_0
                           replace hx221_1 := (HB.out.cell (World.block_lt_of_cell? w _ hx221_1)).trans hx221_1
                           have HR221_1 := Aside0.mk hi221_1
                           have HC221_1 := Aside0.mk hl221_1
                           clear hi221_1 hl221_1
                           replace p221 := eq_true p221
                           replace q221 := eq_true q221
                           have ea_ := Option.some.inj (hx220_1.symm.trans hx221_1)
                           injection ea_ with ea_ en_ ec_
                           subst ea_
                           subst ec_
                           clear en_
                           have p222 : 0 ≤ (x9_3 : Int) := of_decide_eq_true (by first | (with_reducible assumption) | assumption)
                           have q222 : x9_3 < (((rd_T52 l0_3 x8_2).f1).length : Int) := of_decide_eq_true (by first | (with_reducible assumption) | assumption)
                           obtain ⟨ad222, e222, hx222_0⟩ := Kd.at_int HR221_1.out x9_3 p222 q222
                           cases e222
                           replace hx222_0 := (HB.out.cell (World.block_lt_of_cell? w _ hx222_0)).trans hx222_0
                           replace p222 := eq_true p222
                           replace q222 := eq_true q222
                           go_wp2
                           go_roundg k3
                           case measure => have := HK1.out; have := HK2.out; have := HK3.out; omega
                           case rel => exact ⟨(x7_3), (wrap64 (x9_3 + 1)), (by first | rfl | (simp; done) | (simp [*]; done)), H', ⟨by have := HK1.out; have := HK2.out; have := HK3.out; omega⟩, ⟨by (with_reducible repeat (first | apply Kd.R_alloc | apply Kd.R_drewN | apply Kd.R_drew)); exact HO_6.out⟩, ⟨by (with_reducible repeat (first | apply Kd.R_alloc | apply Kd.R_drewN | apply Kd.R_drew)); exact HO_7.out⟩, ⟨by (with_reducible repeat (first | refine blk_drewN ?_ _ | refine blk_drew ?_ | refine blk_alloc ?_ _)); exact BK211.out⟩, ⟨by repeat (first | (with_reducible first | exact HB.out | apply below_alloc | apply pw_below_drewN | apply below_drew1 | refine below_set ?_ GE211.out) | exact HB.out)⟩⟩
                       · rw [if_neg c22] at H
                         exact absurd H (by simp)
                     · rw [if_neg c21] at H
                       have c21b0 : decide (x9_3 < (((rd_T52 l0_3 x8_2).f1).length : Int)) = false := decide_eq_false c21
                       clear c21
                       have H' := Aside0.mk H
                       clear H
                       have hcz28_0 : wr.cell? ⟨gb211, 0, none⟩ = some (.slice A0_0 l0_0.length c0_0) := (blk_cell BK211.out 0).trans rfl
                       have hcz28_1 : wr.cell? ⟨gb211, 1, none⟩ = some (.slice A0_1 l0_1.length c0_1) := (blk_cell BK211.out 1).trans rfl
                       have hcz28_2 : wr.cell? ⟨gb211, 2, none⟩ = some (.int .i64 a0_2) := (blk_cell BK211.out 2).trans rfl
                       have hcz28_3 : wr.cell? ⟨gb211, 3, none⟩ = some (.slice (some ad216) l0_3.length c0_3) := (blk_cell BK211.out 3).trans rfl
                       have hfz28_0 := blk_frozen BK211.out 0
                       have hfz28_1 := blk_frozen BK211.out 1
                       have hfz28_2 := blk_frozen BK211.out 2
                       have hfz28_3 := blk_frozen BK211.out 3
                       have p220 : 0 ≤ (x8_2 : Int) := of_decide_eq_true (by first | (with_reducible assumption) | assumption)
                       have q220 : x8_2 < (l0_3.length : Int) := of_decide_eq_true (by first | (with_reducible assumption) | assumption)
                       obtain ⟨ad220, A220_1, c220_1, e220, hx220_0, hx220_1, hl220_1, hi220_1⟩ := at_T52 HR0_3.out x8_2 p220 q220
                       obtain rfl : ad216 = ad220 := (by injection e220)
                       replace hx220_0 := (HB.out.cell (World.block_lt_of_cell? w _ hx220_0)).trans hx220_0
                       replace hx220_1 := (HB.out.cell (World.block_lt_of_cell? w _ hx220_1)).trans hx220_1
                       have HR220_1 := Aside0.mk hi220_1
                       have HC220_1 := Aside0.mk hl220_1
                       clear hi220_1 hl220_1
                       replace p220 := eq_true p220
                       replace q220 := eq_true q220
                       go_wp2
                       go_roundg k3
                       case measure => have := HK1.out; have := HK2.out; have := HK3.out; omega
                       case rel => exact ⟨(y217), (x7_3), (wrap64 (x8_2 + 1)), (by first | rfl | (simp; done) | (simp [*]; done)), H', ⟨by have := HK1.out; have := HK2.out; have := HK3.out; omega⟩, ⟨by (with_reducible repeat (first | apply Kd.R_alloc | apply Kd.R_drewN | apply Kd.R_drew)); exact HO_6.out⟩, ⟨by (with_reducible repeat (first | apply Kd.R_alloc | apply Kd.R_drewN | apply Kd.R_drew)); exact HO_7.out⟩, ⟨by (with_reducible repeat (first | refine blk_drewN ?_ _ | refine blk_drew ?_ | refine blk_alloc ?_ _)); exact BK211.out⟩, ⟨by repeat (first | (with_reducible first | exact HB.out | apply below_alloc | apply pw_below_drewN | apply below_drew1 | refine below_set ?_ GE211.out) | exact HB.out)⟩⟩
                   · rw [if_neg c20] at H
                     exact absurd H (by simp)
                 · rw [if_neg c19] at H
                   exact absurd H (by simp)
             · rw [if_neg c16] at H
               exact absurd H (by simp)
           · rw [if_neg c15] at H
             exact absurd H (by simp)
         · rw [if_neg c14] at H
           have c14b0 : decide (x8_2 < (l0_3.length : Int)) = false := decide_eq_false c14
           clear c14
           by_cases c29 : a0_2 = 0
           · rw [if_pos c29] at H
             have c29b0 : (a0_2 == 0) = true := beq_iff_eq.mpr c29
             have c29b1 : (a0_2 != 0) = false := bne_eq_false_iff_eq.mpr c29
             clear c29
             replace H := Option.bind_eq_some_iff.mp H
             obtain ⟨t228, A300, H⟩ := H
             replace H : (if t228 = true then ((dovetailref05_rises.f k2 x7_2 (l0_0.length : Int)).bind fun t229 => (if t229 = true then (some 0) else (some 13))) else (some 13)) = some r := H
             have A30 := Aside0.mk A300
             clear A300
             by_cases c31 : t228 = true
             · subst c31
               have H1 : ((dovetailref05_rises.f k2 x7_2 (l0_0.length : Int)).bind fun t229 => (if t229 = true then (some 0) else (some 13))) = some r := by rw [if_pos rfl] at H; exact H
               clear H
               have H := H1
               clear H1
               replace H := Option.bind_eq_some_iff.mp H
               obtain ⟨t229, A320, H⟩ := H
               replace H : (if t229 = true then (some 0) else (some 13)) = some r := H
               have A32 := Aside0.mk A320
               clear A320
               by_cases c33 : t229 = true
               · subst c33
                 have H1 : (some 0) = some r := by rw [if_pos rfl] at H; exact H
                 clear H
                 have H := H1
                 clear H1
                 obtain rfl := Option.some.inj H
                 have hcz34_0 : wr.cell? ⟨gb211, 0, none⟩ = some (.slice A0_0 l0_0.length c0_0) := (blk_cell BK211.out 0).trans rfl
                 have hcz34_1 : wr.cell? ⟨gb211, 1, none⟩ = some (.slice A0_1 l0_1.length c0_1) := (blk_cell BK211.out 1).trans rfl
                 have hcz34_2 : wr.cell? ⟨gb211, 2, none⟩ = some (.int .i64 a0_2) := (blk_cell BK211.out 2).trans rfl
                 have hcz34_3 : wr.cell? ⟨gb211, 3, none⟩ = some (.slice A0_3 l0_3.length c0_3) := (blk_cell BK211.out 3).trans rfl
                 have hfz34_0 := blk_frozen BK211.out 0
                 have hfz34_1 := blk_frozen BK211.out 1
                 have hfz34_2 := blk_frozen BK211.out 2
                 have hfz34_3 := blk_frozen BK211.out 3
                 obtain ⟨Ao35, co35, eo35⟩ := Kd.R_slice HO_6.out
                 subst eo35
                 go_wp2_with (first | (go_at_call 68; (with_reducible refine (dovetailref05_rises.calls k2 _ _ x6_2 (l0_1.length : Int) true _ ?side1 ?side2 A30.out).mono ?_); (case side1 => repeat (first | exact (Kd.R_reads' HO_6.out).2.2 | (with_reducible refine Kd.C_alloc ?_ _) | (with_reducible refine Kd.C_drewN ?_ _) | (with_reducible refine Kd.C_drew ?_))); (case side2 => exact (Kd.R_reads' HO_6.out).2.1); rintro e w' ⟨rfl, ⟨nd, rfl⟩⟩; obtain ⟨Ao36, co36, eo36⟩ := Kd.R_slice HO_7.out; subst eo36) | (go_at_call 68; (with_reducible refine (dovetailref05_rises.calls k2 _ _ x7_2 (l0_0.length : Int) true _ ?side1 ?side2 A32.out).mono ?_); (case side1 => repeat (first | exact (Kd.R_reads' HO_7.out).2.2 | (with_reducible refine Kd.C_alloc ?_ _) | (with_reducible refine Kd.C_drewN ?_ _) | (with_reducible refine Kd.C_drew ?_))); (case side2 => exact (Kd.R_reads' HO_7.out).2.1); rintro e w' ⟨rfl, ⟨nd, rfl⟩⟩))
                 go_ret
                 exact ⟨by first | rfl | (simp [errW_none, errW_some] <;> rfl) | (simp [*, errW_none, errW_some] <;> rfl), by repeat (first | (with_reducible first | exact HB.out | apply below_alloc | apply pw_below_drewN | apply below_drew1 | refine below_set ?_ GE211.out) | exact HB.out)⟩
               · replace c33 := Bool.eq_false_iff.mpr c33
                 subst c33
                 have H1 : (some 13) = some r := by rw [if_neg (show ¬ (false = true) by decide)] at H; exact H
                 clear H
                 have H := H1
                 clear H1
                 obtain rfl := Option.some.inj H
                 have hcz37_0 : wr.cell? ⟨gb211, 0, none⟩ = some (.slice A0_0 l0_0.length c0_0) := (blk_cell BK211.out 0).trans rfl
                 have hcz37_1 : wr.cell? ⟨gb211, 1, none⟩ = some (.slice A0_1 l0_1.length c0_1) := (blk_cell BK211.out 1).trans rfl
                 have hcz37_2 : wr.cell? ⟨gb211, 2, none⟩ = some (.int .i64 a0_2) := (blk_cell BK211.out 2).trans rfl
                 have hcz37_3 : wr.cell? ⟨gb211, 3, none⟩ = some (.slice A0_3 l0_3.length c0_3) := (blk_cell BK211.out 3).trans rfl
                 have hfz37_0 := blk_frozen BK211.out 0
                 have hfz37_1 := blk_frozen BK211.out 1
                 have hfz37_2 := blk_frozen BK211.out 2
                 have hfz37_3 := blk_frozen BK211.out 3
                 obtain ⟨Ao38, co38, eo38⟩ := Kd.R_slice HO_6.out
                 subst eo38
                 go_wp2_with (first | (go_at_call 68; (with_reducible refine (dovetailref05_rises.calls k2 _ _ x6_2 (l0_1.length : Int) true _ ?side1 ?side2 A30.out).mono ?_); (case side1 => repeat (first | exact (Kd.R_reads' HO_6.out).2.2 | (with_reducible refine Kd.C_alloc ?_ _) | (with_reducible refine Kd.C_drewN ?_ _) | (with_reducible refine Kd.C_drew ?_))); (case side2 => exact (Kd.R_reads' HO_6.out).2.1); rintro e w' ⟨rfl, ⟨nd, rfl⟩⟩; obtain ⟨Ao39, co39, eo39⟩ := Kd.R_slice HO_7.out; subst eo39) | (go_at_call 68; (with_reducible refine (dovetailref05_rises.calls k2 _ _ x7_2 (l0_0.length : Int) false _ ?side1 ?side2 A32.out).mono ?_); (case side1 => repeat (first | exact (Kd.R_reads' HO_7.out).2.2 | (with_reducible refine Kd.C_alloc ?_ _) | (with_reducible refine Kd.C_drewN ?_ _) | (with_reducible refine Kd.C_drew ?_))); (case side2 => exact (Kd.R_reads' HO_7.out).2.1); rintro e w' ⟨rfl, ⟨nd, rfl⟩⟩))
                 go_ret
                 exact ⟨by first | rfl | (simp [errW_none, errW_some] <;> rfl) | (simp [*, errW_none, errW_some] <;> rfl), by repeat (first | (with_reducible first | exact HB.out | apply below_alloc | apply pw_below_drewN | apply below_drew1 | refine below_set ?_ GE211.out) | exact HB.out)⟩
             · replace c31 := Bool.eq_false_iff.mpr c31
               subst c31
               have H1 : (some 13) = some r := by rw [if_neg (show ¬ (false = true) by decide)] at H; exact H
               clear H
               have H := H1
               clear H1
               obtain rfl := Option.some.inj H
               have hcz40_0 : wr.cell? ⟨gb211, 0, none⟩ = some (.slice A0_0 l0_0.length c0_0) := (blk_cell BK211.out 0).trans rfl
               have hcz40_1 : wr.cell? ⟨gb211, 1, none⟩ = some (.slice A0_1 l0_1.length c0_1) := (blk_cell BK211.out 1).trans rfl
               have hcz40_2 : wr.cell? ⟨gb211, 2, none⟩ = some (.int .i64 a0_2) := (blk_cell BK211.out 2).trans rfl
               have hcz40_3 : wr.cell? ⟨gb211, 3, none⟩ = some (.slice A0_3 l0_3.length c0_3) := (blk_cell BK211.out 3).trans rfl
               have hfz40_0 := blk_frozen BK211.out 0
               have hfz40_1 := blk_frozen BK211.out 1
               have hfz40_2 := blk_frozen BK211.out 2
               have hfz40_3 := blk_frozen BK211.out 3
               obtain ⟨Ao41, co41, eo41⟩ := Kd.R_slice HO_6.out
               subst eo41
               go_wp2_with (first | (go_at_call 68; (with_reducible refine (dovetailref05_rises.calls k2 _ _ x6_2 (l0_1.length : Int) false _ ?side1 ?side2 A30.out).mono ?_); (case side1 => repeat (first | exact (Kd.R_reads' HO_6.out).2.2 | (with_reducible refine Kd.C_alloc ?_ _) | (with_reducible refine Kd.C_drewN ?_ _) | (with_reducible refine Kd.C_drew ?_))); (case side2 => exact (Kd.R_reads' HO_6.out).2.1); rintro e w' ⟨rfl, ⟨nd, rfl⟩⟩))
               go_ret
               exact ⟨by first | rfl | (simp [errW_none, errW_some] <;> rfl) | (simp [*, errW_none, errW_some] <;> rfl), by repeat (first | (with_reducible first | exact HB.out | apply below_alloc | apply pw_below_drewN | apply below_drew1 | refine below_set ?_ GE211.out) | exact HB.out)⟩
           · rw [if_neg c29] at H
             have c29b0 : (a0_2 == 0) = false := beq_eq_false_iff_ne.mpr c29
             have c29b1 : (a0_2 != 0) = true := bne_iff_ne.mpr c29
             obtain rfl := Option.some.inj H
             have hcz42_0 : wr.cell? ⟨gb211, 0, none⟩ = some (.slice A0_0 l0_0.length c0_0) := (blk_cell BK211.out 0).trans rfl
             have hcz42_1 : wr.cell? ⟨gb211, 1, none⟩ = some (.slice A0_1 l0_1.length c0_1) := (blk_cell BK211.out 1).trans rfl
             have hcz42_2 : wr.cell? ⟨gb211, 2, none⟩ = some (.int .i64 a0_2) := (blk_cell BK211.out 2).trans rfl
             have hcz42_3 : wr.cell? ⟨gb211, 3, none⟩ = some (.slice A0_3 l0_3.length c0_3) := (blk_cell BK211.out 3).trans rfl
             have hfz42_0 := blk_frozen BK211.out 0
             have hfz42_1 := blk_frozen BK211.out 1
             have hfz42_2 := blk_frozen BK211.out 2
             have hfz42_3 := blk_frozen BK211.out 3
             go_wp2
             go_ret
             exact ⟨by first | rfl | (simp [errW_none, errW_some] <;> rfl) | (simp [*, errW_none, errW_some] <;> rfl), by repeat (first | (with_reducible first | exact HB.out | apply below_alloc | apply pw_below_drewN | apply below_drew1 | refine below_set ?_ GE211.out) | exact HB.out)⟩
 · rw [if_neg c3] at H
   have c3b0 : (t212 == 0) = false := beq_eq_false_iff_ne.mpr c3
   have c3b1 : (t212 != 0) = true := bne_iff_ne.mpr c3
   obtain rfl := Option.some.inj H
   go_enter Tryd.func26, Tryd.ntmps26
   go_wp2_with (first | ((with_reducible refine gate_dst (N := 1) rfl ?_); (try (refine gate_guard (by rfl) ?_; dsimp only)); refine box_event ?hg (N := 1) ?hd (cs := #[.slice A0_0 l0_0.length c0_0, .slice A0_1 l0_1.length c0_1, .int .i64 a0_2, .slice A0_3 l0_3.length c0_3]) (t := 25) ?hr ?_; (case hd => rfl); (case hg => rfl); (case hr => first | (go_simp; done) | (go_simp; rfl)); intro gb211 hg w43 hbox hb; have n0_ := Aside0.mk (below_step (by repeat (first | (with_reducible first | exact HB.out | apply below_alloc | apply pw_below_drewN | apply below_drew1) | exact HB.out)) hb); have n1_ := Aside0.mk (hbox); have n2_ := Aside0.mk ((by rw [hg]; exact (below_size (by repeat (first | (with_reducible first | exact HB.out | apply below_alloc | apply pw_below_drewN | apply below_drew1) | exact HB.out))) : w.heap.size ≤ gb211)); have n3_ := Aside0.mk ((by rw [hg]; exact (below_size (by repeat (first | (with_reducible first | exact HB.out | apply below_alloc | apply pw_below_drewN | apply below_drew1) | exact HB.out))) : w.heap.size ≤ gb211)); clear HB; have HB := n0_; have BK211 := n1_; have GW211 := n2_; have GE211 := n3_; clear n0_ n1_ n2_ n3_; clear hb hbox hg; have hcz44_0 : w43.cell? ⟨gb211, 0, none⟩ = some (.slice A0_0 l0_0.length c0_0) := (blk_cell BK211.out 0).trans rfl; have hcz44_1 : w43.cell? ⟨gb211, 1, none⟩ = some (.slice A0_1 l0_1.length c0_1) := (blk_cell BK211.out 1).trans rfl; have hcz44_2 : w43.cell? ⟨gb211, 2, none⟩ = some (.int .i64 a0_2) := (blk_cell BK211.out 2).trans rfl; have hcz44_3 : w43.cell? ⟨gb211, 3, none⟩ = some (.slice A0_3 l0_3.length c0_3) := (blk_cell BK211.out 3).trans rfl; have hfz44_0 := blk_frozen BK211.out 0; have hfz44_1 := blk_frozen BK211.out 1; have hfz44_2 := blk_frozen BK211.out 2; have hfz44_3 := blk_frozen BK211.out 3) | ((with_reducible refine gate_callee (f := 53) rfl ?_); refine goesL_ (some 12) rfl rfl Tryd.func53 (by kernel_rfl) rfl #[.agg #[.slice A0_0 l0_0.length c0_0, .slice A0_1 l0_1.length c0_1, .int .i64 a0_2, .slice A0_3 l0_3.length c0_3]] rfl (by (try simp only [List.map_toArray, List.map_cons, List.map_nil]); first | done | rfl | (simp only [List.length_drop, List.length_take]; rfl)) ?_; (with_reducible refine (dovetailref03_Check.calls k _ _ l0_0 _ _ l0_1 a0_2 _ _ l0_3 t212 t213 _ ?side1 ?side2 ?side3 ?side4 ?side5 ?side6 A2.out).mono ?_); (case side1 => repeat (first | exact (Kd.C_below HR0_0.out HB.out) | (with_reducible refine Kd.C_alloc ?_ _) | (with_reducible refine Kd.C_drewN ?_ _) | (with_reducible refine Kd.C_drew ?_))); (case side2 => exact HC0_0.out); (case side3 => repeat (first | exact (Kd.C_below HR0_1.out HB.out) | (with_reducible refine Kd.C_alloc ?_ _) | (with_reducible refine Kd.C_drewN ?_ _) | (with_reducible refine Kd.C_drew ?_))); (case side4 => exact HC0_1.out); (case side5 => repeat (first | exact (Kd.C_below HR0_3.out HB.out) | (with_reducible refine Kd.C_alloc ?_ _) | (with_reducible refine Kd.C_drewN ?_ _) | (with_reducible refine Kd.C_drew ?_))); (case side6 => exact HC0_3.out); rintro e w45 ⟨rfl, hb⟩; refine ⟨_, rfl, ?_⟩; have n0_ := Aside0.mk (blk_below (g := gb211) (o := .cells #[.slice A0_0 l0_0.length c0_0, .slice A0_1 l0_1.length c0_1, .int .i64 a0_2, .slice A0_3 l0_3.length c0_3] 25 (0, 0)) (by (with_reducible repeat (first | refine blk_drewN ?_ _ | refine blk_drew ?_ | refine blk_alloc ?_ _)); exact BK211.out) hb); have n1_ := Aside0.mk (below_step (by repeat (first | (with_reducible first | exact HB.out | apply below_alloc | apply pw_below_drewN | apply below_drew1 | refine below_set ?_ GE211.out) | exact HB.out)) hb); clear BK211; clear HB; have BK211 := n0_; have HB := n1_; clear n0_ n1_; (try clear hb); (try clear hb2); (try clear hk); (try clear hi)))
   go_ret
   exact ⟨by first | rfl | (simp [errW_none, errW_some] <;> rfl) | (simp [*, errW_none, errW_some] <;> rfl), by repeat (first | (with_reducible first | exact HB.out | apply below_alloc | apply pw_below_drewN | apply below_drew1 | refine below_set ?_ GE211.out) | exact HB.out)⟩

end Go.Proofs.YthjhaogfpdkhbaaDoor.B
namespace Go.Proofs.YthjhaogfpdkhbaaDoor.B
open Go.RowKit Go.Proofs.YthjhaogfpdkhbaaDoorW.PrintWords Go.Proofs.YthjhaogfpdkhbaaDoorW.PrintLast Go.Proofs.YthjhaogfpdkhbaaDoorW.PrintMore
attribute [local go_sem] max2_int min2_int max_two min_two max_three min_three max_four min_four   -- for this text's walks alone
set_option linter.unusedVariables false
set_option linter.unusedSimpArgs false

end Go.Proofs.YthjhaogfpdkhbaaDoor.B
namespace Go.Proofs.YthjhaogfpdkhbaaDoor.B
open Go.RowKit Go.Proofs.YthjhaogfpdkhbaaDoorW.PrintWords Go.Proofs.YthjhaogfpdkhbaaDoorW.PrintLast Go.Proofs.YthjhaogfpdkhbaaDoorW.PrintMore
attribute [local go_sem] max2_int min2_int max_two min_two max_three min_three max_four min_four   -- for this text's walks alone
set_option linter.unusedVariables false
set_option linter.unusedSimpArgs false

end Go.Proofs.YthjhaogfpdkhbaaDoor.B
/- The kind of words, as the print has it. -/
namespace Go.Proofs.YthjhaogfpdkhbaaDoor.B
open Go.RowKit Go.Proofs.YthjhaogfpdkhbaaDoorW.PrintWords Go.Proofs.YthjhaogfpdkhbaaDoorW.PrintLast Go.Proofs.YthjhaogfpdkhbaaDoorW.PrintMore
attribute [local go_sem] max2_int min2_int max_two min_two max_three min_three max_four min_four   -- for this text's walks alone
set_option linter.unusedVariables false
set_option linter.unusedSimpArgs false



structure S87 where
 f0 : ByteArray
 f1 : Bool
 f2 : Int
end Go.Proofs.YthjhaogfpdkhbaaDoor.B
/- A name for printed texts. -/

/- A grammar's kind, as the print has it. -/
namespace Go.Proofs.YthjhaogfpdkhbaaDoor.B
open Go.RowKit Go.Proofs.YthjhaogfpdkhbaaDoorW.PrintWords Go.Proofs.YthjhaogfpdkhbaaDoorW.PrintLast Go.Proofs.YthjhaogfpdkhbaaDoorW.PrintMore
attribute [local go_sem] max2_int min2_int max_two min_two max_three min_three max_four min_four   -- for this text's walks alone
set_option linter.unusedVariables false
set_option linter.unusedSimpArgs false

structure S25 where
 f0 : (List ByteArray)
 f1 : (List ByteArray)
 f2 : Int
 f3 : (List S52)
def k25 : Kd S25 := Kd.iso (Kd.pair (Kd.slice 9 Kd.string) (Kd.pair (Kd.slice 9 Kd.string) (Kd.pair (Kd.int .i64) (Kd.slice 52 k52)))) (fun x : S25 => (x.f0, x.f1, x.f2, x.f3))
theorem k25_open {w : World} {x : S25} {cs : List Value} (h : k25.K w x cs) : ∃ A0 c0 A1 c1 A3 c3, cs = [.slice A0 x.f0.length c0, .slice A1 x.f1.length c1, .int .i64 x.f2, .slice A3 x.f3.length c3] ∧ x.f0.length ≤ c0 ∧ Kd.string.C w A0 x.f0.length x.f0 ∧ x.f1.length ≤ c1 ∧ Kd.string.C w A1 x.f1.length x.f1 ∧ x.f3.length ≤ c3 ∧ k52.C w A3 x.f3.length x.f3 := by
 obtain ⟨_, _, rfl, ⟨A0, c0, rfl, l0, g0⟩, ⟨_, _, rfl, ⟨A1, c1, rfl, l1, g1⟩, ⟨_, _, rfl, rfl, ⟨A3, c3, rfl, l3, g3⟩⟩⟩⟩ := h
 exact ⟨A0, c0, A1, c1, A3, c3, rfl, l0, g0, l1, g1, l3, g3⟩
end Go.Proofs.YthjhaogfpdkhbaaDoor.B
/- The openers of a grammar, a rule, a list of numbers, as a row reads them. -/
set_option linter.unusedVariables false
namespace Go.Proofs.YthjhaogfpdkhbaaDoor.OG
open Go.ChangeShapes Go.WideShapes Go.ChangeAt Go.RowKit Go.Proofs.YthjhaogfpdkhbaaDoorW.PrintWords Go.Proofs.YthjhaogfpdkhbaaDoor.H Go.Proofs.YthjhaogfpdkhbaaDoor.B

theorem bytes_s : Tryd.prog.bytesOf 9 = 16 := by kernel_rfl
theorem bytes_i : Tryd.prog.bytesOf 3 = 8 := by kernel_rfl
theorem bytes_r : Tryd.prog.bytesOf 52 = 32 := by kernel_rfl
theorem cells_s : Tryd.prog.cellsOf 9 = Kd.string.sz := by kernel_rfl
theorem cells_i : Tryd.prog.cellsOf 3 = (Kd.int .i64).sz := by kernel_rfl
theorem cells_r : Tryd.prog.cellsOf 52 = k52.sz := by kernel_rfl
theorem cells_ss : Tryd.prog.cellsOf 22 = (Kd.slice 9 Kd.string).sz := by kernel_rfl
theorem cells_is : Tryd.prog.cellsOf 26 = (Kd.slice 3 (Kd.int .i64)).sz := by kernel_rfl
theorem cells_rs : Tryd.prog.cellsOf 23 = (Kd.slice 52 k52).sz := by kernel_rfl

abbrev gS (l : List ByteArray) : Prop := l.length ≤ maxLen ∧ ∀ a ∈ l, a.size ≤ maxLen
abbrev gI (l : List Int) : Prop := l.length ≤ maxLen ∧ ∀ a ∈ l, (Lit.int .i64 a).wf = true
end Go.Proofs.YthjhaogfpdkhbaaDoor.OG
/- A grammar as a row reads it, with the sizes that its reach gives. -/
set_option linter.unusedVariables false
namespace Go.Proofs.YthjhaogfpdkhbaaDoor.OG
open Go.ChangeShapes Go.WideShapes Go.ChangeAt Go.RowKit Go.Proofs.YthjhaogfpdkhbaaDoorW.PrintWords Go.Proofs.YthjhaogfpdkhbaaDoor.H Go.Proofs.YthjhaogfpdkhbaaDoor.B

set_option maxRecDepth 20000 in
theorem opn_rule_z : ∃ z m, Opn Tryd.prog 52 k52 (fun x => (Lit.int .i64 x.f0).wf = true ∧ gI x.f1) z m ∧ ∀ x, z x → x.f1.length * 8 ≤ reachBytes :=
 ⟨_, _, opn_struct (d := Kd.pair (Kd.int .i64) (Kd.slice 3 (Kd.int .i64))) Tryd.underlying52 (by kernel_rfl) (row_cons rfl cells_i rfl (opn_int Tryd.underlying3) (row_one rfl cells_is (opn_slice Tryd.underlying26 cells_i bytes_i (opn_int Tryd.underlying3)))) (fun x : S52 => (x.f0, x.f1)) (fun p => ⟨p.1, p.2⟩) (fun _ => rfl), fun x h => h.2.1⟩
set_option maxRecDepth 20000 in
theorem opn_grammar_z : ∃ z m, Opn Tryd.prog 25 k25 (fun x => gS x.f0 ∧ gS x.f1 ∧ (Lit.int .i64 x.f2).wf = true ∧ x.f3.length ≤ maxLen ∧ ∀ a ∈ x.f3, ((Lit.int .i64 a.f0).wf = true ∧ gI a.f1)) z m ∧ ∀ x, z x → x.f0.length * 16 ≤ reachBytes ∧ x.f1.length * 16 ≤ reachBytes ∧ x.f3.length * 32 ≤ reachBytes ∧ ∀ a ∈ x.f3, a.f1.length * 8 ≤ reachBytes := by
 obtain ⟨z, m, h, hz⟩ := opn_rule_z
 exact ⟨_, _, opn_struct (d := Kd.pair (Kd.slice 9 Kd.string) (Kd.pair (Kd.slice 9 Kd.string) (Kd.pair (Kd.int .i64) (Kd.slice 52 k52)))) Tryd.underlying25 (by kernel_rfl) (row_cons rfl cells_ss rfl (opn_slice Tryd.underlying22 cells_s bytes_s (opn_string Tryd.underlying9))
  (row_cons rfl cells_ss rfl (opn_slice Tryd.underlying22 cells_s bytes_s (opn_string Tryd.underlying9))
  (row_cons rfl cells_i rfl (opn_int Tryd.underlying3)
  (row_one rfl cells_rs (opn_slice Tryd.underlying23 cells_r bytes_r h))))) (fun x : S25 => (x.f0, x.f1, x.f2, x.f3)) (fun p => ⟨p.1, p.2.1, p.2.2.1, p.2.2.2⟩) (fun _ => rfl), fun x h => ⟨h.1.1, h.2.1.1, h.2.2.2.1, fun a ha => hz a (h.2.2.2.2 a ha)⟩⟩

theorem reach_lt : reachBytes = 140737488351232 := by decide
set_option maxRecDepth 100000 in
theorem open_gz {W : World} {base : Nat} {v : Value} {H : Type} {enc : TypeId × Value → H} {spare : Nat → Bool} {held : Bool} {x : DataW H} {ps : List MemPlace} (hv : Value.okWide Tryd.prog W .any base 25 v) (h : DataW.Trod enc Tryd.prog W 0 spare held 25 v x ps) (hw : ∀ n ∈ x.weights Tryd.prog 25, n ≤ reachBytes) :
 ∃ (g : S25) (A0 : Option Addr) (c0 : Nat) (A1 : Option Addr) (c1 : Nat) (A3 : Option Addr) (c3 : Nat), v = .agg #[.slice A0 g.f0.length c0, .slice A1 g.f1.length c1, .int .i64 g.f2, .slice A3 g.f3.length c3] ∧ g.f0.length ≤ c0 ∧ Kd.string.C W A0 g.f0.length g.f0 ∧ g.f1.length ≤ c1 ∧ Kd.string.C W A1 g.f1.length g.f1 ∧ g.f3.length ≤ c3 ∧ k52.C W A3 g.f3.length g.f3 ∧
  g.f0.length < 8796093022207 ∧ g.f1.length < 8796093022207 ∧ g.f3.length < 4398046511104 ∧ ∀ a ∈ g.f3, a.f1.length < 17592186044415 := by
 obtain ⟨z, m, ho, hz⟩ := opn_grammar_z
 obtain ⟨g, hK, hg, hzz, _⟩ := opn_trod ho h
 obtain ⟨cs, rfl, _⟩ := okWide_struct Tryd.underlying25 hv
 obtain ⟨A0, c0, A1, c1, A3, c3, hcs, l0, k0, l1, k1, l3, k3⟩ := k25_open hK
 have hcs' : cs.toList = [.slice A0 g.f0.length c0, .slice A1 g.f1.length c1, .int .i64 g.f2, .slice A3 g.f3.length c3] := hcs
 obtain rfl : cs = #[.slice A0 g.f0.length c0, .slice A1 g.f1.length c1, .int .i64 g.f2, .slice A3 g.f3.length c3] := by cases cs; simp_all
 obtain ⟨z0, z1, z3, zx⟩ := hz g (hzz hw)
 rw [reach_lt] at z0 z1 z3
 exact ⟨g, A0, c0, A1, c1, A3, c3, rfl, l0, k0, l1, k1, l3, k3, by omega, by omega, by omega, fun a ha => by have := zx a ha; rw [reach_lt] at this; omega⟩
end Go.Proofs.YthjhaogfpdkhbaaDoor.OG
/- What the row's listed sentinels give: each variable's cell, to what it points; no two point to one place. -/
set_option linter.unusedVariables false
set_option linter.unusedSimpArgs false
namespace Go.Proofs.YthjhaogfpdkhbaaDoor.H
open Go.RowKit Go.ChangeShapes

def sentData (nm : String) (l : List (String × List UInt8 × Nat)) : List (String × DataW Unit) := l.map fun x => (x.1, .iface nm (.ptr (.agg [.lit (.string x.2.1)])))
theorem sents_of_vars {P : Program} {W : World} {nm : String} {ti tp te ts : TypeId} {ms : Array (String × TypeId)} {f : Field}
 (hi : P.underlying ti = some (.interface ms)) (hrow : ∀ u, P.typeName? 3 u = some nm → u = tp)
 (hp : P.underlying tp = some (.pointer te)) (he : P.underlying te = some (.struct #[f])) (hft : f.type = ts) (hfo : f.offset = 0) (hs : P.underlying ts = some .string) (hc : P.cellsOf te = 1) (hcs : P.cellsOf ts = 1) :
 ∀ (l : List (String × List UInt8 × Nat)) (ps : List MemPlace), DataW.LaidVars P W (sentData nm l) ps → ps.Nodup →
  (∀ b off, MemPlace.cell b off ∈ ps → (∃ c t, W.heap[b]? = some (.cells c t (0, 0))) ∧ ∀ u v, W.cell? ⟨b, off, none⟩ = some (.iface u v) → Value.okWide P W .any 0 u v) →
  (∀ x ∈ l, P.globalNamed x.1 = some x.2.2 ∧ (P.globals[x.2.2]?).map (·.type) = some ti) →
  ∃ az : List Addr, az.length = l.length ∧ (∀ (i : Nat) x a, l[i]? = some x → az[i]? = some a → W.cell? ⟨x.2.2, 0, none⟩ = some (.iface tp (.pointer (some a))) ∧ ∃ c t, W.heap[a.block]? = some (.cells c t (0, 0))) ∧ (∀ a ∈ az, ∀ m ∈ MemPlace.row a 1, m ∈ ps) ∧ az.Nodup
 | [], ps, _, _, _, _ => ⟨[], rfl, fun i x a h => by simp at h, fun a h => by simp at h, List.nodup_nil⟩
 | x :: l, ps, h, hnd, hrows, hg => by
  obtain ⟨g, t, cs, fu, p, q, hg0, ht0, hv, hd, hr, rfl⟩ := h
  obtain ⟨hgx, htx⟩ := hg x (List.mem_cons_self ..)
  obtain rfl := Option.some.inj (hgx.symm.trans hg0)
  obtain rfl := Option.some.inj (htx.symm.trans ht0)
  obtain ⟨l0⟩ := cs
  have hcell := World.var?_cell hgx hv 0
  have ok0 : ∀ u v, l0 = [.iface u v] → Value.okWide P W .any 0 u v := fun u v e => by
   subst e
   exact (hrows x.2.2 0 (by simp [MemPlace.row])).2 u v (by simpa using hcell)
  obtain ⟨a, s, rfl, hca, _, _, rfl⟩ := errorString_of_trod hi hrow hp he hft hfo hs hc hcs hd ok0
  obtain ⟨az, e1, e2, e3, e4⟩ := sents_of_vars hi hrow hp he hft hfo hs hc hcs l q hr (List.nodup_append.1 hnd).2.1 (fun b off hm => hrows b off (by simp [hm])) (fun y hy => hg y (List.mem_cons_of_mem _ hy))
  refine ⟨a :: az, by simp [e1], ?_, ?_, ?_⟩
  · intro i y b hy hb
    cases i with
    | zero =>
     simp at hy hb
     subst hy hb
     exact ⟨by simpa using hcell, (hrows a.block a.off (by simp [MemPlace.row])).1⟩
    | succ i => exact e2 i y b (by simpa using hy) (by simpa using hb)
  · intro b hb m hm
    rcases List.mem_cons.1 hb with rfl | hb
    · simp [hm]
    · simp [e3 b hb m hm]
  · refine List.nodup_cons.2 ⟨fun hm => ?_, e4⟩
    have h1 := e3 a hm (.cell a.block a.off) (by simp [MemPlace.row])
    have h2 := List.nodup_append.1 hnd
    exact h2.2.2 (.cell a.block a.off) (by simp [MemPlace.row]) _ h1 rfl
theorem sents_of_laid {P : Program} {W : World} {nm : String} {ti tp te ts : TypeId} {ms : Array (String × TypeId)} {f : Field} {l : List (String × List UInt8 × Nat)}
 (hi : P.underlying ti = some (.interface ms)) (hrow : ∀ u, P.typeName? 3 u = some nm → u = tp)
 (hp : P.underlying tp = some (.pointer te)) (he : P.underlying te = some (.struct #[f])) (hft : f.type = ts) (hfo : f.offset = 0) (hs : P.underlying ts = some .string) (hc : P.cellsOf te = 1) (hcs : P.cellsOf ts = 1)
 (h : laidMet P (sentData nm l) W) (hg : ∀ x ∈ l, P.globalNamed x.1 = some x.2.2 ∧ (P.globals[x.2.2]?).map (·.type) = some ti) :
 ∃ az : List Addr, az.length = l.length ∧ (∀ (i : Nat) x a, l[i]? = some x → az[i]? = some a → W.cell? ⟨x.2.2, 0, none⟩ = some (.iface tp (.pointer (some a))) ∧ ∃ c t, W.heap[a.block]? = some (.cells c t (0, 0))) ∧ az.Nodup := by
 obtain ⟨ps, hv, hnd, hrows⟩ := h
 obtain ⟨az, e1, e2, _, e4⟩ := sents_of_vars hi hrow hp he hft hfo hs hc hcs l ps hv hnd hrows hg
 exact ⟨az, e1, e2, e4⟩
theorem es_star : "*" ++ "errors.errorString" = "*errors.errorString" := by decide
theorem es_row : ∀ u, Tryd.prog.typeName? 3 u = some "*errors.errorString" → u = 178 := fun u h =>
 typeName_ptr_named (nm := "errors.errorString") (by rw [es_star]; kernel_rfl) (by kernel_rfl) (by decide) u (by rw [es_star]; exact h)
end Go.Proofs.YthjhaogfpdkhbaaDoor.H
/- errors.Is at the sentinels, after the kit's worked example. -/
set_option linter.unusedVariables false
set_option linter.unusedSimpArgs false
namespace Go.Proofs.YthjhaogfpdkhbaaDoor.E
open Go.RowKit Go.Extern.Stop Go.Stop Go.Extern

theorem isTypeOf (v : Value) (w : World) : (Extern.ReflectliteType.typeOf #[.iface 178 v]).run Tryd.prog w = .ok (.iface 150 (.agg #[.pointer (some ⟨16, 178, none⟩)])) w := by kernel_rfl
def compF : Array Value → Sem Value := Extern.ReflectliteType.method fun t => do Extern.Rtype.noPackHeld "Comparable" t; pure (.bool (← typeInfo t).comparable)
theorem isComparable (w : World) : (compF #[.agg #[.pointer (some ⟨16, 178, none⟩)]]).run Tryd.prog w = .ok (.bool true) w := by kernel_rfl
theorem isMethodComparable (v : Value) (w : World) : (Go.method 309 150 v "Comparable").run Tryd.prog w = .ok (136, v) w := by kernel_rfl
theorem isComp : (Tryd.prog.info? 178).map (·.comparable) = some true := by kernel_rfl
theorem isSize : (Tryd.prog.info? 197).map (·.size) = some 1 := by kernel_rfl

theorem noIsE (v : Value) (xT : TypeId) (w : World) : (Instr.typeAssert (.iface 178 v) xT 152 true).run Tryd.prog w = .ok (.tuple #[.nilIface, .bool false]) w := run_typeAssert_lacksB Tryd.underlying152 (by kernel_rfl) (by kernel_rfl) v xT w
theorem noUnwrapE (v : Value) (xT : TypeId) (w : World) : (Instr.typeAssert (.iface 178 v) xT 155 true).run Tryd.prog w = .ok (.tuple #[.nilIface, .bool false]) w := run_typeAssert_lacksB Tryd.underlying155 (by kernel_rfl) (by kernel_rfl) v xT w
theorem noUnwrapsE (v : Value) (xT : TypeId) (w : World) : (Instr.typeAssert (.iface 178 v) xT 157 true).run Tryd.prog w = .ok (.tuple #[.nilIface, .bool false]) w := run_typeAssert_lacksB Tryd.underlying157 (by kernel_rfl) (by kernel_rfl) v xT w

theorem is_same (a : Addr) (w : World) :
 Calls Tryd.prog 55 #[.iface 178 (.pointer (some a)), .iface 178 (.pointer (some a))] w fun e w' => e = .returned (.bool true) ∧ w = w' := by
 obtain ⟨i, hi, hcmp⟩ := Option.map_eq_some_iff.1 isComp
 obtain ⟨j, hj, hjs⟩ := Option.map_eq_some_iff.1 isSize
 have h8 := @run_callFunc_extern Tryd.prog 86 _ Extern.ReflectliteType.typeOf Tryd.func86 (by kernel_rfl) (by kernel_rfl) (by kernel_rfl) (by kernel_rfl)
 have h32 := @run_callFunc_extern Tryd.prog 136 _ compF Tryd.func136 (by kernel_rfl) (by kernel_rfl) (by kernel_rfl) (by kernel_rfl)
 have tT := isTypeOf
 have cT := isComparable
 have mR := isMethodComparable
 have heq := run_eql_iface_ptr_same (P := Tryd.prog) w a Tryd.underlying30 Tryd.underlying178 hi hcmp hj
 go_enter Tryd.func55, Tryd.ntmps55
 go_wp2
 refine wp_loop_rounds 1 ?_
 rw [rounds_succ]
 go_wp2
 go_ret
 exact ⟨rfl, rfl⟩

theorem is_other (a b : Addr) (ca cb : Array Value) (ta tb : TypeId) (w : World) (hne : a ≠ b) (ha : w.heap[a.block]? = some (.cells ca ta (0, 0))) (hb : w.heap[b.block]? = some (.cells cb tb (0, 0))) :
 Calls Tryd.prog 55 #[.iface 178 (.pointer (some a)), .iface 178 (.pointer (some b))] w fun e w' => e = .returned (.bool false) ∧ w = w' := by
 obtain ⟨i, hi, hcmp⟩ := Option.map_eq_some_iff.1 isComp
 obtain ⟨j, hj, hjs⟩ := Option.map_eq_some_iff.1 isSize
 have h8 := @run_callFunc_extern Tryd.prog 86 _ Extern.ReflectliteType.typeOf Tryd.func86 (by kernel_rfl) (by kernel_rfl) (by kernel_rfl) (by kernel_rfl)
 have h32 := @run_callFunc_extern Tryd.prog 136 _ compF Tryd.func136 (by kernel_rfl) (by kernel_rfl) (by kernel_rfl) (by kernel_rfl)
 have tT := isTypeOf
 have cT := isComparable
 have mR := isMethodComparable
 have nE := noIsE
 have uE := noUnwrapE
 have vE := noUnwrapsE
 have heq := run_eql_iface_ptr_other (P := Tryd.prog) w Tryd.underlying30 Tryd.underlying178 hi hcmp hj (by rw [hjs]; decide) hne ha hb
 go_enter Tryd.func55, Tryd.ntmps55
 go_wp2
 refine wp_loop_rounds 1 ?_
 rw [rounds_succ]
 go_wp2
 go_ret
 exact ⟨rfl, rfl⟩
end Go.Proofs.YthjhaogfpdkhbaaDoor.E
/- Blocks that lie. -/
set_option linter.unusedVariables false
namespace Go.Proofs.YthjhaogfpdkhbaaDoor.B
open Go.RowKit Go.Proofs.YthjhaogfpdkhbaaDoorW.PrintWords

theorem C_max {α : Type} {d : Kd α} {w : World} {A : Option Addr} {n : Nat} {xs : List α} (h : d.C w A n xs) : n ≤ 9223372036854775807 := h.2.1
def Box (b : Nat) (cs : Array Value) (t : TypeId) (W : World) : Prop := W.heap[b]? = some (.cells cs t (0, 0))
theorem Box.cell {b : Nat} {cs : Array Value} {t : TypeId} {W : World} (h : Box b cs t W) (i : Nat) (v : Value) (hi : cs[i]? = some v) : W.cell? ⟨b, i, none⟩ = some v := by
 have h' : W.heap[b]? = some (.cells cs t (0, 0)) := h
 simp [World.cell?, h', hi]
theorem Box.below {b : Nat} {cs : Array Value} {t : TypeId} {W W' : World} (h : Box b cs t W) (hb : Below W.heap.size W W') : Box b cs t W' := by
 have h' : W.heap[b]? = some (.cells cs t (0, 0)) := h
 have hlt : b < W.heap.size := by
  rcases Nat.lt_or_ge b W.heap.size with h1 | h1
  · exact h1
  · rw [Array.getElem?_eq_none h1] at h'; cases h'
 exact (hb.block b hlt).trans h'
theorem Box.new (w : World) (cs : Array Value) (t : TypeId) : Box w.heap.size cs t (w.alloc (.cells cs t)) := heap_alloc_new w _
theorem Box.alloc {b : Nat} {cs : Array Value} {t : TypeId} {W : World} (h : Box b cs t W) (o : Obj) : Box b cs t (W.alloc o) := h.below ((Below.refl _ W).alloc (Nat.le_refl _) o)
end Go.Proofs.YthjhaogfpdkhbaaDoor.B
/- kit.Kind: which of api's errors one is, as a number. -/
set_option linter.unusedVariables false
set_option linter.unusedSimpArgs false
namespace Go.Proofs.YthjhaogfpdkhbaaDoor.B
open Go.RowKit Go.Proofs.YthjhaogfpdkhbaaDoorW.PrintWords Go.Proofs.YthjhaogfpdkhbaaDoorW.PrintLast Go.Proofs.YthjhaogfpdkhbaaDoorW.PrintMore Go.Proofs.YthjhaogfpdkhbaaDoor.E

structure SentsK (ad : Int → Addr) (w : World) : Prop where
 cells : w.cell? ⟨1, 0, none⟩ = some (.iface 178 (.pointer (some (ad 1)))) ∧ w.cell? ⟨2, 0, none⟩ = some (.iface 178 (.pointer (some (ad 2)))) ∧ w.cell? ⟨3, 0, none⟩ = some (.iface 178 (.pointer (some (ad 3)))) ∧ w.cell? ⟨4, 0, none⟩ = some (.iface 178 (.pointer (some (ad 4)))) ∧ w.cell? ⟨5, 0, none⟩ = some (.iface 178 (.pointer (some (ad 5)))) ∧ w.cell? ⟨6, 0, none⟩ = some (.iface 178 (.pointer (some (ad 6)))) ∧ w.cell? ⟨7, 0, none⟩ = some (.iface 178 (.pointer (some (ad 7)))) ∧ w.cell? ⟨8, 0, none⟩ = some (.iface 178 (.pointer (some (ad 8)))) ∧ w.cell? ⟨9, 0, none⟩ = some (.iface 178 (.pointer (some (ad 9)))) ∧ w.cell? ⟨10, 0, none⟩ = some (.iface 178 (.pointer (some (ad 10)))) ∧ w.cell? ⟨11, 0, none⟩ = some (.iface 178 (.pointer (some (ad 11)))) ∧ w.cell? ⟨0, 0, none⟩ = some (.iface 178 (.pointer (some (ad 12)))) ∧ w.cell? ⟨12, 0, none⟩ = some (.iface 178 (.pointer (some (ad 13)))) ∧ w.cell? ⟨13, 0, none⟩ = some (.iface 178 (.pointer (some (ad 14)))) ∧ w.cell? ⟨14, 0, none⟩ = some (.iface 178 (.pointer (some (ad 15))))
 box : ∀ k : Int, 1 ≤ k → k ≤ 15 → ∃ c t, w.heap[(ad k).block]? = some (.cells c t (0, 0))
 ne : ∀ j k : Int, 1 ≤ j → j ≤ 15 → 1 ≤ k → k ≤ 15 → j ≠ k → ad j ≠ ad k
theorem SentsK.below {ad : Int → Addr} {w w' : World} (h : SentsK ad w) (hb : Below w.heap.size w w') : SentsK ad w' := by
 obtain ⟨⟨h1, h2, h3, h4, h5, h6, h7, h8, h9, h10, h11, h12, h13, h14, h15⟩, hbox, hne⟩ := h
 refine ⟨⟨(hb.cell (World.block_lt_of_cell? w _ h1)).trans h1, (hb.cell (World.block_lt_of_cell? w _ h2)).trans h2, (hb.cell (World.block_lt_of_cell? w _ h3)).trans h3, (hb.cell (World.block_lt_of_cell? w _ h4)).trans h4, (hb.cell (World.block_lt_of_cell? w _ h5)).trans h5, (hb.cell (World.block_lt_of_cell? w _ h6)).trans h6, (hb.cell (World.block_lt_of_cell? w _ h7)).trans h7, (hb.cell (World.block_lt_of_cell? w _ h8)).trans h8, (hb.cell (World.block_lt_of_cell? w _ h9)).trans h9, (hb.cell (World.block_lt_of_cell? w _ h10)).trans h10, (hb.cell (World.block_lt_of_cell? w _ h11)).trans h11, (hb.cell (World.block_lt_of_cell? w _ h12)).trans h12, (hb.cell (World.block_lt_of_cell? w _ h13)).trans h13, (hb.cell (World.block_lt_of_cell? w _ h14)).trans h14, (hb.cell (World.block_lt_of_cell? w _ h15)).trans h15⟩, fun k h1 h2 => ?_, hne⟩
 obtain ⟨c, t, hc⟩ := hbox k h1 h2
 exact ⟨c, t, Box.below (W := w) (W' := w') hc hb⟩
def IsK (ad : Int → Addr) (w : World) (v : Value) (k : Int) : Prop := ∀ j : Int, 1 ≤ j → j ≤ 15 → ∀ W, Below w.heap.size w W → Calls Tryd.prog 55 #[v, .iface 178 (.pointer (some (ad j)))] W fun e w' => e = .returned (.bool (decide (j = k))) ∧ W = w'
theorem IsK.sent {ad : Int → Addr} {w : World} (hs : SentsK ad w) (k : Int) (h1 : 1 ≤ k) (h2 : k ≤ 15) : IsK ad w (.iface 178 (.pointer (some (ad k)))) k := by
 intro j hj1 hj2 W hW
 by_cases h : j = k
 · subst h
   rw [decide_eq_true rfl]
   exact is_same (ad j) W
 · rw [decide_eq_false h]
   obtain ⟨ca, ta, hca⟩ := (hs.below hW).box k h1 h2
   obtain ⟨cb, tb, hcb⟩ := (hs.below hW).box j hj1 hj2
   exact is_other (ad k) (ad j) ca cb ta tb W (hs.ne k j h1 h2 hj1 hj2 (fun e => h e.symm)) hca hcb

def sentRow (ad : Int → Addr) : Array Value := #[.iface 178 (.pointer (some (ad 1))), .iface 178 (.pointer (some (ad 2))), .iface 178 (.pointer (some (ad 3))), .iface 178 (.pointer (some (ad 4))), .iface 178 (.pointer (some (ad 5))), .iface 178 (.pointer (some (ad 6))), .iface 178 (.pointer (some (ad 7))), .iface 178 (.pointer (some (ad 8))), .iface 178 (.pointer (some (ad 9))), .iface 178 (.pointer (some (ad 10))), .iface 178 (.pointer (some (ad 11))), .iface 178 (.pointer (some (ad 12))), .iface 178 (.pointer (some (ad 13))), .iface 178 (.pointer (some (ad 14))), .iface 178 (.pointer (some (ad 15)))]
theorem sentRow_at (ad : Int → Addr) (i : Nat) (hi : i < 15) : (sentRow ad)[i]? = some (.iface 178 (.pointer (some (ad ((i + 1 : Nat) : Int))))) := by
 match i, hi with
 | 0, _ => rfl
 | 1, _ => rfl
 | 2, _ => rfl
 | 3, _ => rfl
 | 4, _ => rfl
 | 5, _ => rfl
 | 6, _ => rfl
 | 7, _ => rfl
 | 8, _ => rfl
 | 9, _ => rfl
 | 10, _ => rfl
 | 11, _ => rfl
 | 12, _ => rfl
 | 13, _ => rfl
 | 14, _ => rfl

set_option maxHeartbeats 2000000 in
set_option maxRecDepth 100000 in
theorem Kind_any (ad : Int → Addr) (t : TypeId) (u : Value) (k : Int) (hk1 : 1 ≤ k) (hk2 : k ≤ 15) (w : World) (hs : SentsK ad w) (hI : IsK ad w (.iface t u) k) :
 Calls Tryd.prog 14 #[.iface t u] w fun e w' => e = .returned (.int .i64 k) ∧ Below w.heap.size w w' := by
 obtain ⟨⟨h1, h2, h3, h4, h5, h6, h7, h8, h9, h10, h11, h12, h13, h14, h15⟩, _, _⟩ := hs
 have hb0 : Box w.heap.size (sentRow ad) 30 (w.alloc (.cells (sentRow ad) 30)) := Box.new w _ _
 have HB := Aside0.mk hb0
 have HI := Aside0.mk hI
 clear hb0 hI
 go_enter Tryd.func14, Tryd.ntmps14
 go_wp2_with fail
 go_loopw [4, 5] (fun h i wr => ∃ (q : Nat) (hit : Int), q ≤ 15 ∧ i = .int .i64 q ∧ h = .int .i64 hit ∧ Hid (hit = if k ≤ (q : Int) then k else 99) ∧ Aside0 (Below w.heap.size w wr ∧ Box w.heap.size (sentRow ad) 30 wr)) (fun _ i _ => 15 - (intOf i).toNat)
 case atStart => exact ⟨0, 99, by omega, rfl, rfl, Lib.hid (by rw [if_neg]; omega), ⟨(Below.refl _ w).alloc (Nat.le_refl _) _, HB.out⟩⟩
 case round =>
  obtain ⟨q, hit, hq, rfl, rfl, hhit, tr⟩ := hrel
  clear h1 h2 h3 h4 h5 h6 h7 h8 h9 h10 h11 h12 h13 h14 h15
  by_cases hlt : q < 15
  · have f0 := tr.out.2.cell q _ (sentRow_at ad q hlt)
    have hc := HI.out ((q + 1 : Nat) : Int) (by omega) (by omega) wr tr.out.1
    generalize ad ((q + 1 : Nat) : Int) = a at f0 hc
    by_cases c : ((q + 1 : Nat) : Int) = k
    · rw [decide_eq_true c] at hc
      obtain rfl : hit = 99 := by rw [hhit.out, if_neg]; omega
      have HC := Aside0.mk hc
      have HK := Lib.hid c
      clear hc c hhit
      go_wp2_with (go_at_call 55; (with_reducible refine HC.out.mono ?_); rintro e w' ⟨rfl, rfl⟩)
      go_roundw
      case measure => simp [intOf]; omega
      case rel => exact ⟨q + 1, (q : Int) + 1, by omega, rfl, rfl, Lib.hid (by rw [if_pos (by have := HK.out; omega)]; have := HK.out; omega), tr⟩
    · rw [decide_eq_false c] at hc
      have HC := Aside0.mk hc
      have HK := Lib.hid c
      clear hc c
      go_wp2_with (go_at_call 55; (with_reducible refine HC.out.mono ?_); rintro e w' ⟨rfl, rfl⟩)
      go_roundw
      case measure => simp [intOf]; omega
      case rel => exact ⟨q + 1, hit, by omega, rfl, rfl, Lib.hid (by
       have h1 := HK.out
       rw [hhit.out]
       by_cases c : k ≤ (q : Int)
       · rw [if_pos c, if_pos (by omega)]
       · rw [if_neg c, if_neg (by omega)]), tr⟩
  · have hqn : q = 15 := by omega
    subst hqn
    obtain rfl : hit = k := by rw [hhit.out, if_pos]; omega
    clear hhit
    go_wp2_with fail
    go_ret
    exact ⟨rfl, tr.out.1⟩
set_option maxRecDepth 100000 in
theorem Kind_nil (w : World) : Calls Tryd.prog 14 #[.nilIface] w fun e w' => e = .returned (.int .i64 0) ∧ Below w.heap.size w w' := by
 go_enter Tryd.func14, Tryd.ntmps14
 go_wp2_with fail
 go_ret
 exact ⟨rfl, Below.refl _ w⟩
def HandleP (w : World) : Prop := w.cell? ⟨15, 0, none⟩ = some (.iface 150 (.agg #[.pointer (some ⟨16, 30, none⟩)]))
theorem HandleP.below {w w' : World} (h : HandleP w) (hb : Below w.heap.size w w') : HandleP w' := (hb.cell (World.block_lt_of_cell? w _ h)).trans h
end Go.Proofs.YthjhaogfpdkhbaaDoor.B
/- What the listed variables give: the fifteen sentinels, the handle of the type error; a world in which they lie. -/
set_option linter.unusedVariables false
set_option linter.unusedSimpArgs false
namespace Go.Proofs.YthjhaogfpdkhbaaDoor.B
open Go.RowKit Go.ChangeShapes Go.Proofs.YthjhaogfpdkhbaaDoor.H

def names15 : List (String × List UInt8 × Nat) := [("dovetail/api.ErrArg", [100, 111, 118, 101, 116, 97, 105, 108, 58, 32, 97, 114, 103, 117, 109, 101, 110, 116], 1), ("dovetail/api.ErrSyntax", [100, 111, 118, 101, 116, 97, 105, 108, 58, 32, 115, 121, 110, 116, 97, 120], 2), ("dovetail/api.ErrBounds", [100, 111, 118, 101, 116, 97, 105, 108, 58, 32, 98, 111, 117, 110, 100, 115], 3), ("dovetail/api.ErrNotOperator", [100, 111, 118, 101, 116, 97, 105, 108, 58, 32, 110, 111, 116, 32, 97, 110, 32, 111, 112, 101, 114, 97, 116, 111, 114, 32, 103, 114, 97, 109, 109, 97, 114], 4), ("dovetail/api.ErrMatrix", [100, 111, 118, 101, 116, 97, 105, 108, 58, 32, 116, 119, 111, 32, 114, 101, 108, 97, 116, 105, 111, 110, 115], 5), ("dovetail/api.ErrTooBig", [100, 111, 118, 101, 116, 97, 105, 108, 58, 32, 116, 111, 111, 32, 98, 105, 103], 6), ("dovetail/api.ErrRefused", [100, 111, 118, 101, 116, 97, 105, 108, 58, 32, 114, 101, 102, 117, 115, 101, 100], 7), ("dovetail/api.ErrCut", [100, 111, 118, 101, 116, 97, 105, 108, 58, 32, 99, 117, 116], 8), ("dovetail/api.ErrPlan", [100, 111, 118, 101, 116, 97, 105, 108, 58, 32, 112, 108, 97, 110], 9), ("dovetail/api.ErrName", [100, 111, 118, 101, 116, 97, 105, 108, 58, 32, 110, 97, 109, 101], 10), ("dovetail/api.ErrTree", [100, 111, 118, 101, 116, 97, 105, 108, 58, 32, 116, 114, 101, 101], 11), ("dovetail/api.ErrLong", [100, 111, 118, 101, 116, 97, 105, 108, 58, 32, 108, 111, 110, 103], 0), ("dovetail/api.ErrForm", [100, 111, 118, 101, 116, 97, 105, 108, 58, 32, 102, 111, 114, 109], 12), ("dovetail/api.ErrSum", [100, 111, 118, 101, 116, 97, 105, 108, 58, 32, 115, 117, 109], 13), ("dovetail/api.ErrNone", [100, 111, 118, 101, 116, 97, 105, 108, 58, 32, 110, 111, 110, 101], 14)]
noncomputable def low16 : Nat := (World.holding Tryd.prog default ⟨#[], #[], []⟩).heap.size
noncomputable def laidWorld16 (os : Os) : World :=
 let w0 := World.holding Tryd.prog os ⟨#[.cells #[.string ⟨#[100, 111, 118, 101, 116, 97, 105, 108, 58, 32, 97, 114, 103, 117, 109, 101, 110, 116]⟩] 197, .cells #[.string ⟨#[100, 111, 118, 101, 116, 97, 105, 108, 58, 32, 115, 121, 110, 116, 97, 120]⟩] 197, .cells #[.string ⟨#[100, 111, 118, 101, 116, 97, 105, 108, 58, 32, 98, 111, 117, 110, 100, 115]⟩] 197, .cells #[.string ⟨#[100, 111, 118, 101, 116, 97, 105, 108, 58, 32, 110, 111, 116, 32, 97, 110, 32, 111, 112, 101, 114, 97, 116, 111, 114, 32, 103, 114, 97, 109, 109, 97, 114]⟩] 197, .cells #[.string ⟨#[100, 111, 118, 101, 116, 97, 105, 108, 58, 32, 116, 119, 111, 32, 114, 101, 108, 97, 116, 105, 111, 110, 115]⟩] 197, .cells #[.string ⟨#[100, 111, 118, 101, 116, 97, 105, 108, 58, 32, 116, 111, 111, 32, 98, 105, 103]⟩] 197, .cells #[.string ⟨#[100, 111, 118, 101, 116, 97, 105, 108, 58, 32, 114, 101, 102, 117, 115, 101, 100]⟩] 197, .cells #[.string ⟨#[100, 111, 118, 101, 116, 97, 105, 108, 58, 32, 99, 117, 116]⟩] 197, .cells #[.string ⟨#[100, 111, 118, 101, 116, 97, 105, 108, 58, 32, 112, 108, 97, 110]⟩] 197, .cells #[.string ⟨#[100, 111, 118, 101, 116, 97, 105, 108, 58, 32, 110, 97, 109, 101]⟩] 197, .cells #[.string ⟨#[100, 111, 118, 101, 116, 97, 105, 108, 58, 32, 116, 114, 101, 101]⟩] 197, .cells #[.string ⟨#[100, 111, 118, 101, 116, 97, 105, 108, 58, 32, 108, 111, 110, 103]⟩] 197, .cells #[.string ⟨#[100, 111, 118, 101, 116, 97, 105, 108, 58, 32, 102, 111, 114, 109]⟩] 197, .cells #[.string ⟨#[100, 111, 118, 101, 116, 97, 105, 108, 58, 32, 115, 117, 109]⟩] 197, .cells #[.string ⟨#[100, 111, 118, 101, 116, 97, 105, 108, 58, 32, 110, 111, 110, 101]⟩] 197], #[], []⟩
 let put (h : Array Obj) (g : Nat) (cs : Array Value) : Array Obj := h.modify g fun
  | .cells _ t frozen => .cells cs t frozen
  | o => o
 { w0 with heap := put (put (put (put (put (put (put (put (put (put (put (put (put (put (put (put w0.heap 15 #[.iface 150 (.agg #[.pointer (some ⟨16, 30, none⟩)])]) 1 #[.iface 178 (.pointer (some ⟨low16 + 0, 0, none⟩))]) 2 #[.iface 178 (.pointer (some ⟨low16 + 1, 0, none⟩))]) 3 #[.iface 178 (.pointer (some ⟨low16 + 2, 0, none⟩))]) 4 #[.iface 178 (.pointer (some ⟨low16 + 3, 0, none⟩))]) 5 #[.iface 178 (.pointer (some ⟨low16 + 4, 0, none⟩))]) 6 #[.iface 178 (.pointer (some ⟨low16 + 5, 0, none⟩))]) 7 #[.iface 178 (.pointer (some ⟨low16 + 6, 0, none⟩))]) 8 #[.iface 178 (.pointer (some ⟨low16 + 7, 0, none⟩))]) 9 #[.iface 178 (.pointer (some ⟨low16 + 8, 0, none⟩))]) 10 #[.iface 178 (.pointer (some ⟨low16 + 9, 0, none⟩))]) 11 #[.iface 178 (.pointer (some ⟨low16 + 10, 0, none⟩))]) 0 #[.iface 178 (.pointer (some ⟨low16 + 11, 0, none⟩))]) 12 #[.iface 178 (.pointer (some ⟨low16 + 12, 0, none⟩))]) 13 #[.iface 178 (.pointer (some ⟨low16 + 13, 0, none⟩))]) 14 #[.iface 178 (.pointer (some ⟨low16 + 14, 0, none⟩))] }
end Go.Proofs.YthjhaogfpdkhbaaDoor.B
/- The fifteen sentinels alone, as the listed variables tell them. -/
set_option linter.unusedVariables false
set_option linter.unusedSimpArgs false
namespace Go.Proofs.YthjhaogfpdkhbaaDoor.L15
open Go.RowKit Go.ChangeShapes Go.Proofs.YthjhaogfpdkhbaaDoor.H Go.Proofs.YthjhaogfpdkhbaaDoor.B

def laid15 : List (String × DataW Unit) := sentData "*errors.errorString" names15
set_option maxRecDepth 20000 in
theorem sents {W : World} (h : laidMetH Tryd.prog laid15 W) : ∃ ad, SentsK ad W := by
 have h1 : laidMet Tryd.prog (sentData "*errors.errorString" names15) W := h
 obtain ⟨az, hl, hx, hnd⟩ := sents_of_laid Tryd.underlying30 es_row Tryd.underlying178 Tryd.underlying197 rfl rfl Tryd.underlying9 (by kernel_rfl) (by kernel_rfl) h1 (by
  intro x hx
  simp only [names15, List.mem_cons, List.not_mem_nil, or_false] at hx
  rcases hx with rfl | rfl | rfl | rfl | rfl | rfl | rfl | rfl | rfl | rfl | rfl | rfl | rfl | rfl | rfl <;> exact ⟨by kernel_rfl, by kernel_rfl⟩)
 match az, hl with
 | [a1, a2, a3, a4, a5, a6, a7, a8, a9, a10, a11, a12, a13, a14, a15], _ =>
  have hg : ∀ i : Nat, i < 15 → ∃ a, [a1, a2, a3, a4, a5, a6, a7, a8, a9, a10, a11, a12, a13, a14, a15][i]? = some a := fun i hi => ⟨_, List.getElem?_eq_getElem (by simpa using hi)⟩
  refine ⟨fun k => ([a1, a2, a3, a4, a5, a6, a7, a8, a9, a10, a11, a12, a13, a14, a15][(k - 1).toNat]?).getD a1, ⟨by simpa using (hx 0 _ a1 rfl rfl).1, by simpa using (hx 1 _ a2 rfl rfl).1, by simpa using (hx 2 _ a3 rfl rfl).1, by simpa using (hx 3 _ a4 rfl rfl).1, by simpa using (hx 4 _ a5 rfl rfl).1, by simpa using (hx 5 _ a6 rfl rfl).1, by simpa using (hx 6 _ a7 rfl rfl).1, by simpa using (hx 7 _ a8 rfl rfl).1, by simpa using (hx 8 _ a9 rfl rfl).1, by simpa using (hx 9 _ a10 rfl rfl).1, by simpa using (hx 10 _ a11 rfl rfl).1, by simpa using (hx 11 _ a12 rfl rfl).1, by simpa using (hx 12 _ a13 rfl rfl).1, by simpa using (hx 13 _ a14 rfl rfl).1, by simpa using (hx 14 _ a15 rfl rfl).1⟩, ?_, ?_⟩
  · intro k h1 h2
    obtain ⟨a, ha⟩ := hg (k - 1).toNat (by omega)
    rw [ha]
    have hn : (k - 1).toNat < names15.length := by show (k - 1).toNat < 15; omega
    exact (hx (k - 1).toNat _ a (List.getElem?_eq_getElem hn) ha).2
  · intro j k h1 h2 h3 h4 hne
    obtain ⟨a, ha⟩ := hg (j - 1).toNat (by omega)
    obtain ⟨b, hb⟩ := hg (k - 1).toNat (by omega)
    rw [ha, hb]
    intro e
    have e' : a = b := e
    subst e'
    have hi1 : (j - 1).toNat < [a1, a2, a3, a4, a5, a6, a7, a8, a9, a10, a11, a12, a13, a14, a15].length := by show _ < 15; omega
    have := (List.getElem?_inj hi1 hnd).1 (ha.trans hb.symm)
    omega
set_option maxRecDepth 100000 in
theorem laid_met (os : Os) (args : Array Value) : laidMetH Tryd.prog laid15 ((laidWorld16 os).forCall (fun _ _ => 0) ⟨#[], args, []⟩).memory :=
 laidMet_of_run' 20 (by kernel_rfl) (by kernel_rfl)
end Go.Proofs.YthjhaogfpdkhbaaDoor.L15
/- Words of a line, in plain Lean: quoting and plain bytes. -/
namespace Go.Proofs.YthjhaogfpdkhbaaDoor.P

def hexd (n : Nat) : UInt8 := if n < 10 then UInt8.ofNat (48 + n) else UInt8.ofNat (55 + n)
def qb (c : UInt8) : List UInt8 :=
 if c = 34 ∨ c = 92 then [92, c] else if c = 10 then [92, 110] else if c < 32 ∨ 126 < c then [92, 120, hexd (c.toNat / 16), hexd (c.toNat % 16)] else [c]
def quoteTo (l : List UInt8) : List UInt8 := 34 :: l.flatMap qb
def quoteL (l : List UInt8) : List UInt8 := quoteTo l ++ [34]
theorem qb_length (c : UInt8) : (qb c).length ≤ 4 := by
 unfold qb
 split
 · simp
 · split
   · simp
   · split <;> simp
theorem quoteTo_length (l : List UInt8) : (quoteTo l).length ≤ 4 * l.length + 1 := by
 unfold quoteTo
 induction l with
 | nil => simp
 | cons c l ih =>
  have := qb_length c
  simp only [List.flatMap_cons, List.length_cons, List.length_append] at *
  omega
theorem quoteTo_snoc (l : List UInt8) (c : UInt8) : quoteTo (l ++ [c]) = quoteTo l ++ qb c := by
 simp [quoteTo]
theorem take_snoc (s : ByteArray) (k : Nat) (h : k < s.size) : s.data.toList.take (k + 1) = s.data.toList.take k ++ [s[k]] := by
 rw [List.take_succ_eq_append_getElem (by simpa using h)]; rfl
theorem take_all (s : ByteArray) : s.data.toList.take s.size = s.data.toList := List.take_of_length_le (by simp)
theorem take_len (s : ByteArray) (k : Nat) : (s.data.toList.take k).length ≤ k := List.length_take_le _ _
theorem size_append (a b : ByteArray) : (a ++ b).size = a.size + b.size := by simp
theorem size_lit (l : List UInt8) : (⟨l.toArray⟩ : ByteArray).size = l.length := by simp [ByteArray.size]
theorem data_append (a b : ByteArray) : (a ++ b).data.toList = a.data.toList ++ b.data.toList := by simp
theorem extract_one (s : ByteArray) (k : Nat) (h : k < s.size) : (s.extract k (k + 1)).data.toList = [s[k]] := by
 have hk : k < s.data.toList.length := by simpa using h
 rw [ByteArray.data_extract, Array.toList_extract, List.extract_eq_take_drop]
 rw [show k + 1 - k = 1 from by omega, List.drop_eq_getElem_cons hk]
 rfl
theorem size_one (s : ByteArray) (k : Nat) (h : k < s.size) : (s.extract k (k + 1)).size = 1 := by
 simp only [ByteArray.size_extract]; omega
def digits : ByteArray := ⟨#[48, 49, 50, 51, 52, 53, 54, 55, 56, 57, 65, 66, 67, 68, 69, 70]⟩
theorem digit_at (n : Nat) (h : n < 16) : (digits.extract n (n + 1)).data.toList = [hexd n] := by
 have h2 : ∀ m : Fin 16, (digits.extract m.val (m.val + 1)).data.toList = [hexd m.val] := by decide
 exact h2 ⟨n, h⟩
theorem qb_esc (c : UInt8) (h : c = 34 ∨ c = 92) : qb c = [92, c] := if_pos h
theorem qb_nl (c : UInt8) (h : ¬ (c = 34 ∨ c = 92)) (h1 : c = 10) : qb c = [92, 110] := by rw [qb, if_neg h, if_pos h1]
theorem qb_hex (c : UInt8) (h : ¬ (c = 34 ∨ c = 92)) (h1 : ¬ c = 10) (h2 : c < 32 ∨ 126 < c) : qb c = [92, 120, hexd (c.toNat / 16), hexd (c.toNat % 16)] := by rw [qb, if_neg h, if_neg h1, if_pos h2]
theorem qb_one (c : UInt8) (h : ¬ (c = 34 ∨ c = 92)) (h1 : ¬ c = 10) (h2 : ¬ (c < 32 ∨ 126 < c)) : qb c = [c] := by rw [qb, if_neg h, if_neg h1, if_neg h2]
def plainB (c : UInt8) : Bool := decide (32 < c) && decide (c < 127) && !(c == 34)
def noHash : List UInt8 → Bool
 | [] => false
 | c :: _ => !(c == 35)
def plainL (l : List UInt8) : Bool := l.all plainB && noHash l
theorem toList_data (s : ByteArray) : s.toList = s.data.toList := ByteArray.toList_eq s
def pieceL (x : List UInt8 × Bool) : List UInt8 := if x.2 = true ∨ plainL x.1 = false then quoteL x.1 else x.1
def writeL : List (List UInt8 × Bool) → List UInt8
 | [] => []
 | x :: r => pieceL x ++ r.flatMap fun y => 32 :: pieceL y
def boundL (l : List (List UInt8 × Bool)) : Nat := (l.map fun x => 4 * x.1.length + 3).sum
theorem quoteL_length (l : List UInt8) : (quoteL l).length ≤ 4 * l.length + 2 := by
 have := quoteTo_length l
 simp only [quoteL, List.length_append, List.length_singleton]
 omega
end Go.Proofs.YthjhaogfpdkhbaaDoor.P
/- Sets of small numbers as whole numbers of 64 bits: membership. -/
set_option linter.unusedVariables false
set_option linter.unusedSimpArgs false
namespace Go.Proofs.YthjhaogfpdkhbaaDoor.B
open Go.RowKit Go.Proofs.YthjhaogfpdkhbaaDoorW.PrintWords Go.Proofs.YthjhaogfpdkhbaaDoorW.PrintLast Go.Proofs.YthjhaogfpdkhbaaDoorW.PrintMore

end Go.Proofs.YthjhaogfpdkhbaaDoor.B
/- gram.rule and what it calls. -/
set_option linter.unusedVariables false
namespace Go.Proofs.YthjhaogfpdkhbaaDoor.B
open Go.RowKit Go.Proofs.YthjhaogfpdkhbaaDoorW.PrintWords Go.Proofs.YthjhaogfpdkhbaaDoorW.PrintLast Go.Proofs.YthjhaogfpdkhbaaDoorW.PrintMore

def outS (t n : Nat) (s : Int) : Bool := decide ((t : Int) ≤ s) || decide (s < -(n : Int))

set_option maxHeartbeats 1000000 in
set_option maxRecDepth 100000 in
theorem OutS_calls (s : Int) (b t n ct cn : Nat) (At An : Option Addr) (w : World) (ht : t ≤ 60) (hn : n ≤ 60) (h0 : w.cell? ⟨b, 0, none⟩ = some (.slice At t ct)) (h1 : w.cell? ⟨b, 1, none⟩ = some (.slice An n cn)) :
 Calls Tryd.prog 100 #[.int .i64 s, .pointer (some ⟨b, 0, none⟩)] w fun e w' => e = .returned (.bool (outS t n s)) ∧ Below w.heap.size w w' := by
 by_cases c : (t : Int) ≤ s
 · have hc : decide ((t : Int) ≤ s) = true := decide_eq_true c
   have hq : outS t n s = true := by simp [outS, c]
   rw [hq]
   clear hq c
   go_enter Tryd.func100, Tryd.ntmps100
   go_wp2_with fail
   go_ret
   exact ⟨rfl, Below.refl _ w⟩
 · have hc : decide ((t : Int) ≤ s) = false := decide_eq_false c
   have hq : outS t n s = decide (s < -(n : Int)) := by simp [outS, c]
   rw [hq]
   generalize hz : decide (s < -(n : Int)) = z
   clear hq c
   go_enter Tryd.func100, Tryd.ntmps100
   go_wp2_with fail
   go_ret
   exact ⟨rfl, Below.refl _ w⟩

set_option maxHeartbeats 1000000 in
set_option maxRecDepth 100000 in
theorem IdxS_calls (A : Option Addr) (l : List Int) (c : Nat) (b t n ct cn : Nat) (At An : Option Addr) (w : World) (ht : t ≤ 60) (hn : n ≤ 60) (h0 : w.cell? ⟨b, 0, none⟩ = some (.slice At t ct)) (h1 : w.cell? ⟨b, 1, none⟩ = some (.slice An n cn))
 (hr : Kd.C (Kd.int .i64) w A l.length l) (hc : l.length ≤ c) :
 Calls Tryd.prog 111 #[.slice A l.length c, .func (.func 100) #[] #[.pointer (some ⟨b, 0, none⟩)]] w fun e w' => (∃ v : Int, e = .returned (.int .i64 v) ∧ decide (0 ≤ v) = l.any (outS t n)) ∧ Below w.heap.size w w' := by
 have hm := C_max hr
 have hcall : ∀ (W : World), Below w.heap.size w W → ∀ s, Calls Tryd.prog 100 #[.int .i64 s, .pointer (some ⟨b, 0, none⟩)] W fun e w' => e = .returned (.bool (outS t n s)) ∧ Below w.heap.size w w' := by
  intro W hW s
  refine (OutS_calls s b t n ct cn At An W ht hn ((hW.cell (World.block_lt_of_cell? w _ h0)).trans h0) ((hW.cell (World.block_lt_of_cell? w _ h1)).trans h1)).mono ?_
  rintro e w' ⟨he, hb⟩
  exact ⟨he, hW.trans (hb.mono hW.size)⟩
 have HR := Aside0.mk hr
 have HC := Aside0.mk hcall
 clear hr hcall h0 h1
 go_enter Tryd.func111, Tryd.ntmps111
 go_wp2_with fail
 go_loopw [5, 8] (fun _ i wr => ∃ k : Nat, k ≤ l.length ∧ i = .int .i64 k ∧ Hid ((l.take k).any (outS t n) = false) ∧ Aside0 (Below w.heap.size w wr)) (fun _ i _ => l.length - (intOf i).toNat)
 case atStart => exact ⟨0, Nat.zero_le _, rfl, Lib.hid (by simp), ⟨Below.refl _ w⟩⟩
 case round =>
  obtain ⟨k, hk, rfl, hno, hbe⟩ := hrel
  by_cases hlt : k < l.length
  · obtain ⟨ad, rfl, hx⟩ := Kd.at_int (Kd.C_below HR.out hbe.out) (k : Int) (by omega) (by omega)
    have hw := HC.out wr hbe.out (rd l (k : Int))
    have g0 : rd l (k : Int) = l[k] := by simp [rd, List.getD_eq_getElem?_getD, List.getElem?_eq_getElem hlt]
    have hn1 : (l.take (k + 1)).any (outS t n) = ((l.take k).any (outS t n) || outS t n l[k]) := by rw [List.take_succ_eq_append_getElem hlt, List.any_append]; simp
    have ha : outS t n l[k] = true → l.any (outS t n) = true := fun h => List.any_eq_true.2 ⟨l[k], List.getElem_mem hlt, h⟩
    rw [Int.toNat_natCast] at hx
    rw [g0] at hx hw
    generalize l[k] = x at hx hw hn1 ha
    cases hq : outS t n x with
    | true =>
     rw [hq] at hw
     have HA := Lib.hid (ha hq)
     have HW := Aside0.mk hw
     clear hw hn1 ha g0 hq
     go_wp2_with (go_at_call 100; (with_reducible refine HW.out.mono ?_); rintro e w' ⟨rfl, hb'⟩)
     go_ret
     exact ⟨⟨(k : Int), rfl, by rw [HA.out]; simp⟩, hb'⟩
    | false =>
     rw [hq] at hw
     have HN := Lib.hid hn1
     have HQ := Lib.hid hq
     have HW := Aside0.mk hw
     clear hw hn1 ha g0 hq
     go_wp2_with (go_at_call 100; (with_reducible refine HW.out.mono ?_); rintro e w' ⟨rfl, hb'⟩)
     go_roundw
     case measure => simp [intOf]; omega
     case rel => exact ⟨k + 1, by omega, rfl, Lib.hid (by rw [HN.out, hno.out, HQ.out]; rfl), ⟨hb'⟩⟩
  · have hkn : k = l.length := by omega
    subst hkn
    have HNO := Lib.hid (show l.any (outS t n) = false by have := hno.out; rwa [List.take_length] at this)
    clear hno
    go_wp2_with fail
    go_ret
    exact ⟨⟨-1, rfl, by rw [HNO.out]; rfl⟩, hbe.out⟩

set_option maxHeartbeats 1000000 in
set_option maxRecDepth 100000 in
theorem ContS_calls (A : Option Addr) (l : List Int) (c : Nat) (b t n ct cn : Nat) (At An : Option Addr) (w : World) (ht : t ≤ 60) (hn : n ≤ 60) (h0 : w.cell? ⟨b, 0, none⟩ = some (.slice At t ct)) (h1 : w.cell? ⟨b, 1, none⟩ = some (.slice An n cn))
 (hr : Kd.C (Kd.int .i64) w A l.length l) (hc : l.length ≤ c) :
 Calls Tryd.prog 99 #[.slice A l.length c, .func (.func 100) #[] #[.pointer (some ⟨b, 0, none⟩)]] w fun e w' => e = .returned (.bool (l.any (outS t n))) ∧ Below w.heap.size w w' := by
 have HW := Aside0.mk (IdxS_calls A l c b t n ct cn At An w ht hn h0 h1 hr hc)
 clear h0 h1 hr
 go_enter Tryd.func99, Tryd.ntmps99
 go_wp2_with (go_at_call 111; (with_reducible refine HW.out.mono ?_); rintro e w' ⟨⟨v, rfl, hv⟩, hb'⟩; have HV := Lib.hid hv; clear hv)
 go_ret
 exact ⟨by show Ending.returned (.bool (decide (0 ≤ v))) = _; rw [HV.out], hb'⟩
end Go.Proofs.YthjhaogfpdkhbaaDoor.B
/- gram.Check at a grammar that may be: it answers nil. -/
set_option linter.unusedVariables false
namespace Go.Proofs.YthjhaogfpdkhbaaDoor.B
open Go.RowKit Go.Proofs.YthjhaogfpdkhbaaDoorW.PrintWords Go.Proofs.YthjhaogfpdkhbaaDoorW.PrintLast Go.Proofs.YthjhaogfpdkhbaaDoorW.PrintMore

def okR (t n : Nat) (x : S52) : Bool := decide (x.f1.length ≤ 32) && decide (0 ≤ x.f0) && decide (x.f0 < n) && !x.f1.any (outS t n)

end Go.Proofs.YthjhaogfpdkhbaaDoor.B
/- Reading lists at a natural number; renamings, and to which nonterminals one comes by them. -/
set_option linter.unusedVariables false
set_option linter.unusedSimpArgs false
namespace Go.Proofs.YthjhaogfpdkhbaaDoor.B
open Go.RowKit Go.Proofs.YthjhaogfpdkhbaaDoorW.PrintWords Go.Proofs.YthjhaogfpdkhbaaDoorW.PrintLast Go.Proofs.YthjhaogfpdkhbaaDoorW.PrintMore

theorem rd_D (l : List Int) (i : Nat) : rd l (i : Int) = l.getD i 0 := by simp [rd]
theorem rdS_D (l : List ByteArray) (i : Nat) : rdOf ByteArray.empty l (i : Int) = l.getD i ByteArray.empty := by simp [rdOf]
theorem rdR_D (l : List S52) (i : Nat) : rd_T52 l (i : Int) = l.getD i z52 := by simp [rd_T52]
theorem getD_lt {α : Type} (l : List α) (i : Nat) (d : α) (h : i < l.length) : l.getD i d = l[i] := by simp [List.getD_eq_getElem?_getD, List.getElem?_eq_getElem h]
theorem w64 (i : Nat) (h : i < 9223372036854775807) : wrap64 ((i : Int) + 1) = ((i + 1 : Nat) : Int) := by unfold wrap64; omega

def ren (x : S52) : Option Nat := match x.f1 with
 | [s] => if s < 0 then some (-1 - s).toNat else none
 | _ => none
theorem okR_sides {t n : Nat} {x : S52} (h : okR t n x = true) : x.f1.length ≤ 32 ∧ 0 ≤ x.f0 ∧ x.f0 < n ∧ ∀ s ∈ x.f1, s < t ∧ -(n : Int) ≤ s := by
 simp only [okR, Bool.and_eq_true, decide_eq_true_eq, Bool.not_eq_true', List.any_eq_false, outS, Bool.or_eq_true, not_or, Int.not_le, Int.not_lt] at h
 exact ⟨h.1.1.1, h.1.1.2, h.1.2, fun s hs => by simpa using h.2 s hs⟩
def Edge (R : List S52) (a m : Nat) : Prop := ∃ x ∈ R, x.f0 = (a : Int) ∧ ren x = some m
inductive Reach (R : List S52) : Nat → Nat → Prop
 | refl (a : Nat) : Reach R a a
 | step {a m b : Nat} : Edge R a m → Reach R m b → Reach R a b
theorem Reach.trans {R : List S52} {a m b : Nat} (h : Reach R a m) (h' : Reach R m b) : Reach R a b := by
 induction h with
 | refl a => exact h'
 | step e _ ih => exact .step e (ih h')
end Go.Proofs.YthjhaogfpdkhbaaDoor.B
/- Chapter 5, in plain Lean: the texts of symbols, rules and grammars; which grammars are readable. -/
set_option linter.unusedVariables false
set_option linter.unusedSimpArgs false
namespace Go.Proofs.YthjhaogfpdkhbaaDoor.P
open Go.RowKit
open Go.Proofs.YthjhaogfpdkhbaaDoor.B (S52)

instance decMemBA (a : ByteArray) (l : List ByteArray) : Decidable (a ∈ l) := decidable_of_iff (∃ x ∈ l, a = x) (by simp)
def freeL (l : List UInt8) : Bool := plainL l && (!(l == [58]) && !(l == [124]))
def symL (l0 l1 : List ByteArray) (s : Int) : List UInt8 :=
 if s = (l0.length : Int) then [36]
 else if 0 ≤ s then
  if s < (l0.length : Int) then
   if (l0.getD s.toNat ByteArray.empty ∈ l1) ∨ freeL (l0.getD s.toNat ByteArray.empty).data.toList = false then quoteL (l0.getD s.toNat ByteArray.empty).data.toList else (l0.getD s.toNat ByteArray.empty).data.toList
  else [63]
 else if -1 - s < (l1.length : Int) then
  if freeL (l1.getD (-1 - s).toNat ByteArray.empty).data.toList = true then (l1.getD (-1 - s).toNat ByteArray.empty).data.toList else 60 :: quoteL (l1.getD (-1 - s).toNat ByteArray.empty).data.toList ++ [62]
 else [63]
def tlL (l0 l1 : List ByteArray) (l : List Int) : List UInt8 := l.flatMap fun s => 32 :: symL l0 l1 s
def symsL (l0 l1 : List ByteArray) : List Int → List UInt8
 | [] => []
 | x :: r => symL l0 l1 x ++ tlL l0 l1 r
theorem symsL_snoc (l0 l1 : List ByteArray) (l : List Int) (x : Int) : symsL l0 l1 (l ++ [x]) = symsL l0 l1 l ++ (if l = [] then [] else [32]) ++ symL l0 l1 x := by
 cases l with
 | nil => simp [symsL, tlL]
 | cons y r => simp [symsL, tlL]
theorem tlL_syms (l0 l1 : List ByteArray) (l : List Int) (h : l ≠ []) : tlL l0 l1 l = 32 :: symsL l0 l1 l := by
 cases l with
 | nil => exact absurd rfl h
 | cons y r => simp [symsL, tlL]
theorem symL_length {l0 l1 : List ByteArray} {m : Nat} (h0 : ∀ x ∈ l0, x.size ≤ m) (h1 : ∀ x ∈ l1, x.size ≤ m) (s : Int) : (symL l0 l1 s).length ≤ 4 * m + 4 := by
 have hg : ∀ (l : List ByteArray), (∀ x ∈ l, x.size ≤ m) → ∀ i, (l.getD i ByteArray.empty).data.toList.length ≤ m := by
  intro l h i
  rcases Nat.lt_or_ge i l.length with hi | hi
  · have := h _ (List.getElem_mem hi)
    rw [List.getD_eq_getElem?_getD, List.getElem?_eq_getElem hi]
    simpa using this
  · rw [List.getD_eq_getElem?_getD, List.getElem?_eq_none hi]
    show ([] : List UInt8).length ≤ m
    simp
 unfold symL
 have g0 := hg l0 h0 s.toNat
 have g1 := hg l1 h1 (-1 - s).toNat
 have q0 := quoteL_length (l0.getD s.toNat ByteArray.empty).data.toList
 have q1 := quoteL_length (l1.getD (-1 - s).toNat ByteArray.empty).data.toList
 split
 · simp
 · split
   · split
     · split <;> omega
     · simp
   · split
     · split
       · omega
       · simp only [List.length_append, List.length_cons, List.length_nil]; omega
     · simp
theorem tlL_length {l0 l1 : List ByteArray} {m : Nat} (h0 : ∀ x ∈ l0, x.size ≤ m) (h1 : ∀ x ∈ l1, x.size ≤ m) (l : List Int) : (tlL l0 l1 l).length ≤ (4 * m + 5) * l.length := by
 induction l with
 | nil => simp [tlL]
 | cons x r ih =>
  have := symL_length h0 h1 x
  have e : tlL l0 l1 (x :: r) = 32 :: symL l0 l1 x ++ tlL l0 l1 r := by simp [tlL]
  rw [e]
  simp only [List.length_append, List.length_cons, Nat.mul_add, Nat.mul_one]
  omega
theorem symsL_length {l0 l1 : List ByteArray} {m : Nat} (h0 : ∀ x ∈ l0, x.size ≤ m) (h1 : ∀ x ∈ l1, x.size ≤ m) (l : List Int) : (symsL l0 l1 l).length ≤ (4 * m + 5) * l.length := by
 cases l with
 | nil => simp [symsL]
 | cons x r =>
  have := tlL_length h0 h1 (x :: r)
  rw [tlL_syms l0 l1 (x :: r) (by simp)] at this
  simp only [List.length_cons] at this ⊢
  omega
def altL (l0 l1 : List ByteArray) (p : Option Int) (x : S52) : List UInt8 :=
 (if p = some x.f0 then [32, 124] else (if p = none then [] else [10]) ++ (symL l0 l1 (-1 - x.f0) ++ [32, 58])) ++ tlL l0 l1 x.f1
def altsL (l0 l1 : List ByteArray) : Option Int → List S52 → List UInt8
 | _, [] => []
 | p, x :: r => altL l0 l1 p x ++ altsL l0 l1 (some x.f0) r
def textL (l0 l1 : List ByteArray) (R : List S52) : List UInt8 := altsL l0 l1 none R ++ [10]
def lastF (p : Option Int) (R : List S52) : Option Int := match R.getLast? with | some x => some x.f0 | none => p
theorem altsL_snoc (l0 l1 : List ByteArray) : ∀ (R : List S52) (p : Option Int) (x : S52), altsL l0 l1 p (R ++ [x]) = altsL l0 l1 p R ++ altL l0 l1 (lastF p R) x
 | [], p, x => by simp [altsL, lastF]
 | y :: R, p, x => by
  rw [List.cons_append]
  unfold altsL
  rw [altsL_snoc l0 l1 R (some y.f0) x, List.append_assoc]
  congr 2
  cases R with
  | nil => rfl
  | cons z R =>
   unfold lastF
   rw [show (y :: z :: R).getLast? = (z :: R).getLast? from List.getLast?_cons_cons]
   cases h : (z :: R).getLast? with
   | none => simp at h
   | some q => rfl
theorem altL_length {l0 l1 : List ByteArray} {m : Nat} (h0 : ∀ x ∈ l0, x.size ≤ m) (h1 : ∀ x ∈ l1, x.size ≤ m) (p : Option Int) (x : S52) : (altL l0 l1 p x).length ≤ (4 * m + 7) * (x.f1.length + 1) := by
 have h2 := symL_length h0 h1 (-1 - x.f0)
 have h3 := tlL_length h0 h1 x.f1
 have h4 : (4 * m + 5) * x.f1.length ≤ (4 * m + 7) * x.f1.length := Nat.mul_le_mul_right _ (by omega)
 unfold altL
 rw [Nat.mul_add, Nat.mul_one, List.length_append]
 have h5 : (if p = some x.f0 then [32, 124] else (if p = none then [] else [10]) ++ (symL l0 l1 (-1 - x.f0) ++ [32, 58])).length ≤ 4 * m + 7 := by
  split
  · simp
  · split <;> simp only [List.length_append, List.length_cons, List.length_nil] <;> omega
 omega
def riseL : List Int → Int → Option Int
 | [], n => some n
 | x :: r, n => if x > n then none else riseL r (if x = n then n + 1 else n)
theorem riseL_append (l r : List Int) (n : Int) : riseL (l ++ r) n = (riseL l n).bind (riseL r) := by
 induction l generalizing n with
 | nil => rfl
 | cons x l ih =>
  rw [List.cons_append]
  unfold riseL
  split
  · rfl
  · exact ih _
def termsL (R : List S52) : List Int := R.flatMap fun x => x.f1.filter fun s => decide (0 ≤ s)
def leftsL (R : List S52) : List Int := R.map fun x => x.f0
def formB (l0 l1 : List ByteArray) (a2 : Int) (R : List S52) : Bool :=
 decide (a2 = 0) && (decide (riseL (leftsL R) 0 = some (l1.length : Int)) && decide (riseL (termsL R) 0 = some (l0.length : Int)))
def namesFree (l1 : List ByteArray) : Bool := l1.all fun x => freeL x.data.toList
end Go.Proofs.YthjhaogfpdkhbaaDoor.P
