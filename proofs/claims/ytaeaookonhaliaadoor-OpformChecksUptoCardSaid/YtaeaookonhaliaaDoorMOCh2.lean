/- Texts of this claim, one behind the other. -/
import Derived.Test.YtaeaookonhaliaaDoorMOCh1
import Derived.ChangeArms
import Derived.LaidLaws
import Derived.LaidHandle
import Derived.LaidEql
import Derived.Stop.Asserts
import Derived.RowKitTokens
import Derived.Test.YtaeaookonhaliaaDoorRows
import Derived.Lib.LaidTab
import Derived.Lib.LaidIn
import Derived.Deep.MidRow
import Derived.Lib.Builder
import Derived.ChangeKeysEq
import Derived.DeepKeys
import Derived.RangeFuncNested
import Derived.RangeFuncBound
import Derived.RangeFuncCalls
import Derived.RangeFuncLeaves
import Derived.Shelf.Abstract
import Derived.Shelf.RegionOpen
import Derived.WalkKit
import Derived.OwnWalkIn
import Derived.TacticsInMore
import Derived.LoopNIn
import Derived.LoopIn
import Derived.Test.YtaeaookonhaliaaDoorChecked
import Derived.RangeFuncOne
namespace Go.Proofs.YtaeaookonhaliaaDoor.B
open Go.RowKit YtaeaookonhaliaaDoorW.PrintWords YtaeaookonhaliaaDoorW.PrintLast YtaeaookonhaliaaDoorW.PrintMore
attribute [local go_sem] max2_int min2_int max_two min_two max_three min_three max_four min_four   -- for this text's walks alone
set_option linter.unusedVariables false
set_option linter.unusedSimpArgs false

mutual
def dovetailref03_Check.j0 : Nat → Int → Int → Bool → List ByteArray → List ByteArray → Int → List (S55) → Option (Int × Int)
 | 0, _, _, _, _, _, _, _ => none
 | k + 1, x4, x5, x32, x166000, x166001, x166002, x166003 => if x32 = true then (some (3, (-1))) else ((dovetailref03_named.f k x166000).bind fun t166 => (if t166 = true then ((dovetailref03_named.f k x166001).bind fun t167 => (dovetailref03_Check.j1 k x4 x5 (!t167) x166000 x166001 x166002 x166003)) else (dovetailref03_Check.j1 k x4 x5 true x166000 x166001 x166002 x166003)))
def dovetailref03_Check.j1 : Nat → Int → Int → Bool → List ByteArray → List ByteArray → Int → List (S55) → Option (Int × Int)
 | 0, _, _, _, _, _, _, _ => none
 | k + 1, x4, x5, x42, x166000, x166001, x166002, x166003 => if x42 = true then (some (10, (-1))) else (if x5 = 0 then (dovetailref03_Check.j2 k x4 x5 true x166000 x166001 x166002 x166003) else (if x166002 < 0 then (dovetailref03_Check.j2 k x4 x5 true x166000 x166001 x166002 x166003) else (dovetailref03_Check.j2 k x4 x5 (decide (x166002 ≥ x5)) x166000 x166001 x166002 x166003)))
def dovetailref03_Check.j2 : Nat → Int → Int → Bool → List ByteArray → List ByteArray → Int → List (S55) → Option (Int × Int)
 | 0, _, _, _, _, _, _, _ => none
 | k + 1, x4, x5, x55, x166000, x166001, x166002, x166003 => if x55 = true then (some (1, (-1))) else (dovetailref03_Check.l0 k x4 x5 0 x166000 x166001 x166002 x166003)
def dovetailref03_Check.l0 : Nat → Int → Int → Int → List ByteArray → List ByteArray → Int → List (S55) → Option (Int × Int)
 | 0, _, _, _, _, _, _, _ => none
 | k + 1, x4, x5, x6, x166000, x166001, x166002, x166003 => if x6 < (x166003.length : Int) then (if 0 ≤ x6 then (if (((rd_T55 x166003 x6).f1).length : Int) > 32 then (some (3, x6)) else (if ((rd_T55 x166003 x6).f0) < 0 then (dovetailref03_Check.j4 k x4 x5 x6 true x166000 x166001 x166002 x166003 ((rd_T55 x166003 x6).f0) ((rd_T55 x166003 x6).f1)) else (dovetailref03_Check.j4 k x4 x5 x6 (decide (((rd_T55 x166003 x6).f0) ≥ x5)) x166000 x166001 x166002 x166003 ((rd_T55 x166003 x6).f0) ((rd_T55 x166003 x6).f1)))) else (none)) else (some (0, (-1)))
def dovetailref03_Check.j4 : Nat → Int → Int → Int → Bool → List ByteArray → List ByteArray → Int → List (S55) → Int → List Int → Option (Int × Int)
 | 0, _, _, _, _, _, _, _, _, _, _ => none
 | k + 1, x4, x5, x6, x81, x166000, x166001, x166002, x166003, x170000, x170001 => if x81 = true then (some (1, x6)) else (dovetailref03_Check.l1 k x4 x5 x6 0 x166000 x166001 x166002 x166003 x170000 x170001)
def dovetailref03_Check.l1 : Nat → Int → Int → Int → Int → List ByteArray → List ByteArray → Int → List (S55) → Int → List Int → Option (Int × Int)
 | 0, _, _, _, _, _, _, _, _, _, _ => none
 | k + 1, x4, x5, x6, x8, x166000, x166001, x166002, x166003, x170000, x170001 => if x8 < (x170001.length : Int) then (if 0 ≤ x8 then (if (rd x170001 x8) ≥ x4 then (some (1, x6)) else (if (rd x170001 x8) < (wrap64 (-x5)) then (some (1, x6)) else (dovetailref03_Check.l1 k x4 x5 x6 (wrap64 (x8 + 1)) x166000 x166001 x166002 x166003 x170000 x170001))) else (none)) else (dovetailref03_Check.l0 k x4 x5 (wrap64 (x6 + 1)) x166000 x166001 x166002 x166003)
end
def dovetailref03_Check.f (k : Nat) (l0_0 : List ByteArray) (l0_1 : List ByteArray) (a0_2 : Int) (l0_3 : List (S55)) : Option (Int × Int) := if (l0_0.length : Int) > 60 then (dovetailref03_Check.j0 k (l0_0.length : Int) (l0_1.length : Int) true l0_0 l0_1 a0_2 l0_3) else (if (l0_1.length : Int) > 60 then (dovetailref03_Check.j0 k (l0_0.length : Int) (l0_1.length : Int) true l0_0 l0_1 a0_2 l0_3) else (if (wrap64 ((l0_0.length : Int) + (l0_1.length : Int))) > 60 then (dovetailref03_Check.j0 k (l0_0.length : Int) (l0_1.length : Int) true l0_0 l0_1 a0_2 l0_3) else (dovetailref03_Check.j0 k (l0_0.length : Int) (l0_1.length : Int) (decide ((l0_3.length : Int) > 120)) l0_0 l0_1 a0_2 l0_3)))
theorem dovetailref03_Check.mono_l : ∀ k, (∀ y0 y1 y2 y3 y4 y5 y6, LeO (dovetailref03_Check.j0 k y0 y1 y2 y3 y4 y5 y6) (dovetailref03_Check.j0 (k + 1) y0 y1 y2 y3 y4 y5 y6)) ∧ (∀ y0 y1 y2 y3 y4 y5 y6, LeO (dovetailref03_Check.j1 k y0 y1 y2 y3 y4 y5 y6) (dovetailref03_Check.j1 (k + 1) y0 y1 y2 y3 y4 y5 y6)) ∧ (∀ y0 y1 y2 y3 y4 y5 y6, LeO (dovetailref03_Check.j2 k y0 y1 y2 y3 y4 y5 y6) (dovetailref03_Check.j2 (k + 1) y0 y1 y2 y3 y4 y5 y6)) ∧ (∀ y0 y1 y2 y3 y4 y5 y6, LeO (dovetailref03_Check.l0 k y0 y1 y2 y3 y4 y5 y6) (dovetailref03_Check.l0 (k + 1) y0 y1 y2 y3 y4 y5 y6)) ∧ (∀ y0 y1 y2 y3 y4 y5 y6 y7 y8 y9, LeO (dovetailref03_Check.j4 k y0 y1 y2 y3 y4 y5 y6 y7 y8 y9) (dovetailref03_Check.j4 (k + 1) y0 y1 y2 y3 y4 y5 y6 y7 y8 y9)) ∧ (∀ y0 y1 y2 y3 y4 y5 y6 y7 y8 y9, LeO (dovetailref03_Check.l1 k y0 y1 y2 y3 y4 y5 y6 y7 y8 y9) (dovetailref03_Check.l1 (k + 1) y0 y1 y2 y3 y4 y5 y6 y7 y8 y9))
 | 0 => ⟨fun _ _ _ _ _ _ _ r h => by simp [dovetailref03_Check.j0] at h, fun _ _ _ _ _ _ _ r h => by simp [dovetailref03_Check.j1] at h, fun _ _ _ _ _ _ _ r h => by simp [dovetailref03_Check.j2] at h, fun _ _ _ _ _ _ _ r h => by simp [dovetailref03_Check.l0] at h, fun _ _ _ _ _ _ _ _ _ _ r h => by simp [dovetailref03_Check.j4] at h, fun _ _ _ _ _ _ _ _ _ _ r h => by simp [dovetailref03_Check.l1] at h⟩
 | k + 1 => by
  obtain ⟨ih0, ih1, ih2, ih3, ih4, ih5⟩ := dovetailref03_Check.mono_l k
  refine ⟨?_, ?_, ?_, ?_, ?_, ?_⟩
  · intro y0 y1 y2 y3 y4 y5 y6
    unfold dovetailref03_Check.j0
    repeat' first
    | (with_reducible exact ih0 _ _ _ _ _ _ _)
    | (with_reducible exact ih1 _ _ _ _ _ _ _)
    | (with_reducible exact ih2 _ _ _ _ _ _ _)
    | (with_reducible exact ih3 _ _ _ _ _ _ _)
    | (with_reducible exact ih4 _ _ _ _ _ _ _ _ _ _)
    | (with_reducible exact ih5 _ _ _ _ _ _ _ _ _ _)
    | (with_reducible exact dovetailref03_named.mono _ _)
    | (with_reducible exact LeO.refl _)
    | (with_reducible exact LeO.none _)
    | (with_reducible refine LeO.ite ?_ ?_)
    | (with_reducible refine LeO.bind ?_ (fun _ => ?_))
    | exact ih0 _ _ _ _ _ _ _
    | exact ih1 _ _ _ _ _ _ _
    | exact ih2 _ _ _ _ _ _ _
    | exact ih3 _ _ _ _ _ _ _
    | exact ih4 _ _ _ _ _ _ _ _ _ _
    | exact ih5 _ _ _ _ _ _ _ _ _ _
    | exact dovetailref03_named.mono _ _
    | exact LeO.none _
    | refine LeO.ite ?_ ?_
    | refine LeO.bind ?_ (fun _ => ?_)
  · intro y0 y1 y2 y3 y4 y5 y6
    unfold dovetailref03_Check.j1
    repeat' first
    | (with_reducible exact ih0 _ _ _ _ _ _ _)
    | (with_reducible exact ih1 _ _ _ _ _ _ _)
    | (with_reducible exact ih2 _ _ _ _ _ _ _)
    | (with_reducible exact ih3 _ _ _ _ _ _ _)
    | (with_reducible exact ih4 _ _ _ _ _ _ _ _ _ _)
    | (with_reducible exact ih5 _ _ _ _ _ _ _ _ _ _)
    | (with_reducible exact dovetailref03_named.mono _ _)
    | (with_reducible exact LeO.refl _)
    | (with_reducible exact LeO.none _)
    | (with_reducible refine LeO.ite ?_ ?_)
    | (with_reducible refine LeO.bind ?_ (fun _ => ?_))
    | exact ih0 _ _ _ _ _ _ _
    | exact ih1 _ _ _ _ _ _ _
    | exact ih2 _ _ _ _ _ _ _
    | exact ih3 _ _ _ _ _ _ _
    | exact ih4 _ _ _ _ _ _ _ _ _ _
    | exact ih5 _ _ _ _ _ _ _ _ _ _
    | exact dovetailref03_named.mono _ _
    | exact LeO.none _
    | refine LeO.ite ?_ ?_
    | refine LeO.bind ?_ (fun _ => ?_)
  · intro y0 y1 y2 y3 y4 y5 y6
    unfold dovetailref03_Check.j2
    repeat' first
    | (with_reducible exact ih0 _ _ _ _ _ _ _)
    | (with_reducible exact ih1 _ _ _ _ _ _ _)
    | (with_reducible exact ih2 _ _ _ _ _ _ _)
    | (with_reducible exact ih3 _ _ _ _ _ _ _)
    | (with_reducible exact ih4 _ _ _ _ _ _ _ _ _ _)
    | (with_reducible exact ih5 _ _ _ _ _ _ _ _ _ _)
    | (with_reducible exact dovetailref03_named.mono _ _)
    | (with_reducible exact LeO.refl _)
    | (with_reducible exact LeO.none _)
    | (with_reducible refine LeO.ite ?_ ?_)
    | (with_reducible refine LeO.bind ?_ (fun _ => ?_))
    | exact ih0 _ _ _ _ _ _ _
    | exact ih1 _ _ _ _ _ _ _
    | exact ih2 _ _ _ _ _ _ _
    | exact ih3 _ _ _ _ _ _ _
    | exact ih4 _ _ _ _ _ _ _ _ _ _
    | exact ih5 _ _ _ _ _ _ _ _ _ _
    | exact dovetailref03_named.mono _ _
    | exact LeO.none _
    | refine LeO.ite ?_ ?_
    | refine LeO.bind ?_ (fun _ => ?_)
  · intro y0 y1 y2 y3 y4 y5 y6
    unfold dovetailref03_Check.l0
    repeat' first
    | (with_reducible exact ih0 _ _ _ _ _ _ _)
    | (with_reducible exact ih1 _ _ _ _ _ _ _)
    | (with_reducible exact ih2 _ _ _ _ _ _ _)
    | (with_reducible exact ih3 _ _ _ _ _ _ _)
    | (with_reducible exact ih4 _ _ _ _ _ _ _ _ _ _)
    | (with_reducible exact ih5 _ _ _ _ _ _ _ _ _ _)
    | (with_reducible exact dovetailref03_named.mono _ _)
    | (with_reducible exact LeO.refl _)
    | (with_reducible exact LeO.none _)
    | (with_reducible refine LeO.ite ?_ ?_)
    | (with_reducible refine LeO.bind ?_ (fun _ => ?_))
    | exact ih0 _ _ _ _ _ _ _
    | exact ih1 _ _ _ _ _ _ _
    | exact ih2 _ _ _ _ _ _ _
    | exact ih3 _ _ _ _ _ _ _
    | exact ih4 _ _ _ _ _ _ _ _ _ _
    | exact ih5 _ _ _ _ _ _ _ _ _ _
    | exact dovetailref03_named.mono _ _
    | exact LeO.none _
    | refine LeO.ite ?_ ?_
    | refine LeO.bind ?_ (fun _ => ?_)
  · intro y0 y1 y2 y3 y4 y5 y6 y7 y8 y9
    unfold dovetailref03_Check.j4
    repeat' first
    | (with_reducible exact ih0 _ _ _ _ _ _ _)
    | (with_reducible exact ih1 _ _ _ _ _ _ _)
    | (with_reducible exact ih2 _ _ _ _ _ _ _)
    | (with_reducible exact ih3 _ _ _ _ _ _ _)
    | (with_reducible exact ih4 _ _ _ _ _ _ _ _ _ _)
    | (with_reducible exact ih5 _ _ _ _ _ _ _ _ _ _)
    | (with_reducible exact dovetailref03_named.mono _ _)
    | (with_reducible exact LeO.refl _)
    | (with_reducible exact LeO.none _)
    | (with_reducible refine LeO.ite ?_ ?_)
    | (with_reducible refine LeO.bind ?_ (fun _ => ?_))
    | exact ih0 _ _ _ _ _ _ _
    | exact ih1 _ _ _ _ _ _ _
    | exact ih2 _ _ _ _ _ _ _
    | exact ih3 _ _ _ _ _ _ _
    | exact ih4 _ _ _ _ _ _ _ _ _ _
    | exact ih5 _ _ _ _ _ _ _ _ _ _
    | exact dovetailref03_named.mono _ _
    | exact LeO.none _
    | refine LeO.ite ?_ ?_
    | refine LeO.bind ?_ (fun _ => ?_)
  · intro y0 y1 y2 y3 y4 y5 y6 y7 y8 y9
    unfold dovetailref03_Check.l1
    repeat' first
    | (with_reducible exact ih0 _ _ _ _ _ _ _)
    | (with_reducible exact ih1 _ _ _ _ _ _ _)
    | (with_reducible exact ih2 _ _ _ _ _ _ _)
    | (with_reducible exact ih3 _ _ _ _ _ _ _)
    | (with_reducible exact ih4 _ _ _ _ _ _ _ _ _ _)
    | (with_reducible exact ih5 _ _ _ _ _ _ _ _ _ _)
    | (with_reducible exact dovetailref03_named.mono _ _)
    | (with_reducible exact LeO.refl _)
    | (with_reducible exact LeO.none _)
    | (with_reducible refine LeO.ite ?_ ?_)
    | (with_reducible refine LeO.bind ?_ (fun _ => ?_))
    | exact ih0 _ _ _ _ _ _ _
    | exact ih1 _ _ _ _ _ _ _
    | exact ih2 _ _ _ _ _ _ _
    | exact ih3 _ _ _ _ _ _ _
    | exact ih4 _ _ _ _ _ _ _ _ _ _
    | exact ih5 _ _ _ _ _ _ _ _ _ _
    | exact dovetailref03_named.mono _ _
    | exact LeO.none _
    | refine LeO.ite ?_ ?_
    | refine LeO.bind ?_ (fun _ => ?_)
theorem dovetailref03_Check.mono : ∀ a0 a1 a2 a3 k, LeO (dovetailref03_Check.f k a0 a1 a2 a3) (dovetailref03_Check.f (k + 1) a0 a1 a2 a3) := by
 intro a0 a1 a2 a3 k
 obtain ⟨ih0, ih1, ih2, ih3, ih4, ih5⟩ := dovetailref03_Check.mono_l k
 unfold dovetailref03_Check.f
 repeat' first
  | (with_reducible exact ih0 _ _ _ _ _ _ _)
  | (with_reducible exact ih1 _ _ _ _ _ _ _)
  | (with_reducible exact ih2 _ _ _ _ _ _ _)
  | (with_reducible exact ih3 _ _ _ _ _ _ _)
  | (with_reducible exact ih4 _ _ _ _ _ _ _ _ _ _)
  | (with_reducible exact ih5 _ _ _ _ _ _ _ _ _ _)
  | (with_reducible exact dovetailref03_named.mono _ _)
  | (with_reducible exact LeO.refl _)
  | (with_reducible exact LeO.none _)
  | (with_reducible refine LeO.ite ?_ ?_)
  | (with_reducible refine LeO.bind ?_ (fun _ => ?_))
  | exact ih0 _ _ _ _ _ _ _
  | exact ih1 _ _ _ _ _ _ _
  | exact ih2 _ _ _ _ _ _ _
  | exact ih3 _ _ _ _ _ _ _
  | exact ih4 _ _ _ _ _ _ _ _ _ _
  | exact ih5 _ _ _ _ _ _ _ _ _ _
  | exact dovetailref03_named.mono _ _
  | exact LeO.none _
  | refine LeO.ite ?_ ?_
  | refine LeO.bind ?_ (fun _ => ?_)
set_option maxHeartbeats 8000000 in
set_option maxRecDepth 100000 in
theorem dovetailref03_Check.calls (k : Nat) (A0_0 : Option Addr) (c0_0 : Nat) (l0_0 : List ByteArray) (A0_1 : Option Addr) (c0_1 : Nat) (l0_1 : List ByteArray) (a0_2 : Int) (A0_3 : Option Addr) (c0_3 : Nat) (l0_3 : List (S55)) (r1 : Int) (r2 : Int) (w : World) (hr0_0 : Kd.C Kd.string w A0_0 l0_0.length l0_0) (hc0_0 : l0_0.length ≤ c0_0) (hr0_1 : Kd.C Kd.string w A0_1 l0_1.length l0_1) (hc0_1 : l0_1.length ≤ c0_1) (hr0_3 : Kd.C k55 w A0_3 l0_3.length l0_3) (hc0_3 : l0_3.length ≤ c0_3) (h : dovetailref03_Check.f k l0_0 l0_1 a0_2 l0_3 = some (r1, r2)) :
 Calls Tryd.prog 33 #[.agg #[.slice A0_0 l0_0.length c0_0, .slice A0_1 l0_1.length c0_1, .int .i64 a0_2, .slice A0_3 l0_3.length c0_3]] w fun e w' => e = .returned (.tuple #[.int .i64 r1, .int .i64 r2]) ∧ Below w.heap.size w w' := by
 have hu29 := Tryd.underlying29
 have hu55 := Tryd.underlying55
 have HR0_0 := Aside0.mk hr0_0
 have HC0_0 := Aside0.mk hc0_0
 clear hr0_0 hc0_0
 have HR0_1 := Aside0.mk hr0_1
 have HC0_1 := Aside0.mk hc0_1
 clear hr0_1 hc0_1
 have HR0_3 := Aside0.mk hr0_3
 have HC0_3 := Aside0.mk hc0_3
 clear hr0_3 hc0_3
 have HB := Aside0.mk (Below.refl w.heap.size w)
 have H : (if (l0_0.length : Int) > 60 then (dovetailref03_Check.j0 k (l0_0.length : Int) (l0_1.length : Int) true l0_0 l0_1 a0_2 l0_3) else (if (l0_1.length : Int) > 60 then (dovetailref03_Check.j0 k (l0_0.length : Int) (l0_1.length : Int) true l0_0 l0_1 a0_2 l0_3) else (if (wrap64 ((l0_0.length : Int) + (l0_1.length : Int))) > 60 then (dovetailref03_Check.j0 k (l0_0.length : Int) (l0_1.length : Int) true l0_0 l0_1 a0_2 l0_3) else (dovetailref03_Check.j0 k (l0_0.length : Int) (l0_1.length : Int) (decide ((l0_3.length : Int) > 120)) l0_0 l0_1 a0_2 l0_3)))) = some (r1, r2) := h
 clear h
 have HC2 := Aside0.mk H
 clear H
 go_enter Tryd.func33, Tryd.ntmps33
 go_upto_region 3 with (first | ((with_reducible refine gate_dst (N := 1) rfl ?_); (try (refine gate_guard (by rfl) ?_; dsimp only)); refine box_event ?hg (N := 1) ?hd (cs := #[.slice A0_0 l0_0.length c0_0, .slice A0_1 l0_1.length c0_1, .int .i64 a0_2, .slice A0_3 l0_3.length c0_3]) (t := 29) ?hr ?_; (case hd => rfl); (case hg => rfl); (case hr => first | (go_simp; done) | (go_simp; rfl)); intro gb165 hg w3 hbox hb; have n0_ := Aside0.mk (below_step (by repeat (first | (with_reducible first | exact HB.out | apply below_alloc | apply pw_below_drewN | apply below_drew1) | exact HB.out)) hb); have n1_ := Aside0.mk (hbox); have n2_ := Aside0.mk ((by rw [hg]; exact (below_size (by repeat (first | (with_reducible first | exact HB.out | apply below_alloc | apply pw_below_drewN | apply below_drew1) | exact HB.out))) : w.heap.size ≤ gb165)); have n3_ := Aside0.mk ((by rw [hg]; exact (below_size (by repeat (first | (with_reducible first | exact HB.out | apply below_alloc | apply pw_below_drewN | apply below_drew1) | exact HB.out))) : w.heap.size ≤ gb165)); clear HB; have HB := n0_; have BK165 := n1_; have GW165 := n2_; have GE165 := n3_; clear n0_ n1_ n2_ n3_; clear hb hbox hg; have hcz4_0 : w3.cell? ⟨gb165, 0, none⟩ = some (.slice A0_0 l0_0.length c0_0) := (blk_cell BK165.out 0).trans rfl; have hcz4_1 : w3.cell? ⟨gb165, 1, none⟩ = some (.slice A0_1 l0_1.length c0_1) := (blk_cell BK165.out 1).trans rfl; have hcz4_2 : w3.cell? ⟨gb165, 2, none⟩ = some (.int .i64 a0_2) := (blk_cell BK165.out 2).trans rfl; have hcz4_3 : w3.cell? ⟨gb165, 3, none⟩ = some (.slice A0_3 l0_3.length c0_3) := (blk_cell BK165.out 3).trans rfl; have hfz4_0 := blk_frozen BK165.out 0; have hfz4_1 := blk_frozen BK165.out 1; have hfz4_2 := blk_frozen BK165.out 2; have hfz4_3 := blk_frozen BK165.out 3))
 (try simp only [Act.put, List.setIfInBounds_toArray, List.set_cons_zero, List.set_cons_succ])
 go_cut [32] (fun v32 wc => ∃ (kq : Nat) (x32_1 : Bool), v32 = .bool x32_1 ∧ Aside0 (dovetailref03_Check.j0 kq (l0_0.length : Int) (l0_1.length : Int) x32_1 l0_0 l0_1 a0_2 l0_3 = some (r1, r2)) ∧ Aside0 (kq ≤ k) ∧ Aside0 (wc.heap[gb165]? = some (.cells #[(.slice A0_0 l0_0.length c0_0), (.slice A0_1 l0_1.length c0_1), .int .i64 a0_2, (.slice A0_3 l0_3.length c0_3)] 29 (0, 0))) ∧ Aside0 (Below w.heap.size w wc))
 case first =>
  have H := HC2.out
  clear HC2
  by_cases c5 : (l0_0.length : Int) > 60
  · rw [if_pos c5] at H
    have c5b0 : decide (60 < (l0_0.length : Int)) = true := decide_eq_true c5
    have c5b1 : decide (60 < l0_0.length) = true := decide_eq_true (by omega)
    clear c5
    (first | rw [c5b0] | (simp only [i64_w, i32_w]; rw [c5b0]) | skip)
    have H' := Aside0.mk H
    clear H
    go_wp2
    go_meet
    case rel => exact ⟨_, (true), (by first | rfl | (simp; done) | (simp [*]; done)), H', ⟨by first | omega | exact Nat.le_refl _⟩, ⟨by (with_reducible repeat (first | refine blk_drewN ?_ _ | refine blk_drew ?_ | refine blk_alloc ?_ _)); exact BK165.out⟩, ⟨by repeat (first | (with_reducible first | exact HB.out | apply below_alloc | apply pw_below_drewN | apply below_drew1 | refine below_set ?_ GE165.out) | exact HB.out)⟩⟩
  · rw [if_neg c5] at H
    have c5b0 : decide (60 < (l0_0.length : Int)) = false := decide_eq_false c5
    have c5b1 : decide (60 < l0_0.length) = false := decide_eq_false (by omega)
    clear c5
    (first | rw [c5b0] | (simp only [i64_w, i32_w]; rw [c5b0]) | skip)
    by_cases c6 : (l0_1.length : Int) > 60
    · rw [if_pos c6] at H
      have c6b0 : decide (60 < (l0_1.length : Int)) = true := decide_eq_true c6
      have c6b1 : decide (60 < l0_1.length) = true := decide_eq_true (by omega)
      clear c6
      have H' := Aside0.mk H
      clear H
      go_wp2
      go_meet
      case rel => exact ⟨_, (true), (by first | rfl | (simp; done) | (simp [*]; done)), H', ⟨by first | omega | exact Nat.le_refl _⟩, ⟨by (with_reducible repeat (first | refine blk_drewN ?_ _ | refine blk_drew ?_ | refine blk_alloc ?_ _)); exact BK165.out⟩, ⟨by repeat (first | (with_reducible first | exact HB.out | apply below_alloc | apply pw_below_drewN | apply below_drew1 | refine below_set ?_ GE165.out) | exact HB.out)⟩⟩
    · rw [if_neg c6] at H
      have c6b0 : decide (60 < (l0_1.length : Int)) = false := decide_eq_false c6
      have c6b1 : decide (60 < l0_1.length) = false := decide_eq_false (by omega)
      clear c6
      by_cases c7 : (wrap64 ((l0_0.length : Int) + (l0_1.length : Int))) > 60
      · rw [if_pos c7] at H
        have c7b0 : decide (60 < (wrap64 ((l0_0.length : Int) + (l0_1.length : Int)))) = true := decide_eq_true c7
        clear c7
        have H' := Aside0.mk H
        clear H
        go_wp2
        go_meet
        case rel => exact ⟨_, (true), (by first | rfl | (simp; done) | (simp [*]; done)), H', ⟨by first | omega | exact Nat.le_refl _⟩, ⟨by (with_reducible repeat (first | refine blk_drewN ?_ _ | refine blk_drew ?_ | refine blk_alloc ?_ _)); exact BK165.out⟩, ⟨by repeat (first | (with_reducible first | exact HB.out | apply below_alloc | apply pw_below_drewN | apply below_drew1 | refine below_set ?_ GE165.out) | exact HB.out)⟩⟩
      · rw [if_neg c7] at H
        have c7b0 : decide (60 < (wrap64 ((l0_0.length : Int) + (l0_1.length : Int)))) = false := decide_eq_false c7
        clear c7
        have H' := Aside0.mk H
        clear H
        have hcz8_0 : w3.cell? ⟨gb165, 0, none⟩ = some (.slice A0_0 l0_0.length c0_0) := (blk_cell BK165.out 0).trans rfl
        have hcz8_1 : w3.cell? ⟨gb165, 1, none⟩ = some (.slice A0_1 l0_1.length c0_1) := (blk_cell BK165.out 1).trans rfl
        have hcz8_2 : w3.cell? ⟨gb165, 2, none⟩ = some (.int .i64 a0_2) := (blk_cell BK165.out 2).trans rfl
        have hcz8_3 : w3.cell? ⟨gb165, 3, none⟩ = some (.slice A0_3 l0_3.length c0_3) := (blk_cell BK165.out 3).trans rfl
        have hfz8_0 := blk_frozen BK165.out 0
        have hfz8_1 := blk_frozen BK165.out 1
        have hfz8_2 := blk_frozen BK165.out 2
        have hfz8_3 := blk_frozen BK165.out 3
        go_wp2
        go_meet
        case rel => exact ⟨_, (decide ((l0_3.length : Int) > 120)), (by first | rfl | (simp; done) | (simp [*]; done)), H', ⟨by first | omega | exact Nat.le_refl _⟩, ⟨by (with_reducible repeat (first | refine blk_drewN ?_ _ | refine blk_drew ?_ | refine blk_alloc ?_ _)); exact BK165.out⟩, ⟨by repeat (first | (with_reducible first | exact HB.out | apply below_alloc | apply pw_below_drewN | apply below_drew1 | refine below_set ?_ GE165.out) | exact HB.out)⟩⟩
 case rest =>
  clear HC2
  try clear p2
  try clear c3
  try clear c5
  try clear c5b0
  try clear c5b1
  try clear c6
  try clear c6b0
  try clear c6b1
  try clear p6
  try clear c7
  try clear c7b0
  try clear hcz4_0
  try clear hcz4_1
  try clear hcz4_2
  try clear hcz4_3
  try clear hcz8_0
  try clear hcz8_1
  try clear hcz8_2
  try clear hcz8_3
  try clear hfz4_0
  try clear hfz4_1
  try clear hfz4_2
  try clear hfz4_3
  try clear hfz8_0
  try clear hfz8_1
  try clear hfz8_2
  try clear hfz8_3
  obtain ⟨kq, x32_1, rfl, HA, HJ1, BK165, HB⟩ := hcut
  cases kq with
  | zero => exact absurd HA.out (by simp [dovetailref03_Check.j0])
  | succ kj1 =>
   have H := HA.out
   clear HA
   simp only [dovetailref03_Check.j0] at H
   by_cases c9 : x32_1 = true
   · subst c9
     have H1 : (some (3, (-1))) = some (r1, r2) := by rw [if_pos rfl] at H; exact H
     clear H
     have H := H1
     clear H1
     simp only [Option.some.injEq, Prod.mk.injEq] at H
     obtain ⟨rfl, rfl⟩ := H
     go_wp2
     go_ret2
     exact ⟨by first | rfl | (simp [errW_none, errW_some] <;> rfl) | (simp [*, errW_none, errW_some] <;> rfl), by repeat (first | (with_reducible first | exact HB.out | apply below_alloc | apply pw_below_drewN | apply below_drew1 | refine below_set ?_ GE165.out) | exact HB.out)⟩
   · replace c9 := Bool.eq_false_iff.mpr c9
     subst c9
     have H1 : ((dovetailref03_named.f kj1 l0_0).bind fun t166 => (if t166 = true then ((dovetailref03_named.f kj1 l0_1).bind fun t167 => (dovetailref03_Check.j1 kj1 (l0_0.length : Int) (l0_1.length : Int) (!t167) l0_0 l0_1 a0_2 l0_3)) else (dovetailref03_Check.j1 kj1 (l0_0.length : Int) (l0_1.length : Int) true l0_0 l0_1 a0_2 l0_3))) = some (r1, r2) := by rw [if_neg (show ¬ (false = true) by decide)] at H; exact H
     clear H
     have H := H1
     clear H1
     have HC10 := Aside0.mk H
     clear H
     go_upto_region 5 with (fail)
     go_cut [42] (fun v42 wc => ∃ (kq : Nat) (x42_9 : Bool), v42 = .bool x42_9 ∧ Aside0 (dovetailref03_Check.j1 kq (l0_0.length : Int) (l0_1.length : Int) x42_9 l0_0 l0_1 a0_2 l0_3 = some (r1, r2)) ∧ Aside0 (kq ≤ kj1) ∧ Aside0 (wc.heap[gb165]? = some (.cells #[(.slice A0_0 l0_0.length c0_0), (.slice A0_1 l0_1.length c0_1), .int .i64 a0_2, (.slice A0_3 l0_3.length c0_3)] 29 (0, 0))) ∧ Aside0 (Below w.heap.size w wc))
     case first =>
      have H := HC10.out
      clear HC10
      replace H := Option.bind_eq_some_iff.mp H
      obtain ⟨t166, A110, H⟩ := H
      replace H : (if t166 = true then ((dovetailref03_named.f kj1 l0_1).bind fun t167 => (dovetailref03_Check.j1 kj1 (l0_0.length : Int) (l0_1.length : Int) (!t167) l0_0 l0_1 a0_2 l0_3)) else (dovetailref03_Check.j1 kj1 (l0_0.length : Int) (l0_1.length : Int) true l0_0 l0_1 a0_2 l0_3)) = some (r1, r2) := H
      have A11 := Aside0.mk A110
      clear A110
      by_cases c12 : t166 = true
      · subst c12
        have H1 : ((dovetailref03_named.f kj1 l0_1).bind fun t167 => (dovetailref03_Check.j1 kj1 (l0_0.length : Int) (l0_1.length : Int) (!t167) l0_0 l0_1 a0_2 l0_3)) = some (r1, r2) := by rw [if_pos rfl] at H; exact H
        clear H
        have H := H1
        clear H1
        replace H := Option.bind_eq_some_iff.mp H
        obtain ⟨t167, A130, H⟩ := H
        replace H : (dovetailref03_Check.j1 kj1 (l0_0.length : Int) (l0_1.length : Int) (!t167) l0_0 l0_1 a0_2 l0_3) = some (r1, r2) := H
        have A13 := Aside0.mk A130
        clear A130
        have H' := Aside0.mk H
        clear H
        have hcz14_0 : wc.cell? ⟨gb165, 0, none⟩ = some (.slice A0_0 l0_0.length c0_0) := (blk_cell BK165.out 0).trans rfl
        have hcz14_1 : wc.cell? ⟨gb165, 1, none⟩ = some (.slice A0_1 l0_1.length c0_1) := (blk_cell BK165.out 1).trans rfl
        have hcz14_2 : wc.cell? ⟨gb165, 2, none⟩ = some (.int .i64 a0_2) := (blk_cell BK165.out 2).trans rfl
        have hcz14_3 : wc.cell? ⟨gb165, 3, none⟩ = some (.slice A0_3 l0_3.length c0_3) := (blk_cell BK165.out 3).trans rfl
        have hfz14_0 := blk_frozen BK165.out 0
        have hfz14_1 := blk_frozen BK165.out 1
        have hfz14_2 := blk_frozen BK165.out 2
        have hfz14_3 := blk_frozen BK165.out 3
        go_wp2_with (first | ((with_reducible refine gate_callee (f := 44) rfl ?_); refine goesL_ (some 35) rfl rfl Tryd.func44 (by kernel_rfl) rfl #[.slice A0_0 l0_0.length c0_0] rfl (by (try simp only [List.map_toArray, List.map_cons, List.map_nil]); first | done | rfl | (simp only [List.length_drop, List.length_take]; rfl)) ?_; (with_reducible refine (dovetailref03_named.calls kj1 _ _ l0_0 true _ ?side1 ?side2 A11.out).mono ?_); (case side1 => repeat (first | exact (Kd.C_below HR0_0.out HB.out) | (with_reducible refine Kd.C_alloc ?_ _) | (with_reducible refine Kd.C_drewN ?_ _) | (with_reducible refine Kd.C_drew ?_))); (case side2 => exact HC0_0.out); rintro e w' ⟨rfl, ⟨nd, rfl⟩⟩; refine ⟨_, rfl, ?_⟩) | (go_at_call 44; (with_reducible refine (dovetailref03_named.calls kj1 _ _ l0_1 t167 _ ?side1 ?side2 A13.out).mono ?_); (case side1 => repeat (first | exact (Kd.C_below HR0_1.out (by repeat (first | (with_reducible first | exact HB.out | apply below_alloc | apply pw_below_drewN | apply below_drew1 | refine below_set ?_ GE165.out) | exact HB.out))) | (with_reducible refine Kd.C_alloc ?_ _) | (with_reducible refine Kd.C_drewN ?_ _) | (with_reducible refine Kd.C_drew ?_))); (case side2 => exact HC0_1.out); rintro e w' ⟨rfl, ⟨nd, rfl⟩⟩))
        go_meet
        case rel => exact ⟨_, (!t167), (by first | rfl | (simp; done) | (simp [*]; done)), H', ⟨by have := HJ1.out; first | omega | exact Nat.le_refl _⟩, ⟨by (with_reducible repeat (first | refine blk_drewN ?_ _ | refine blk_drew ?_ | refine blk_alloc ?_ _)); exact BK165.out⟩, ⟨by repeat (first | (with_reducible first | exact HB.out | apply below_alloc | apply pw_below_drewN | apply below_drew1 | refine below_set ?_ GE165.out) | exact HB.out)⟩⟩
      · replace c12 := Bool.eq_false_iff.mpr c12
        subst c12
        have H1 : (dovetailref03_Check.j1 kj1 (l0_0.length : Int) (l0_1.length : Int) true l0_0 l0_1 a0_2 l0_3) = some (r1, r2) := by rw [if_neg (show ¬ (false = true) by decide)] at H; exact H
        clear H
        have H := H1
        clear H1
        have H' := Aside0.mk H
        clear H
        have hcz15_0 : wc.cell? ⟨gb165, 0, none⟩ = some (.slice A0_0 l0_0.length c0_0) := (blk_cell BK165.out 0).trans rfl
        have hcz15_1 : wc.cell? ⟨gb165, 1, none⟩ = some (.slice A0_1 l0_1.length c0_1) := (blk_cell BK165.out 1).trans rfl
        have hcz15_2 : wc.cell? ⟨gb165, 2, none⟩ = some (.int .i64 a0_2) := (blk_cell BK165.out 2).trans rfl
        have hcz15_3 : wc.cell? ⟨gb165, 3, none⟩ = some (.slice A0_3 l0_3.length c0_3) := (blk_cell BK165.out 3).trans rfl
        have hfz15_0 := blk_frozen BK165.out 0
        have hfz15_1 := blk_frozen BK165.out 1
        have hfz15_2 := blk_frozen BK165.out 2
        have hfz15_3 := blk_frozen BK165.out 3
        go_wp2_with (first | ((with_reducible refine gate_callee (f := 44) rfl ?_); refine goesL_ (some 35) rfl rfl Tryd.func44 (by kernel_rfl) rfl #[.slice A0_0 l0_0.length c0_0] rfl (by (try simp only [List.map_toArray, List.map_cons, List.map_nil]); first | done | rfl | (simp only [List.length_drop, List.length_take]; rfl)) ?_; (with_reducible refine (dovetailref03_named.calls kj1 _ _ l0_0 false _ ?side1 ?side2 A11.out).mono ?_); (case side1 => repeat (first | exact (Kd.C_below HR0_0.out HB.out) | (with_reducible refine Kd.C_alloc ?_ _) | (with_reducible refine Kd.C_drewN ?_ _) | (with_reducible refine Kd.C_drew ?_))); (case side2 => exact HC0_0.out); rintro e w' ⟨rfl, ⟨nd, rfl⟩⟩; refine ⟨_, rfl, ?_⟩))
        go_meet
        case rel => exact ⟨_, (true), (by first | rfl | (simp; done) | (simp [*]; done)), H', ⟨by have := HJ1.out; first | omega | exact Nat.le_refl _⟩, ⟨by (with_reducible repeat (first | refine blk_drewN ?_ _ | refine blk_drew ?_ | refine blk_alloc ?_ _)); exact BK165.out⟩, ⟨by repeat (first | (with_reducible first | exact HB.out | apply below_alloc | apply pw_below_drewN | apply below_drew1 | refine below_set ?_ GE165.out) | exact HB.out)⟩⟩
     case rest =>
      clear HC10
      try clear c1
      try clear p2
      try clear c3
      try clear c4
      try clear c5
      try clear c5b0
      try clear c5b1
      try clear c6
      try clear c6b0
      try clear c6b1
      try clear p6
      try clear c7
      try clear c7b0
      try clear c9
      try clear c12
      try clear hcz14_0
      try clear hcz14_1
      try clear hcz14_2
      try clear hcz14_3
      try clear hcz15_0
      try clear hcz15_1
      try clear hcz15_2
      try clear hcz15_3
      try clear hcz4_0
      try clear hcz4_1
      try clear hcz4_2
      try clear hcz4_3
      try clear hcz8_0
      try clear hcz8_1
      try clear hcz8_2
      try clear hcz8_3
      try clear hfz14_0
      try clear hfz14_1
      try clear hfz14_2
      try clear hfz14_3
      try clear hfz15_0
      try clear hfz15_1
      try clear hfz15_2
      try clear hfz15_3
      try clear hfz4_0
      try clear hfz4_1
      try clear hfz4_2
      try clear hfz4_3
      try clear hfz8_0
      try clear hfz8_1
      try clear hfz8_2
      try clear hfz8_3
      try clear p2
      try clear p6
      obtain ⟨kq, x42_9, rfl, HA, HJ9, BK165, HB⟩ := hcut
      cases kq with
      | zero => exact absurd HA.out (by simp [dovetailref03_Check.j1])
      | succ kj9 =>
       have H := HA.out
       clear HA
       simp only [dovetailref03_Check.j1] at H
       by_cases c16 : x42_9 = true
       · subst c16
         have H1 : (some (10, (-1))) = some (r1, r2) := by rw [if_pos rfl] at H; exact H
         clear H
         have H := H1
         clear H1
         simp only [Option.some.injEq, Prod.mk.injEq] at H
         obtain ⟨rfl, rfl⟩ := H
         go_wp2
         go_ret2
         exact ⟨by first | rfl | (simp [errW_none, errW_some] <;> rfl) | (simp [*, errW_none, errW_some] <;> rfl), by repeat (first | (with_reducible first | exact HB.out | apply below_alloc | apply pw_below_drewN | apply below_drew1 | refine below_set ?_ GE165.out) | exact HB.out)⟩
       · replace c16 := Bool.eq_false_iff.mpr c16
         subst c16
         have H1 : (if (l0_1.length : Int) = 0 then (dovetailref03_Check.j2 kj9 (l0_0.length : Int) (l0_1.length : Int) true l0_0 l0_1 a0_2 l0_3) else (if a0_2 < 0 then (dovetailref03_Check.j2 kj9 (l0_0.length : Int) (l0_1.length : Int) true l0_0 l0_1 a0_2 l0_3) else (dovetailref03_Check.j2 kj9 (l0_0.length : Int) (l0_1.length : Int) (decide (a0_2 ≥ (l0_1.length : Int))) l0_0 l0_1 a0_2 l0_3))) = some (r1, r2) := by rw [if_neg (show ¬ (false = true) by decide)] at H; exact H
         clear H
         have H := H1
         clear H1
         have HC17 := Aside0.mk H
         clear H
         go_upto_region 7 with (fail)
         go_cut [55] (fun v55 wc => ∃ (kq : Nat) (x55_16 : Bool), v55 = .bool x55_16 ∧ Aside0 (dovetailref03_Check.j2 kq (l0_0.length : Int) (l0_1.length : Int) x55_16 l0_0 l0_1 a0_2 l0_3 = some (r1, r2)) ∧ Aside0 (kq ≤ kj9) ∧ Aside0 (wc.heap[gb165]? = some (.cells #[(.slice A0_0 l0_0.length c0_0), (.slice A0_1 l0_1.length c0_1), .int .i64 a0_2, (.slice A0_3 l0_3.length c0_3)] 29 (0, 0))) ∧ Aside0 (Below w.heap.size w wc))
         case first =>
          have H := HC17.out
          clear HC17
          by_cases c18 : (l0_1.length : Int) = 0
          · rw [if_pos c18] at H
            have c18b0 : ((l0_1.length : Int) == 0) = true := beq_iff_eq.mpr c18
            have c18b1 : ((l0_1.length : Int) != 0) = false := bne_eq_false_iff_eq.mpr c18
            clear c18
            (first | rw [c18b0] | (simp only [i64_w, i32_w]; rw [c18b0]) | skip)
            have H' := Aside0.mk H
            clear H
            go_wp2
            go_meet
            case rel => exact ⟨_, (true), (by first | rfl | (simp; done) | (simp [*]; done)), H', ⟨by have := HJ1.out; have := HJ9.out; first | omega | exact Nat.le_refl _⟩, ⟨by (with_reducible repeat (first | refine blk_drewN ?_ _ | refine blk_drew ?_ | refine blk_alloc ?_ _)); exact BK165.out⟩, ⟨by repeat (first | (with_reducible first | exact HB.out | apply below_alloc | apply pw_below_drewN | apply below_drew1 | refine below_set ?_ GE165.out) | exact HB.out)⟩⟩
          · rw [if_neg c18] at H
            have c18b0 : ((l0_1.length : Int) == 0) = false := beq_eq_false_iff_ne.mpr c18
            have c18b1 : ((l0_1.length : Int) != 0) = true := bne_iff_ne.mpr c18
            have c18b2 : ¬ (l0_1 = []) := fun h_ => c18 (by rw [h_]; rfl)
            (first | rw [c18b0] | (simp only [i64_w, i32_w]; rw [c18b0]) | skip)
            by_cases c19 : a0_2 < 0
            · rw [if_pos c19] at H
              have c19b0 : decide (a0_2 < 0) = true := decide_eq_true c19
              clear c19
              have H' := Aside0.mk H
              clear H
              have hcz20_0 : wc.cell? ⟨gb165, 0, none⟩ = some (.slice A0_0 l0_0.length c0_0) := (blk_cell BK165.out 0).trans rfl
              have hcz20_1 : wc.cell? ⟨gb165, 1, none⟩ = some (.slice A0_1 l0_1.length c0_1) := (blk_cell BK165.out 1).trans rfl
              have hcz20_2 : wc.cell? ⟨gb165, 2, none⟩ = some (.int .i64 a0_2) := (blk_cell BK165.out 2).trans rfl
              have hcz20_3 : wc.cell? ⟨gb165, 3, none⟩ = some (.slice A0_3 l0_3.length c0_3) := (blk_cell BK165.out 3).trans rfl
              have hfz20_0 := blk_frozen BK165.out 0
              have hfz20_1 := blk_frozen BK165.out 1
              have hfz20_2 := blk_frozen BK165.out 2
              have hfz20_3 := blk_frozen BK165.out 3
              go_wp2
              go_meet
              case rel => exact ⟨_, (true), (by first | rfl | (simp; done) | (simp [*]; done)), H', ⟨by have := HJ1.out; have := HJ9.out; first | omega | exact Nat.le_refl _⟩, ⟨by (with_reducible repeat (first | refine blk_drewN ?_ _ | refine blk_drew ?_ | refine blk_alloc ?_ _)); exact BK165.out⟩, ⟨by repeat (first | (with_reducible first | exact HB.out | apply below_alloc | apply pw_below_drewN | apply below_drew1 | refine below_set ?_ GE165.out) | exact HB.out)⟩⟩
            · rw [if_neg c19] at H
              have c19b0 : decide (a0_2 < 0) = false := decide_eq_false c19
              clear c19
              have H' := Aside0.mk H
              clear H
              have hcz21_0 : wc.cell? ⟨gb165, 0, none⟩ = some (.slice A0_0 l0_0.length c0_0) := (blk_cell BK165.out 0).trans rfl
              have hcz21_1 : wc.cell? ⟨gb165, 1, none⟩ = some (.slice A0_1 l0_1.length c0_1) := (blk_cell BK165.out 1).trans rfl
              have hcz21_2 : wc.cell? ⟨gb165, 2, none⟩ = some (.int .i64 a0_2) := (blk_cell BK165.out 2).trans rfl
              have hcz21_3 : wc.cell? ⟨gb165, 3, none⟩ = some (.slice A0_3 l0_3.length c0_3) := (blk_cell BK165.out 3).trans rfl
              have hfz21_0 := blk_frozen BK165.out 0
              have hfz21_1 := blk_frozen BK165.out 1
              have hfz21_2 := blk_frozen BK165.out 2
              have hfz21_3 := blk_frozen BK165.out 3
              go_wp2
              go_meet
              case rel => exact ⟨_, (decide (a0_2 ≥ (l0_1.length : Int))), (by first | rfl | (simp; done) | (simp [*]; done)), H', ⟨by have := HJ1.out; have := HJ9.out; first | omega | exact Nat.le_refl _⟩, ⟨by (with_reducible repeat (first | refine blk_drewN ?_ _ | refine blk_drew ?_ | refine blk_alloc ?_ _)); exact BK165.out⟩, ⟨by repeat (first | (with_reducible first | exact HB.out | apply below_alloc | apply pw_below_drewN | apply below_drew1 | refine below_set ?_ GE165.out) | exact HB.out)⟩⟩
         case rest =>
          clear HC17
          try clear c1
          try clear p2
          try clear c3
          try clear c4
          try clear c5
          try clear c5b0
          try clear c5b1
          try clear c6
          try clear c6b0
          try clear c6b1
          try clear p6
          try clear c7
          try clear c7b0
          try clear c9
          try clear c12
          try clear c16
          try clear c18
          try clear c18b0
          try clear c18b1
          try clear c18b2
          try clear c19
          try clear c19b0
          try clear hcz14_0
          try clear hcz14_1
          try clear hcz14_2
          try clear hcz14_3
          try clear hcz15_0
          try clear hcz15_1
          try clear hcz15_2
          try clear hcz15_3
          try clear hcz20_0
          try clear hcz20_1
          try clear hcz20_2
          try clear hcz20_3
          try clear hcz21_0
          try clear hcz21_1
          try clear hcz21_2
          try clear hcz21_3
          try clear hcz4_0
          try clear hcz4_1
          try clear hcz4_2
          try clear hcz4_3
          try clear hcz8_0
          try clear hcz8_1
          try clear hcz8_2
          try clear hcz8_3
          try clear hfz14_0
          try clear hfz14_1
          try clear hfz14_2
          try clear hfz14_3
          try clear hfz15_0
          try clear hfz15_1
          try clear hfz15_2
          try clear hfz15_3
          try clear hfz20_0
          try clear hfz20_1
          try clear hfz20_2
          try clear hfz20_3
          try clear hfz21_0
          try clear hfz21_1
          try clear hfz21_2
          try clear hfz21_3
          try clear hfz4_0
          try clear hfz4_1
          try clear hfz4_2
          try clear hfz4_3
          try clear hfz8_0
          try clear hfz8_1
          try clear hfz8_2
          try clear hfz8_3
          try clear p2
          try clear p6
          obtain ⟨kq, x55_16, rfl, HA, HJ16, BK165, HB⟩ := hcut
          cases kq with
          | zero => exact absurd HA.out (by simp [dovetailref03_Check.j2])
          | succ kj16 =>
           have H := HA.out
           clear HA
           simp only [dovetailref03_Check.j2] at H
           by_cases c22 : x55_16 = true
           · subst c22
             have H1 : (some (1, (-1))) = some (r1, r2) := by rw [if_pos rfl] at H; exact H
             clear H
             have H := H1
             clear H1
             simp only [Option.some.injEq, Prod.mk.injEq] at H
             obtain ⟨rfl, rfl⟩ := H
             go_wp2
             go_ret2
             exact ⟨by first | rfl | (simp [errW_none, errW_some] <;> rfl) | (simp [*, errW_none, errW_some] <;> rfl), by repeat (first | (with_reducible first | exact HB.out | apply below_alloc | apply pw_below_drewN | apply below_drew1 | refine below_set ?_ GE165.out) | exact HB.out)⟩
           · replace c22 := Bool.eq_false_iff.mpr c22
             subst c22
             have H1 : (dovetailref03_Check.l0 kj16 (l0_0.length : Int) (l0_1.length : Int) 0 l0_0 l0_1 a0_2 l0_3) = some (r1, r2) := by rw [if_neg (show ¬ (false = true) by decide)] at H; exact H
             clear H
             have H := H1
             clear H1
             have H' := Aside0.mk H
             clear H
             go_wp2
             go_loopg [6] kj16 (fun kq v6 w' => ∃ (x6_4 : Int), v6 = .int .i64 x6_4 ∧ Aside0 (dovetailref03_Check.l0 kq (l0_0.length : Int) (l0_1.length : Int) x6_4 l0_0 l0_1 a0_2 l0_3 = some (r1, r2)) ∧ Aside0 (kq ≤ kj16) ∧ Aside0 (w'.heap[gb165]? = some (.cells #[(.slice A0_0 l0_0.length c0_0), (.slice A0_1 l0_1.length c0_1), .int .i64 a0_2, (.slice A0_3 l0_3.length c0_3)] 29 (0, 0))) ∧ Aside0 (Below w.heap.size w w'))
             case atStart => exact ⟨(0), (by first | rfl | (simp; done) | (simp [*]; done)), H', ⟨Nat.le_refl _⟩, ⟨by (with_reducible repeat (first | refine blk_drewN ?_ _ | refine blk_drew ?_ | refine blk_alloc ?_ _)); exact BK165.out⟩, ⟨by repeat (first | (with_reducible first | exact HB.out | apply below_alloc | apply pw_below_drewN | apply below_drew1 | refine below_set ?_ GE165.out) | exact HB.out)⟩⟩
             case round =>
              clear H'
              try clear c1
              try clear c2
              try clear p2
              try clear c3
              try clear c4
              try clear c5
              try clear c5b0
              try clear c5b1
              try clear c6
              try clear c6b0
              try clear c6b1
              try clear p6
              try clear c7
              try clear c7b0
              try clear c9
              try clear c12
              try clear c16
              try clear c18
              try clear c18b0
              try clear c18b1
              try clear c18b2
              try clear c19
              try clear c19b0
              try clear c22
              try clear hcz14_0
              try clear hcz14_1
              try clear hcz14_2
              try clear hcz14_3
              try clear hcz15_0
              try clear hcz15_1
              try clear hcz15_2
              try clear hcz15_3
              try clear hcz20_0
              try clear hcz20_1
              try clear hcz20_2
              try clear hcz20_3
              try clear hcz21_0
              try clear hcz21_1
              try clear hcz21_2
              try clear hcz21_3
              try clear hcz4_0
              try clear hcz4_1
              try clear hcz4_2
              try clear hcz4_3
              try clear hcz8_0
              try clear hcz8_1
              try clear hcz8_2
              try clear hcz8_3
              try clear hfz14_0
              try clear hfz14_1
              try clear hfz14_2
              try clear hfz14_3
              try clear hfz15_0
              try clear hfz15_1
              try clear hfz15_2
              try clear hfz15_3
              try clear hfz20_0
              try clear hfz20_1
              try clear hfz20_2
              try clear hfz20_3
              try clear hfz21_0
              try clear hfz21_1
              try clear hfz21_2
              try clear hfz21_3
              try clear hfz4_0
              try clear hfz4_1
              try clear hfz4_2
              try clear hfz4_3
              try clear hfz8_0
              try clear hfz8_1
              try clear hfz8_2
              try clear hfz8_3
              try clear p2
              try clear p6
              obtain ⟨x6_4, rfl, HA, HK4, BK165, HB⟩ := hrel
              cases gk with
              | zero => exact absurd HA.out (by simp [dovetailref03_Check.l0])
              | succ k4 =>
               have H := HA.out
               clear HA
               simp only [dovetailref03_Check.l0] at H
               by_cases c23 : x6_4 < (l0_3.length : Int)
               · rw [if_pos c23] at H
                 have c23b0 : decide (x6_4 < (l0_3.length : Int)) = true := decide_eq_true c23
                 clear c23
                 by_cases c24 : 0 ≤ x6_4
                 · rw [if_pos c24] at H
                   have c24b0 : decide (0 ≤ x6_4) = true := decide_eq_true c24
                   clear c24
                   by_cases c25 : (((rd_T55 l0_3 x6_4).f1).length : Int) > 32
                   · rw [if_pos c25] at H
                     have c25b0 : decide (32 < (((rd_T55 l0_3 x6_4).f1).length : Int)) = true := decide_eq_true c25
                     have c25b1 : decide (32 < ((rd_T55 l0_3 x6_4).f1).length) = true := decide_eq_true (by omega)
                     clear c25
                     simp only [Option.some.injEq, Prod.mk.injEq] at H
                     obtain ⟨rfl, rfl⟩ := H
                     have hcz26_0 : wr.cell? ⟨gb165, 0, none⟩ = some (.slice A0_0 l0_0.length c0_0) := (blk_cell BK165.out 0).trans rfl
                     have hcz26_1 : wr.cell? ⟨gb165, 1, none⟩ = some (.slice A0_1 l0_1.length c0_1) := (blk_cell BK165.out 1).trans rfl
                     have hcz26_2 : wr.cell? ⟨gb165, 2, none⟩ = some (.int .i64 a0_2) := (blk_cell BK165.out 2).trans rfl
                     have hcz26_3 : wr.cell? ⟨gb165, 3, none⟩ = some (.slice A0_3 l0_3.length c0_3) := (blk_cell BK165.out 3).trans rfl
                     have hfz26_0 := blk_frozen BK165.out 0
                     have hfz26_1 := blk_frozen BK165.out 1
                     have hfz26_2 := blk_frozen BK165.out 2
                     have hfz26_3 := blk_frozen BK165.out 3
                     have p168 : 0 ≤ (x6_4 : Int) := of_decide_eq_true (by first | (with_reducible assumption) | assumption)
                     have q168 : x6_4 < (l0_3.length : Int) := of_decide_eq_true (by first | (with_reducible assumption) | assumption)
                     obtain ⟨ad168, A168_1, c168_1, e168, hx168_0, hx168_1, hl168_1, hi168_1⟩ := at_T55 HR0_3.out x6_4 p168 q168
                     cases e168
                     replace hx168_0 := (HB.out.cell (World.block_lt_of_cell? w _ hx168_0)).trans hx168_0
                     replace hx168_1 := (HB.out.cell (World.block_lt_of_cell? w _ hx168_1)).trans hx168_1
                     have HR168_1 := Aside0.mk hi168_1
                     have HC168_1 := Aside0.mk hl168_1
                     clear hi168_1 hl168_1
                     replace p168 := eq_true p168
                     replace q168 := eq_true q168
                     go_wp2_with (first | ((with_reducible refine gate_dst (N := 7) rfl ?_); (try (refine gate_guard (by rfl) ?_; dsimp only)); refine box_event ?hg (N := 7) ?hd (cs := #[.int .i64 0, .slice none 0 0]) (t := 55) ?hr ?_; (case hd => rfl); (case hg => rfl); (case hr => first | (go_simp; done) | (go_simp; rfl)); intro gb169 hg w27 hbox hb; have n0_ := Aside0.mk (blk_below (g := gb165) (o := .cells #[.slice A0_0 l0_0.length c0_0, .slice A0_1 l0_1.length c0_1, .int .i64 a0_2, .slice (some ad168) l0_3.length c0_3] 29 (0, 0)) (by (with_reducible repeat (first | refine blk_drewN ?_ _ | refine blk_drew ?_ | refine blk_alloc ?_ _)); exact BK165.out) hb); have n1_ := Aside0.mk (below_step (by repeat (first | (with_reducible first | exact HB.out | apply below_alloc | apply pw_below_drewN | apply below_drew1 | refine below_set ?_ GE165.out) | exact HB.out)) hb); have n2_ := Aside0.mk (hbox); have n3_ := Aside0.mk ((by rw [hg]; exact (below_size (by repeat (first | (with_reducible first | exact HB.out | apply below_alloc | apply pw_below_drewN | apply below_drew1 | refine below_set ?_ GE165.out) | exact HB.out))) : w.heap.size ≤ gb169)); have n4_ := Aside0.mk ((by rw [hg]; exact (below_size (by repeat (first | (with_reducible first | exact HB.out | apply below_alloc | apply pw_below_drewN | apply below_drew1 | refine below_set ?_ GE165.out) | exact HB.out))) : w.heap.size ≤ gb169)); have n5_ := Aside0.mk ((by rw [hg]; exact Nat.ne_of_lt (blk_lt (g := gb165) (o := .cells #[.slice A0_0 l0_0.length c0_0, .slice A0_1 l0_1.length c0_1, .int .i64 a0_2, .slice (some ad168) l0_3.length c0_3] 29 (0, 0)) (by (with_reducible repeat (first | refine blk_drewN ?_ _ | refine blk_drew ?_ | refine blk_alloc ?_ _)); exact BK165.out)) : gb165 ≠ gb169)); have n6_ := Aside0.mk ((by rw [hg]; exact Nat.ne_of_gt (blk_lt (g := gb165) (o := .cells #[.slice A0_0 l0_0.length c0_0, .slice A0_1 l0_1.length c0_1, .int .i64 a0_2, .slice (some ad168) l0_3.length c0_3] 29 (0, 0)) (by (with_reducible repeat (first | refine blk_drewN ?_ _ | refine blk_drew ?_ | refine blk_alloc ?_ _)); exact BK165.out)) : gb169 ≠ gb165)); clear BK165; clear HB; have BK165 := n0_; have HB := n1_; have BK169 := n2_; have GW169 := n3_; have GE169 := n4_; have NB165_169 := n5_; have NB169_165 := n6_; clear n0_ n1_ n2_ n3_ n4_ n5_ n6_; clear hb hbox hg; have hnb28 := NB169_165.out; have hnc28 := NB165_169.out; have hcz29_0 : w27.cell? ⟨gb169, 0, none⟩ = some (.int .i64 0) := (blk_cell BK169.out 0).trans rfl; have hcz29_1 : w27.cell? ⟨gb169, 1, none⟩ = some (.slice none 0 0) := (blk_cell BK169.out 1).trans rfl; have hfz29_0 := blk_frozen BK169.out 0; have hfz29_1 := blk_frozen BK169.out 1))
                     go_ret2
                     exact ⟨by first | rfl | (simp [errW_none, errW_some] <;> rfl) | (simp [*, errW_none, errW_some] <;> rfl), by repeat (first | (with_reducible first | exact HB.out | apply below_alloc | apply pw_below_drewN | apply below_drew1 | refine below_set ?_ GE165.out | refine below_set ?_ GE169.out) | exact HB.out)⟩
                   · rw [if_neg c25] at H
                     have c25b0 : decide (32 < (((rd_T55 l0_3 x6_4).f1).length : Int)) = false := decide_eq_false c25
                     have c25b1 : decide (32 < ((rd_T55 l0_3 x6_4).f1).length) = false := decide_eq_false (by omega)
                     clear c25
                     have HC30 := Aside0.mk H
                     clear H
                     have hcz31_0 : wr.cell? ⟨gb165, 0, none⟩ = some (.slice A0_0 l0_0.length c0_0) := (blk_cell BK165.out 0).trans rfl
                     have hcz31_1 : wr.cell? ⟨gb165, 1, none⟩ = some (.slice A0_1 l0_1.length c0_1) := (blk_cell BK165.out 1).trans rfl
                     have hcz31_2 : wr.cell? ⟨gb165, 2, none⟩ = some (.int .i64 a0_2) := (blk_cell BK165.out 2).trans rfl
                     have hcz31_3 : wr.cell? ⟨gb165, 3, none⟩ = some (.slice A0_3 l0_3.length c0_3) := (blk_cell BK165.out 3).trans rfl
                     have hfz31_0 := blk_frozen BK165.out 0
                     have hfz31_1 := blk_frozen BK165.out 1
                     have hfz31_2 := blk_frozen BK165.out 2
                     have hfz31_3 := blk_frozen BK165.out 3
                     have p168 : 0 ≤ (x6_4 : Int) := of_decide_eq_true (by first | (with_reducible assumption) | assumption)
                     have q168 : x6_4 < (l0_3.length : Int) := of_decide_eq_true (by first | (with_reducible assumption) | assumption)
                     obtain ⟨ad168, A168_1, c168_1, e168, hx168_0, hx168_1, hl168_1, hi168_1⟩ := at_T55 HR0_3.out x6_4 p168 q168
                     cases e168
                     replace hx168_0 := (HB.out.cell (World.block_lt_of_cell? w _ hx168_0)).trans hx168_0
                     replace hx168_1 := (HB.out.cell (World.block_lt_of_cell? w _ hx168_1)).trans hx168_1
                     have HR168_1 := Aside0.mk hi168_1
                     have HC168_1 := Aside0.mk hl168_1
                     clear hi168_1 hl168_1
                     replace p168 := eq_true p168
                     replace q168 := eq_true q168
                     go_upto_region 15 with (first | ((with_reducible refine gate_dst (N := 7) rfl ?_); (try (refine gate_guard (by rfl) ?_; dsimp only)); refine box_event ?hg (N := 7) ?hd (cs := #[.int .i64 0, .slice none 0 0]) (t := 55) ?hr ?_; (case hd => rfl); (case hg => rfl); (case hr => first | (go_simp; done) | (go_simp; rfl)); intro gb169 hg w32 hbox hb; have n0_ := Aside0.mk (blk_below (g := gb165) (o := .cells #[.slice A0_0 l0_0.length c0_0, .slice A0_1 l0_1.length c0_1, .int .i64 a0_2, .slice (some ad168) l0_3.length c0_3] 29 (0, 0)) (by (with_reducible repeat (first | refine blk_drewN ?_ _ | refine blk_drew ?_ | refine blk_alloc ?_ _)); exact BK165.out) hb); have n1_ := Aside0.mk (below_step (by repeat (first | (with_reducible first | exact HB.out | apply below_alloc | apply pw_below_drewN | apply below_drew1 | refine below_set ?_ GE165.out) | exact HB.out)) hb); have n2_ := Aside0.mk (hbox); have n3_ := Aside0.mk ((by rw [hg]; exact (below_size (by repeat (first | (with_reducible first | exact HB.out | apply below_alloc | apply pw_below_drewN | apply below_drew1 | refine below_set ?_ GE165.out) | exact HB.out))) : w.heap.size ≤ gb169)); have n4_ := Aside0.mk ((by rw [hg]; exact (below_size (by repeat (first | (with_reducible first | exact HB.out | apply below_alloc | apply pw_below_drewN | apply below_drew1 | refine below_set ?_ GE165.out) | exact HB.out))) : w.heap.size ≤ gb169)); have n5_ := Aside0.mk ((by rw [hg]; exact Nat.ne_of_lt (blk_lt (g := gb165) (o := .cells #[.slice A0_0 l0_0.length c0_0, .slice A0_1 l0_1.length c0_1, .int .i64 a0_2, .slice (some ad168) l0_3.length c0_3] 29 (0, 0)) (by (with_reducible repeat (first | refine blk_drewN ?_ _ | refine blk_drew ?_ | refine blk_alloc ?_ _)); exact BK165.out)) : gb165 ≠ gb169)); have n6_ := Aside0.mk ((by rw [hg]; exact Nat.ne_of_gt (blk_lt (g := gb165) (o := .cells #[.slice A0_0 l0_0.length c0_0, .slice A0_1 l0_1.length c0_1, .int .i64 a0_2, .slice (some ad168) l0_3.length c0_3] 29 (0, 0)) (by (with_reducible repeat (first | refine blk_drewN ?_ _ | refine blk_drew ?_ | refine blk_alloc ?_ _)); exact BK165.out)) : gb169 ≠ gb165)); clear BK165; clear HB; have BK165 := n0_; have HB := n1_; have BK169 := n2_; have GW169 := n3_; have GE169 := n4_; have NB165_169 := n5_; have NB169_165 := n6_; clear n0_ n1_ n2_ n3_ n4_ n5_ n6_; clear hb hbox hg; have hnb33 := NB169_165.out; have hnc33 := NB165_169.out; have hcz34_0 : w32.cell? ⟨gb169, 0, none⟩ = some (.int .i64 0) := (blk_cell BK169.out 0).trans rfl; have hcz34_1 : w32.cell? ⟨gb169, 1, none⟩ = some (.slice none 0 0) := (blk_cell BK169.out 1).trans rfl; have hfz34_0 := blk_frozen BK169.out 0; have hfz34_1 := blk_frozen BK169.out 1))
                     (try simp only [Act.put, List.setIfInBounds_toArray, List.set_cons_zero, List.set_cons_succ])
                     go_cut [81] (fun v81 wc => ∃ (kq : Nat) (x81_29 : Bool), v81 = .bool x81_29 ∧ Aside0 (dovetailref03_Check.j4 kq (l0_0.length : Int) (l0_1.length : Int) x6_4 x81_29 l0_0 l0_1 a0_2 l0_3 ((rd_T55 l0_3 x6_4).f0) ((rd_T55 l0_3 x6_4).f1) = some (r1, r2)) ∧ Aside0 (kq ≤ k4) ∧ Aside0 (wc.heap[gb165]? = some (.cells #[(.slice A0_0 l0_0.length c0_0), (.slice A0_1 l0_1.length c0_1), .int .i64 a0_2, (.slice (some ad168) l0_3.length c0_3)] 29 (0, 0))) ∧ Aside0 (wc.heap[gb169]? = some (.cells #[.int .i64 ((rd_T55 l0_3 x6_4).f0), (.slice A168_1 ((rd_T55 l0_3 x6_4).f1).length c168_1)] 55 (0, 0))) ∧ Aside0 (Below w.heap.size w wc))
                     case first =>
                      have H := HC30.out
                      clear HC30
                      by_cases c35 : ((rd_T55 l0_3 x6_4).f0) < 0
                      · rw [if_pos c35] at H
                        have c35b0 : decide (((rd_T55 l0_3 x6_4).f0) < 0) = true := decide_eq_true c35
                        clear c35
                        (first | rw [c35b0] | (simp only [i64_w, i32_w]; rw [c35b0]) | skip)
                        have H' := Aside0.mk H
                        clear H
                        have hnb36 := NB169_165.out
                        have hnc36 := NB165_169.out
                        have hcz37_0 : w32.cell? ⟨gb169, 0, none⟩ = some (.int .i64 0) := (blk_cell BK169.out 0).trans rfl
                        have hcz37_1 : w32.cell? ⟨gb169, 1, none⟩ = some (.slice none 0 0) := (blk_cell BK169.out 1).trans rfl
                        have hfz37_0 := blk_frozen BK169.out 0
                        have hfz37_1 := blk_frozen BK169.out 1
                        go_wp2
                        go_meet
                        case rel => exact ⟨_, (true), (by first | rfl | (simp; done) | (simp [*]; done)), H', ⟨by have := HJ1.out; have := HJ9.out; have := HJ16.out; have := HK4.out; first | omega | exact Nat.le_refl _⟩, ⟨by (with_reducible repeat (first | refine blk_drewN ?_ _ | refine blk_drew ?_ | refine blk_alloc ?_ _)); refine blk_far ?_ NB165_169.out _; (with_reducible repeat (first | refine blk_drewN ?_ _ | refine blk_drew ?_ | refine blk_alloc ?_ _)); refine blk_far ?_ NB165_169.out _; (with_reducible repeat (first | refine blk_drewN ?_ _ | refine blk_drew ?_ | refine blk_alloc ?_ _)); exact BK165.out⟩, ⟨by (with_reducible repeat (first | refine blk_drewN ?_ _ | refine blk_drew ?_ | refine blk_alloc ?_ _)); refine blk_put (cs := #[.int .i64 ((rd_T55 l0_3 x6_4).f0), .slice none 0 0]) ?_ 1 _ rfl; (with_reducible repeat (first | refine blk_drewN ?_ _ | refine blk_drew ?_ | refine blk_alloc ?_ _)); refine blk_put (cs := #[.int .i64 0, .slice none 0 0]) ?_ 0 _ rfl; (with_reducible repeat (first | refine blk_drewN ?_ _ | refine blk_drew ?_ | refine blk_alloc ?_ _)); exact BK169.out⟩, ⟨by repeat (first | (with_reducible first | exact HB.out | apply below_alloc | apply pw_below_drewN | apply below_drew1 | refine below_set ?_ GE165.out | refine below_set ?_ GE169.out) | exact HB.out)⟩⟩
                      · rw [if_neg c35] at H
                        have c35b0 : decide (((rd_T55 l0_3 x6_4).f0) < 0) = false := decide_eq_false c35
                        clear c35
                        (first | rw [c35b0] | (simp only [i64_w, i32_w]; rw [c35b0]) | skip)
                        have H' := Aside0.mk H
                        clear H
                        have hnb38 := NB169_165.out
                        have hnc38 := NB165_169.out
                        have hcz39_0 : w32.cell? ⟨gb169, 0, none⟩ = some (.int .i64 0) := (blk_cell BK169.out 0).trans rfl
                        have hcz39_1 : w32.cell? ⟨gb169, 1, none⟩ = some (.slice none 0 0) := (blk_cell BK169.out 1).trans rfl
                        have hfz39_0 := blk_frozen BK169.out 0
                        have hfz39_1 := blk_frozen BK169.out 1
                        go_wp2
                        go_meet
                        case rel => exact ⟨_, (decide (((rd_T55 l0_3 x6_4).f0) ≥ (l0_1.length : Int))), (by first | rfl | (simp; done) | (simp [*]; done)), H', ⟨by have := HJ1.out; have := HJ9.out; have := HJ16.out; have := HK4.out; first | omega | exact Nat.le_refl _⟩, ⟨by (with_reducible repeat (first | refine blk_drewN ?_ _ | refine blk_drew ?_ | refine blk_alloc ?_ _)); refine blk_far ?_ NB165_169.out _; (with_reducible repeat (first | refine blk_drewN ?_ _ | refine blk_drew ?_ | refine blk_alloc ?_ _)); refine blk_far ?_ NB165_169.out _; (with_reducible repeat (first | refine blk_drewN ?_ _ | refine blk_drew ?_ | refine blk_alloc ?_ _)); exact BK165.out⟩, ⟨by (with_reducible repeat (first | refine blk_drewN ?_ _ | refine blk_drew ?_ | refine blk_alloc ?_ _)); refine blk_put (cs := #[.int .i64 ((rd_T55 l0_3 x6_4).f0), .slice none 0 0]) ?_ 1 _ rfl; (with_reducible repeat (first | refine blk_drewN ?_ _ | refine blk_drew ?_ | refine blk_alloc ?_ _)); refine blk_put (cs := #[.int .i64 0, .slice none 0 0]) ?_ 0 _ rfl; (with_reducible repeat (first | refine blk_drewN ?_ _ | refine blk_drew ?_ | refine blk_alloc ?_ _)); exact BK169.out⟩, ⟨by repeat (first | (with_reducible first | exact HB.out | apply below_alloc | apply pw_below_drewN | apply below_drew1 | refine below_set ?_ GE165.out | refine below_set ?_ GE169.out) | exact HB.out)⟩⟩
                     case rest =>
                      clear HC30
                      try clear c1
                      try clear p1
                      try clear q1
                      try clear hx1
                      try clear c2
                      try clear p2
                      try clear c3
                      try clear c4
                      try clear c5
                      try clear c5b0
                      try clear c5b1
                      try clear c6
                      try clear c6b0
                      try clear c6b1
                      try clear p6
                      try clear c7
                      try clear c7b0
                      try clear c9
                      try clear c12
                      try clear c16
                      try clear p16
                      try clear q16
                      try clear hx16
                      try clear c18
                      try clear c18b0
                      try clear c18b1
                      try clear c18b2
                      try clear c19
                      try clear c19b0
                      try clear c22
                      try clear c23
                      try clear c23b0
                      try clear c24
                      try clear c24b0
                      try clear c25
                      try clear c25b0
                      try clear c25b1
                      try clear c28
                      try clear c33
                      try clear c35
                      try clear c35b0
                      try clear c36
                      try clear c38
                      try clear hcz14_0
                      try clear hcz14_1
                      try clear hcz14_2
                      try clear hcz14_3
                      try clear hcz15_0
                      try clear hcz15_1
                      try clear hcz15_2
                      try clear hcz15_3
                      try clear hcz20_0
                      try clear hcz20_1
                      try clear hcz20_2
                      try clear hcz20_3
                      try clear hcz21_0
                      try clear hcz21_1
                      try clear hcz21_2
                      try clear hcz21_3
                      try clear hcz26_0
                      try clear hcz26_1
                      try clear hcz26_2
                      try clear hcz26_3
                      try clear hcz29_0
                      try clear hcz29_1
                      try clear hcz31_0
                      try clear hcz31_1
                      try clear hcz31_2
                      try clear hcz31_3
                      try clear hcz34_0
                      try clear hcz34_1
                      try clear hcz37_0
                      try clear hcz37_1
                      try clear hcz39_0
                      try clear hcz39_1
                      try clear hcz4_0
                      try clear hcz4_1
                      try clear hcz4_2
                      try clear hcz4_3
                      try clear hcz8_0
                      try clear hcz8_1
                      try clear hcz8_2
                      try clear hcz8_3
                      try clear hfz14_0
                      try clear hfz14_1
                      try clear hfz14_2
                      try clear hfz14_3
                      try clear hfz15_0
                      try clear hfz15_1
                      try clear hfz15_2
                      try clear hfz15_3
                      try clear hfz20_0
                      try clear hfz20_1
                      try clear hfz20_2
                      try clear hfz20_3
                      try clear hfz21_0
                      try clear hfz21_1
                      try clear hfz21_2
                      try clear hfz21_3
                      try clear hfz26_0
                      try clear hfz26_1
                      try clear hfz26_2
                      try clear hfz26_3
                      try clear hfz29_0
                      try clear hfz29_1
                      try clear hfz31_0
                      try clear hfz31_1
                      try clear hfz31_2
                      try clear hfz31_3
                      try clear hfz34_0
                      try clear hfz34_1
                      try clear hfz37_0
                      try clear hfz37_1
                      try clear hfz39_0
                      try clear hfz39_1
                      try clear hfz4_0
                      try clear hfz4_1
                      try clear hfz4_2
                      try clear hfz4_3
                      try clear hfz8_0
                      try clear hfz8_1
                      try clear hfz8_2
                      try clear hfz8_3
                      try clear hx168_0
                      try clear hx168_1
                      try clear p168
                      try clear p2
                      try clear p6
                      try clear q168
                      obtain ⟨kq, x81_29, rfl, HA, HJ29, BK165, BK169, HB⟩ := hcut
                      cases kq with
                      | zero => exact absurd HA.out (by simp [dovetailref03_Check.j4])
                      | succ kj29 =>
                       have H := HA.out
                       clear HA
                       simp only [dovetailref03_Check.j4] at H
                       by_cases c40 : x81_29 = true
                       · subst c40
                         have H1 : (some (1, x6_4)) = some (r1, r2) := by rw [if_pos rfl] at H; exact H
                         clear H
                         have H := H1
                         clear H1
                         simp only [Option.some.injEq, Prod.mk.injEq] at H
                         obtain ⟨rfl, rfl⟩ := H
                         go_wp2
                         go_ret2
                         exact ⟨by first | rfl | (simp [errW_none, errW_some] <;> rfl) | (simp [*, errW_none, errW_some] <;> rfl), by repeat (first | (with_reducible first | exact HB.out | apply below_alloc | apply pw_below_drewN | apply below_drew1 | refine below_set ?_ GE165.out | refine below_set ?_ GE169.out) | exact HB.out)⟩
                       · replace c40 := Bool.eq_false_iff.mpr c40
                         subst c40
                         have H1 : (dovetailref03_Check.l1 kj29 (l0_0.length : Int) (l0_1.length : Int) x6_4 0 l0_0 l0_1 a0_2 l0_3 ((rd_T55 l0_3 x6_4).f0) ((rd_T55 l0_3 x6_4).f1)) = some (r1, r2) := by rw [if_neg (show ¬ (false = true) by decide)] at H; exact H
                         clear H
                         have H := H1
                         clear H1
                         have H' := Aside0.mk H
                         clear H
                         go_wp2
                         go_loopg [8] kj29 (fun kq v8 w' => ∃ (x8_6 : Int), v8 = .int .i64 x8_6 ∧ Aside0 (dovetailref03_Check.l1 kq (l0_0.length : Int) (l0_1.length : Int) x6_4 x8_6 l0_0 l0_1 a0_2 l0_3 ((rd_T55 l0_3 x6_4).f0) ((rd_T55 l0_3 x6_4).f1) = some (r1, r2)) ∧ Aside0 (kq ≤ kj29) ∧ Aside0 (w'.heap[gb165]? = some (.cells #[(.slice A0_0 l0_0.length c0_0), (.slice A0_1 l0_1.length c0_1), .int .i64 a0_2, (.slice (some ad168) l0_3.length c0_3)] 29 (0, 0))) ∧ Aside0 (w'.heap[gb169]? = some (.cells #[.int .i64 ((rd_T55 l0_3 x6_4).f0), (.slice A168_1 ((rd_T55 l0_3 x6_4).f1).length c168_1)] 55 (0, 0))) ∧ Aside0 (Below w.heap.size w w'))
                         case atStart => exact ⟨(0), (by first | rfl | (simp; done) | (simp [*]; done)), H', ⟨Nat.le_refl _⟩, ⟨by (with_reducible repeat (first | refine blk_drewN ?_ _ | refine blk_drew ?_ | refine blk_alloc ?_ _)); exact BK165.out⟩, ⟨by (with_reducible repeat (first | refine blk_drewN ?_ _ | refine blk_drew ?_ | refine blk_alloc ?_ _)); exact BK169.out⟩, ⟨by repeat (first | (with_reducible first | exact HB.out | apply below_alloc | apply pw_below_drewN | apply below_drew1 | refine below_set ?_ GE165.out | refine below_set ?_ GE169.out) | exact HB.out)⟩⟩
                         case round =>
                          clear H'
                          try clear c1
                          try clear p1
                          try clear q1
                          try clear hx1
                          try clear c2
                          try clear p2
                          try clear c3
                          try clear c4
                          try clear c5
                          try clear c5b0
                          try clear c5b1
                          try clear c6
                          try clear c6b0
                          try clear c6b1
                          try clear p6
                          try clear c7
                          try clear c7b0
                          try clear c9
                          try clear c12
                          try clear c16
                          try clear p16
                          try clear q16
                          try clear hx16
                          try clear c18
                          try clear c18b0
                          try clear c18b1
                          try clear c18b2
                          try clear c19
                          try clear c19b0
                          try clear c22
                          try clear c23
                          try clear c23b0
                          try clear c24
                          try clear c24b0
                          try clear c25
                          try clear c25b0
                          try clear c25b1
                          try clear c28
                          try clear c33
                          try clear c35
                          try clear c35b0
                          try clear c36
                          try clear c38
                          try clear c40
                          try clear hcz14_0
                          try clear hcz14_1
                          try clear hcz14_2
                          try clear hcz14_3
                          try clear hcz15_0
                          try clear hcz15_1
                          try clear hcz15_2
                          try clear hcz15_3
                          try clear hcz20_0
                          try clear hcz20_1
                          try clear hcz20_2
                          try clear hcz20_3
                          try clear hcz21_0
                          try clear hcz21_1
                          try clear hcz21_2
                          try clear hcz21_3
                          try clear hcz26_0
                          try clear hcz26_1
                          try clear hcz26_2
                          try clear hcz26_3
                          try clear hcz29_0
                          try clear hcz29_1
                          try clear hcz31_0
                          try clear hcz31_1
                          try clear hcz31_2
                          try clear hcz31_3
                          try clear hcz34_0
                          try clear hcz34_1
                          try clear hcz37_0
                          try clear hcz37_1
                          try clear hcz39_0
                          try clear hcz39_1
                          try clear hcz4_0
                          try clear hcz4_1
                          try clear hcz4_2
                          try clear hcz4_3
                          try clear hcz8_0
                          try clear hcz8_1
                          try clear hcz8_2
                          try clear hcz8_3
                          try clear hfz14_0
                          try clear hfz14_1
                          try clear hfz14_2
                          try clear hfz14_3
                          try clear hfz15_0
                          try clear hfz15_1
                          try clear hfz15_2
                          try clear hfz15_3
                          try clear hfz20_0
                          try clear hfz20_1
                          try clear hfz20_2
                          try clear hfz20_3
                          try clear hfz21_0
                          try clear hfz21_1
                          try clear hfz21_2
                          try clear hfz21_3
                          try clear hfz26_0
                          try clear hfz26_1
                          try clear hfz26_2
                          try clear hfz26_3
                          try clear hfz29_0
                          try clear hfz29_1
                          try clear hfz31_0
                          try clear hfz31_1
                          try clear hfz31_2
                          try clear hfz31_3
                          try clear hfz34_0
                          try clear hfz34_1
                          try clear hfz37_0
                          try clear hfz37_1
                          try clear hfz39_0
                          try clear hfz39_1
                          try clear hfz4_0
                          try clear hfz4_1
                          try clear hfz4_2
                          try clear hfz4_3
                          try clear hfz8_0
                          try clear hfz8_1
                          try clear hfz8_2
                          try clear hfz8_3
                          try clear hx168_0
                          try clear hx168_1
                          try clear p1
                          try clear p16
                          try clear p168
                          try clear p2
                          try clear p6
                          try clear q1
                          try clear q16
                          try clear q168
                          obtain ⟨x8_6, rfl, HA, HK6, BK165, BK169, HB⟩ := hrel
                          cases gk with
                          | zero => exact absurd HA.out (by simp [dovetailref03_Check.l1])
                          | succ k6 =>
                           have H := HA.out
                           clear HA
                           simp only [dovetailref03_Check.l1] at H
                           by_cases c41 : x8_6 < (((rd_T55 l0_3 x6_4).f1).length : Int)
                           · rw [if_pos c41] at H
                             have c41b0 : decide (x8_6 < (((rd_T55 l0_3 x6_4).f1).length : Int)) = true := decide_eq_true c41
                             clear c41
                             by_cases c42 : 0 ≤ x8_6
                             · rw [if_pos c42] at H
                               have c42b0 : decide (0 ≤ x8_6) = true := decide_eq_true c42
                               clear c42
                               by_cases c43 : (rd ((rd_T55 l0_3 x6_4).f1) x8_6) ≥ (l0_0.length : Int)
                               · rw [if_pos c43] at H
                                 have c43b0 : decide ((l0_0.length : Int) ≤ (rd ((rd_T55 l0_3 x6_4).f1) x8_6)) = true := decide_eq_true c43
                                 clear c43
                                 simp only [Option.some.injEq, Prod.mk.injEq] at H
                                 obtain ⟨rfl, rfl⟩ := H
                                 have hnb44 := NB169_165.out
                                 have hnc44 := NB165_169.out
                                 have hcz45_0 : wr.cell? ⟨gb169, 0, none⟩ = some (.int .i64 ((rd_T55 l0_3 x6_4).f0)) := (blk_cell BK169.out 0).trans rfl
                                 have hcz45_1 : wr.cell? ⟨gb169, 1, none⟩ = some (.slice A168_1 ((rd_T55 l0_3 x6_4).f1).length c168_1) := (blk_cell BK169.out 1).trans rfl
                                 have hfz45_0 := blk_frozen BK169.out 0
                                 have hfz45_1 := blk_frozen BK169.out 1
                                 have p170 : 0 ≤ (x8_6 : Int) := of_decide_eq_true (by first | (with_reducible assumption) | assumption)
                                 have q170 : x8_6 < (((rd_T55 l0_3 x6_4).f1).length : Int) := of_decide_eq_true (by first | (with_reducible assumption) | assumption)
                                 obtain ⟨ad170, e170, hx170_0⟩ := Kd.at_int HR168_1.out x8_6 p170 q170
                                 cases e170
                                 replace hx170_0 := (HB.out.cell (World.block_lt_of_cell? w _ hx170_0)).trans hx170_0
                                 replace p170 := eq_true p170
                                 replace q170 := eq_true q170
                                 go_wp2
                                 go_ret2
                                 exact ⟨by first | rfl | (simp [errW_none, errW_some] <;> rfl) | (simp [*, errW_none, errW_some] <;> rfl), by repeat (first | (with_reducible first | exact HB.out | apply below_alloc | apply pw_below_drewN | apply below_drew1 | refine below_set ?_ GE165.out | refine below_set ?_ GE169.out) | exact HB.out)⟩
                               · rw [if_neg c43] at H
                                 have c43b0 : decide ((l0_0.length : Int) ≤ (rd ((rd_T55 l0_3 x6_4).f1) x8_6)) = false := decide_eq_false c43
                                 clear c43
                                 by_cases c46 : (rd ((rd_T55 l0_3 x6_4).f1) x8_6) < (wrap64 (-(l0_1.length : Int)))
                                 · rw [if_pos c46] at H
                                   have c46b0 : decide ((rd ((rd_T55 l0_3 x6_4).f1) x8_6) < (wrap64 (-(l0_1.length : Int)))) = true := decide_eq_true c46
                                   clear c46
                                   simp only [Option.some.injEq, Prod.mk.injEq] at H
                                   obtain ⟨rfl, rfl⟩ := H
                                   have hnb47 := NB169_165.out
                                   have hnc47 := NB165_169.out
                                   have hcz48_0 : wr.cell? ⟨gb169, 0, none⟩ = some (.int .i64 ((rd_T55 l0_3 x6_4).f0)) := (blk_cell BK169.out 0).trans rfl
                                   have hcz48_1 : wr.cell? ⟨gb169, 1, none⟩ = some (.slice A168_1 ((rd_T55 l0_3 x6_4).f1).length c168_1) := (blk_cell BK169.out 1).trans rfl
                                   have hfz48_0 := blk_frozen BK169.out 0
                                   have hfz48_1 := blk_frozen BK169.out 1
                                   have p170 : 0 ≤ (x8_6 : Int) := of_decide_eq_true (by first | (with_reducible assumption) | assumption)
                                   have q170 : x8_6 < (((rd_T55 l0_3 x6_4).f1).length : Int) := of_decide_eq_true (by first | (with_reducible assumption) | assumption)
                                   obtain ⟨ad170, e170, hx170_0⟩ := Kd.at_int HR168_1.out x8_6 p170 q170
                                   cases e170
                                   replace hx170_0 := (HB.out.cell (World.block_lt_of_cell? w _ hx170_0)).trans hx170_0
                                   replace p170 := eq_true p170
                                   replace q170 := eq_true q170
                                   have p171 : 0 ≤ (x8_6 : Int) := of_decide_eq_true (by first | (with_reducible assumption) | assumption)
                                   have q171 : x8_6 < (((rd_T55 l0_3 x6_4).f1).length : Int) := of_decide_eq_true (by first | (with_reducible assumption) | assumption)
                                   obtain ⟨ad171, e171, hx171_0⟩ := Kd.at_int HR168_1.out x8_6 p171 q171
                                   obtain rfl : ad170 = ad171 := (by injection e171)
                                   replace hx171_0 := (HB.out.cell (World.block_lt_of_cell? w _ hx171_0)).trans hx171_0
                                   replace p171 := eq_true p171
                                   replace q171 := eq_true q171
                                   go_wp2
                                   go_ret2
                                   exact ⟨by first | rfl | (simp [errW_none, errW_some] <;> rfl) | (simp [*, errW_none, errW_some] <;> rfl), by repeat (first | (with_reducible first | exact HB.out | apply below_alloc | apply pw_below_drewN | apply below_drew1 | refine below_set ?_ GE165.out | refine below_set ?_ GE169.out) | exact HB.out)⟩
                                 · rw [if_neg c46] at H
                                   have c46b0 : decide ((rd ((rd_T55 l0_3 x6_4).f1) x8_6) < (wrap64 (-(l0_1.length : Int)))) = false := decide_eq_false c46
                                   clear c46
                                   have H' := Aside0.mk H
                                   clear H
                                   have hnb49 := NB169_165.out
                                   have hnc49 := NB165_169.out
                                   have hcz50_0 : wr.cell? ⟨gb169, 0, none⟩ = some (.int .i64 ((rd_T55 l0_3 x6_4).f0)) := (blk_cell BK169.out 0).trans rfl
                                   have hcz50_1 : wr.cell? ⟨gb169, 1, none⟩ = some (.slice A168_1 ((rd_T55 l0_3 x6_4).f1).length c168_1) := (blk_cell BK169.out 1).trans rfl
                                   have hfz50_0 := blk_frozen BK169.out 0
                                   have hfz50_1 := blk_frozen BK169.out 1
                                   have p170 : 0 ≤ (x8_6 : Int) := of_decide_eq_true (by first | (with_reducible assumption) | assumption)
                                   have q170 : x8_6 < (((rd_T55 l0_3 x6_4).f1).length : Int) := of_decide_eq_true (by first | (with_reducible assumption) | assumption)
                                   obtain ⟨ad170, e170, hx170_0⟩ := Kd.at_int HR168_1.out x8_6 p170 q170
                                   cases e170
                                   replace hx170_0 := (HB.out.cell (World.block_lt_of_cell? w _ hx170_0)).trans hx170_0
                                   replace p170 := eq_true p170
                                   replace q170 := eq_true q170
                                   have p171 : 0 ≤ (x8_6 : Int) := of_decide_eq_true (by first | (with_reducible assumption) | assumption)
                                   have q171 : x8_6 < (((rd_T55 l0_3 x6_4).f1).length : Int) := of_decide_eq_true (by first | (with_reducible assumption) | assumption)
                                   obtain ⟨ad171, e171, hx171_0⟩ := Kd.at_int HR168_1.out x8_6 p171 q171
                                   obtain rfl : ad170 = ad171 := (by injection e171)
                                   replace hx171_0 := (HB.out.cell (World.block_lt_of_cell? w _ hx171_0)).trans hx171_0
                                   replace p171 := eq_true p171
                                   replace q171 := eq_true q171
                                   go_wp2
                                   go_roundg k6
                                   case measure => have := HJ1.out; have := HJ9.out; have := HJ16.out; have := HK4.out; have := HJ29.out; have := HK6.out; omega
                                   case rel => exact ⟨(wrap64 (x8_6 + 1)), (by first | rfl | (simp; done) | (simp [*]; done)), H', ⟨by have := HJ1.out; have := HJ9.out; have := HJ16.out; have := HK4.out; have := HJ29.out; have := HK6.out; omega⟩, ⟨by (with_reducible repeat (first | refine blk_drewN ?_ _ | refine blk_drew ?_ | refine blk_alloc ?_ _)); exact BK165.out⟩, ⟨by (with_reducible repeat (first | refine blk_drewN ?_ _ | refine blk_drew ?_ | refine blk_alloc ?_ _)); exact BK169.out⟩, ⟨by repeat (first | (with_reducible first | exact HB.out | apply below_alloc | apply pw_below_drewN | apply below_drew1 | refine below_set ?_ GE165.out | refine below_set ?_ GE169.out) | exact HB.out)⟩⟩
                             · rw [if_neg c42] at H
                               exact absurd H (by simp)
                           · rw [if_neg c41] at H
                             have c41b0 : decide (x8_6 < (((rd_T55 l0_3 x6_4).f1).length : Int)) = false := decide_eq_false c41
                             clear c41
                             have H' := Aside0.mk H
                             clear H
                             have hnb51 := NB169_165.out
                             have hnc51 := NB165_169.out
                             have hcz52_0 : wr.cell? ⟨gb169, 0, none⟩ = some (.int .i64 ((rd_T55 l0_3 x6_4).f0)) := (blk_cell BK169.out 0).trans rfl
                             have hcz52_1 : wr.cell? ⟨gb169, 1, none⟩ = some (.slice A168_1 ((rd_T55 l0_3 x6_4).f1).length c168_1) := (blk_cell BK169.out 1).trans rfl
                             have hfz52_0 := blk_frozen BK169.out 0
                             have hfz52_1 := blk_frozen BK169.out 1
                             go_wp2
                             go_roundg k6
                             case measure => have := HJ1.out; have := HJ9.out; have := HJ16.out; have := HK4.out; have := HJ29.out; have := HK6.out; omega
                             case rel => exact ⟨(wrap64 (x6_4 + 1)), (by first | rfl | (simp; done) | (simp [*]; done)), H', ⟨by have := HJ1.out; have := HJ9.out; have := HJ16.out; have := HK4.out; have := HJ29.out; have := HK6.out; omega⟩, ⟨by (with_reducible repeat (first | refine blk_drewN ?_ _ | refine blk_drew ?_ | refine blk_alloc ?_ _)); exact BK165.out⟩, ⟨by repeat (first | (with_reducible first | exact HB.out | apply below_alloc | apply pw_below_drewN | apply below_drew1 | refine below_set ?_ GE165.out | refine below_set ?_ GE169.out) | exact HB.out)⟩⟩
                 · rw [if_neg c24] at H
                   exact absurd H (by simp)
               · rw [if_neg c23] at H
                 have c23b0 : decide (x6_4 < (l0_3.length : Int)) = false := decide_eq_false c23
                 clear c23
                 simp only [Option.some.injEq, Prod.mk.injEq] at H
                 obtain ⟨rfl, rfl⟩ := H
                 have hcz53_0 : wr.cell? ⟨gb165, 0, none⟩ = some (.slice A0_0 l0_0.length c0_0) := (blk_cell BK165.out 0).trans rfl
                 have hcz53_1 : wr.cell? ⟨gb165, 1, none⟩ = some (.slice A0_1 l0_1.length c0_1) := (blk_cell BK165.out 1).trans rfl
                 have hcz53_2 : wr.cell? ⟨gb165, 2, none⟩ = some (.int .i64 a0_2) := (blk_cell BK165.out 2).trans rfl
                 have hcz53_3 : wr.cell? ⟨gb165, 3, none⟩ = some (.slice A0_3 l0_3.length c0_3) := (blk_cell BK165.out 3).trans rfl
                 have hfz53_0 := blk_frozen BK165.out 0
                 have hfz53_1 := blk_frozen BK165.out 1
                 have hfz53_2 := blk_frozen BK165.out 2
                 have hfz53_3 := blk_frozen BK165.out 3
                 go_wp2
                 go_ret2
                 exact ⟨by first | rfl | (simp [errW_none, errW_some] <;> rfl) | (simp [*, errW_none, errW_some] <;> rfl), by repeat (first | (with_reducible first | exact HB.out | apply below_alloc | apply pw_below_drewN | apply below_drew1 | refine below_set ?_ GE165.out) | exact HB.out)⟩

end Go.Proofs.YtaeaookonhaliaaDoor.B
namespace Go.Proofs.YtaeaookonhaliaaDoor.B
open Go.RowKit Go.Proofs.YtaeaookonhaliaaDoorW.PrintWords Go.Proofs.YtaeaookonhaliaaDoorW.PrintLast Go.Proofs.YtaeaookonhaliaaDoorW.PrintMore
attribute [local go_sem] max2_int min2_int max_two min_two max_three min_three max_four min_four   -- for this text's walks alone
set_option linter.unusedVariables false
set_option linter.unusedSimpArgs false

def dovetailkit_Strings.l0 : Nat → List ByteArray → List ByteArray → Int → Option (Bool)
 | 0, _, _, _ => none
 | k + 1, x0, x1, x5 => if x5 < (x0.length : Int) then (if 0 ≤ x5 then (if x5 < (x1.length : Int) then (if (rdOf ByteArray.empty x0 x5).toList = (rdOf ByteArray.empty x1 x5).toList then (dovetailkit_Strings.l0 k x0 x1 (wrap64 (x5 + 1))) else (some false)) else (none)) else (none)) else (some true)
def dovetailkit_Strings.f (k : Nat) (l0 : List ByteArray) (l1 : List ByteArray) : Option (Bool) := if (l0.length : Int) = (l1.length : Int) then (dovetailkit_Strings.l0 k l0 l1 0) else (some false)
theorem dovetailkit_Strings.mono_l : ∀ k, (∀ y0 y1 y2, LeO (dovetailkit_Strings.l0 k y0 y1 y2) (dovetailkit_Strings.l0 (k + 1) y0 y1 y2))
 | 0 => fun _ _ _ r h => by simp [dovetailkit_Strings.l0] at h
 | k + 1 => by
  have ih0 := dovetailkit_Strings.mono_l k
  · intro y0 y1 y2
    unfold dovetailkit_Strings.l0
    repeat' first
    | (with_reducible exact ih0 _ _ _)
    | (with_reducible exact LeO.refl _)
    | (with_reducible exact LeO.none _)
    | (with_reducible refine LeO.ite ?_ ?_)
    | (with_reducible refine LeO.bind ?_ (fun _ => ?_))
    | exact ih0 _ _ _
    | exact LeO.none _
    | refine LeO.ite ?_ ?_
    | refine LeO.bind ?_ (fun _ => ?_)
theorem dovetailkit_Strings.mono : ∀ a0 a1 k, LeO (dovetailkit_Strings.f k a0 a1) (dovetailkit_Strings.f (k + 1) a0 a1) := by
 intro a0 a1 k
 have ih0 := dovetailkit_Strings.mono_l k
 unfold dovetailkit_Strings.f
 repeat' first
  | (with_reducible exact ih0 _ _ _)
  | (with_reducible exact LeO.refl _)
  | (with_reducible exact LeO.none _)
  | (with_reducible refine LeO.ite ?_ ?_)
  | (with_reducible refine LeO.bind ?_ (fun _ => ?_))
  | exact ih0 _ _ _
  | exact LeO.none _
  | refine LeO.ite ?_ ?_
  | refine LeO.bind ?_ (fun _ => ?_)
set_option maxHeartbeats 8000000 in
set_option maxRecDepth 100000 in
theorem dovetailkit_Strings.calls (k : Nat) (A0 : Option Addr) (c0 : Nat) (l0 : List ByteArray) (A1 : Option Addr) (c1 : Nat) (l1 : List ByteArray) (r : Bool) (w : World) (hr0 : Kd.C Kd.string w A0 l0.length l0) (hc0 : l0.length ≤ c0) (hr1 : Kd.C Kd.string w A1 l1.length l1) (hc1 : l1.length ≤ c1) (h : dovetailkit_Strings.f k l0 l1 = some r) :
 Calls Tryd.prog 51 #[.slice A0 l0.length c0, .slice A1 l1.length c1] w fun e w' => e = .returned (.bool r) ∧ Drawn0 w w' := by
 have HR0 := Aside0.mk hr0
 have HC0 := Aside0.mk hc0
 clear hr0 hc0
 have HR1 := Aside0.mk hr1
 have HC1 := Aside0.mk hc1
 clear hr1 hc1
 have H : (if (l0.length : Int) = (l1.length : Int) then (dovetailkit_Strings.l0 k l0 l1 0) else (some false)) = some r := h
 clear h
 by_cases c3 : (l0.length : Int) = (l1.length : Int)
 · rw [if_pos c3] at H
   have c3b0 : ((l0.length : Int) == (l1.length : Int)) = true := beq_iff_eq.mpr c3
   have c3b1 : ((l0.length : Int) != (l1.length : Int)) = false := bne_eq_false_iff_eq.mpr c3
   have c3b2 : (l0.length == l1.length) = true := by first | simpa using c3 | (simp at c3 ⊢; omega)
   clear c3
   have H' := Aside0.mk H
   clear H
   go_enter Tryd.func51, Tryd.ntmps51
   go_wp2
   repeat (go_quiet (fail); try go_wp2)
   go_loopg [5] k (fun kq v5 w' => ∃ (x5_1 : Int), v5 = .int .i64 x5_1 ∧ Aside0 (dovetailkit_Strings.l0 kq l0 l1 x5_1 = some r) ∧ Aside0 (kq ≤ k) ∧ Drawn0 w w')
   case atStart => exact ⟨(0), (by first | rfl | (simp; done) | (simp [*]; done)), H', ⟨Nat.le_refl _⟩, by repeat (first | exact Drawn0.refl _ | apply Drawn0.step)⟩
   case round =>
    clear H'
    try clear c1
    try clear p2
    try clear c3
    try clear c3b0
    try clear c3b1
    try clear c3b2
    obtain ⟨x5_1, rfl, HA, HK1, ⟨m1, rfl⟩⟩ := hrel
    cases gk with
    | zero => exact absurd HA.out (by simp [dovetailkit_Strings.l0])
    | succ k1 =>
     have H := HA.out
     clear HA
     simp only [dovetailkit_Strings.l0] at H
     by_cases c4 : x5_1 < (l0.length : Int)
     · rw [if_pos c4] at H
       have c4b0 : decide (x5_1 < (l0.length : Int)) = true := decide_eq_true c4
       clear c4
       by_cases c5 : 0 ≤ x5_1
       · rw [if_pos c5] at H
         have c5b0 : decide (0 ≤ x5_1) = true := decide_eq_true c5
         clear c5
         by_cases c6 : x5_1 < (l1.length : Int)
         · rw [if_pos c6] at H
           have c6b0 : decide (x5_1 < (l1.length : Int)) = true := decide_eq_true c6
           clear c6
           by_cases c7 : (rdOf ByteArray.empty l0 x5_1).toList = (rdOf ByteArray.empty l1 x5_1).toList
           · rw [if_pos c7] at H
             have c7b0 : ((rdOf ByteArray.empty l0 x5_1).toList == (rdOf ByteArray.empty l1 x5_1).toList) = true := beq_iff_eq.mpr c7
             have c7b1 : ((rdOf ByteArray.empty l0 x5_1).toList != (rdOf ByteArray.empty l1 x5_1).toList) = false := bne_eq_false_iff_eq.mpr c7
             clear c7
             have H' := Aside0.mk H
             clear H
             have p176 : 0 ≤ (x5_1 : Int) := of_decide_eq_true (by first | (with_reducible assumption) | assumption)
             have q176 : x5_1 < (l0.length : Int) := of_decide_eq_true (by first | (with_reducible assumption) | assumption)
             obtain ⟨ad176, e176, hx176_0⟩ := Kd.at_string HR0.out x5_1 p176 q176
             cases e176
             replace p176 := eq_true p176
             replace q176 := eq_true q176
             have p177 : 0 ≤ (x5_1 : Int) := of_decide_eq_true (by first | (with_reducible assumption) | assumption)
             have q177 : x5_1 < (l1.length : Int) := of_decide_eq_true (by first | (with_reducible assumption) | assumption)
             obtain ⟨ad177, e177, hx177_0⟩ := Kd.at_string HR1.out x5_1 p177 q177
             cases e177
             replace p177 := eq_true p177
             replace q177 := eq_true q177
             go_wp2
             repeat (go_quiet (fail); try go_wp2)
             go_roundg k1
             case measure => have := HK1.out; omega
             case rel => exact ⟨(wrap64 (x5_1 + 1)), (by first | rfl | (simp; done) | (simp [*]; done)), H', ⟨by have := HK1.out; omega⟩, by repeat (first | exact Drawn0.refl _ | apply Drawn0.step)⟩
           · rw [if_neg c7] at H
             have c7b0 : ((rdOf ByteArray.empty l0 x5_1).toList == (rdOf ByteArray.empty l1 x5_1).toList) = false := beq_eq_false_iff_ne.mpr c7
             have c7b1 : ((rdOf ByteArray.empty l0 x5_1).toList != (rdOf ByteArray.empty l1 x5_1).toList) = true := bne_iff_ne.mpr c7
             obtain rfl := Option.some.inj H
             have p176 : 0 ≤ (x5_1 : Int) := of_decide_eq_true (by first | (with_reducible assumption) | assumption)
             have q176 : x5_1 < (l0.length : Int) := of_decide_eq_true (by first | (with_reducible assumption) | assumption)
             obtain ⟨ad176, e176, hx176_0⟩ := Kd.at_string HR0.out x5_1 p176 q176
             cases e176
             replace p176 := eq_true p176
             replace q176 := eq_true q176
             have p177 : 0 ≤ (x5_1 : Int) := of_decide_eq_true (by first | (with_reducible assumption) | assumption)
             have q177 : x5_1 < (l1.length : Int) := of_decide_eq_true (by first | (with_reducible assumption) | assumption)
             obtain ⟨ad177, e177, hx177_0⟩ := Kd.at_string HR1.out x5_1 p177 q177
             cases e177
             replace p177 := eq_true p177
             replace q177 := eq_true q177
             go_wp2
             repeat (go_quiet (fail); try go_wp2)
             go_ret
             exact ⟨by first | rfl | (simp; done) | (simp [*]; done), by repeat (first | exact Drawn0.refl _ | apply Drawn0.step)⟩
         · rw [if_neg c6] at H
           exact absurd H (by simp)
       · rw [if_neg c5] at H
         exact absurd H (by simp)
     · rw [if_neg c4] at H
       have c4b0 : decide (x5_1 < (l0.length : Int)) = false := decide_eq_false c4
       clear c4
       obtain rfl := Option.some.inj H
       go_wp2
       repeat (go_quiet (fail); try go_wp2)
       go_ret
       exact ⟨by first | rfl | (simp; done) | (simp [*]; done), by repeat (first | exact Drawn0.refl _ | apply Drawn0.step)⟩
 · rw [if_neg c3] at H
   have c3b0 : ((l0.length : Int) == (l1.length : Int)) = false := beq_eq_false_iff_ne.mpr c3
   have c3b1 : ((l0.length : Int) != (l1.length : Int)) = true := bne_iff_ne.mpr c3
   have c3b2 : (l0.length == l1.length) = false := by first | simpa using c3 | (simp at c3 ⊢; omega)
   obtain rfl := Option.some.inj H
   go_enter Tryd.func51, Tryd.ntmps51
   go_wp2
   repeat (go_quiet (fail); try go_wp2)
   go_ret
   exact ⟨by first | rfl | (simp; done) | (simp [*]; done), by repeat (first | exact Drawn0.refl _ | apply Drawn0.step)⟩

end Go.Proofs.YtaeaookonhaliaaDoor.B
/- A name for printed texts. -/

/- A grammar's kind, as the print has it. -/
namespace Go.Proofs.YtaeaookonhaliaaDoor.B
open Go.RowKit Go.Proofs.YtaeaookonhaliaaDoorW.PrintWords Go.Proofs.YtaeaookonhaliaaDoorW.PrintLast Go.Proofs.YtaeaookonhaliaaDoorW.PrintMore
attribute [local go_sem] max2_int min2_int max_two min_two max_three min_three max_four min_four   -- for this text's walks alone

structure S29 where
 f0 : (List ByteArray)
 f1 : (List ByteArray)
 f2 : Int
 f3 : (List S55)
def k29 : Kd S29 := Kd.iso (Kd.pair (Kd.slice 9 Kd.string) (Kd.pair (Kd.slice 9 Kd.string) (Kd.pair (Kd.int .i64) (Kd.slice 55 k55)))) (fun x : S29 => (x.f0, x.f1, x.f2, x.f3))
theorem k29_open {w : World} {x : S29} {cs : List Value} (h : k29.K w x cs) : ∃ A0 c0 A1 c1 A3 c3, cs = [.slice A0 x.f0.length c0, .slice A1 x.f1.length c1, .int .i64 x.f2, .slice A3 x.f3.length c3] ∧ x.f0.length ≤ c0 ∧ Kd.string.C w A0 x.f0.length x.f0 ∧ x.f1.length ≤ c1 ∧ Kd.string.C w A1 x.f1.length x.f1 ∧ x.f3.length ≤ c3 ∧ k55.C w A3 x.f3.length x.f3 := by
 obtain ⟨_, _, rfl, ⟨A0, c0, rfl, l0, g0⟩, ⟨_, _, rfl, ⟨A1, c1, rfl, l1, g1⟩, ⟨_, _, rfl, rfl, ⟨A3, c3, rfl, l3, g3⟩⟩⟩⟩ := h
 exact ⟨A0, c0, A1, c1, A3, c3, rfl, l0, g0, l1, g1, l3, g3⟩
end Go.Proofs.YtaeaookonhaliaaDoor.B
/- The openers of a grammar, a rule, a list of numbers, as a row reads them. -/
set_option linter.unusedVariables false
namespace Go.Proofs.YtaeaookonhaliaaDoor.OG
open Go.ChangeShapes Go.WideShapes Go.ChangeAt Go.RowKit Go.Proofs.YtaeaookonhaliaaDoorW.PrintWords Go.Proofs.YtaeaookonhaliaaDoor.H Go.Proofs.YtaeaookonhaliaaDoor.B

theorem bytes_s : Tryd.prog.bytesOf 9 = 16 := by kernel_rfl
theorem bytes_i : Tryd.prog.bytesOf 3 = 8 := by kernel_rfl
theorem bytes_r : Tryd.prog.bytesOf 55 = 32 := by kernel_rfl
theorem cells_s : Tryd.prog.cellsOf 9 = Kd.string.sz := by kernel_rfl
theorem cells_i : Tryd.prog.cellsOf 3 = (Kd.int .i64).sz := by kernel_rfl
theorem cells_r : Tryd.prog.cellsOf 55 = k55.sz := by kernel_rfl
theorem cells_ss : Tryd.prog.cellsOf 26 = (Kd.slice 9 Kd.string).sz := by kernel_rfl
theorem cells_is : Tryd.prog.cellsOf 22 = (Kd.slice 3 (Kd.int .i64)).sz := by kernel_rfl
theorem cells_rs : Tryd.prog.cellsOf 27 = (Kd.slice 55 k55).sz := by kernel_rfl

abbrev gS (l : List ByteArray) : Prop := l.length ≤ maxLen ∧ ∀ a ∈ l, a.size ≤ maxLen
abbrev gI (l : List Int) : Prop := l.length ≤ maxLen ∧ ∀ a ∈ l, (Lit.int .i64 a).wf = true
end Go.Proofs.YtaeaookonhaliaaDoor.OG
/- A grammar, a row of numbers as a row of bulk at most 1048576 reads them. -/
set_option linter.unusedVariables false
namespace Go.Proofs.YtaeaookonhaliaaDoor.OG
open Go.ChangeShapes Go.WideShapes Go.ChangeAt Go.RowKit Go.Proofs.YtaeaookonhaliaaDoorW.PrintWords Go.Proofs.YtaeaookonhaliaaDoor.H Go.Proofs.YtaeaookonhaliaaDoor.B

theorem mem_le_sum {α : Type} (m : α → Nat) : ∀ (l : List α) (x : α), x ∈ l → m x ≤ (l.map m).sum
 | [], _, h => by cases h
 | y :: l, x, h => by
  rw [List.map_cons, List.sum_cons]
  rcases List.mem_cons.1 h with rfl | h
  · omega
  · have := mem_le_sum m l x h; omega
theorem len_le_sum {α : Type} (m : α → Nat) (hm : ∀ x, 1 ≤ m x) : ∀ (l : List α), l.length ≤ (l.map m).sum
 | [] => by simp
 | y :: l => by
  rw [List.map_cons, List.sum_cons, List.length_cons]
  have := len_le_sum m hm l
  have := hm y
  omega
set_option maxRecDepth 20000 in
theorem opn_rule_u : ∃ z m, Opn Tryd.prog 55 k55 (fun x => (Lit.int .i64 x.f0).wf = true ∧ gI x.f1) z m ∧ ∀ x, x.f1.length + 1 ≤ m x :=
 ⟨_, _, opn_struct (d := Kd.pair (Kd.int .i64) (Kd.slice 3 (Kd.int .i64))) Tryd.underlying55 (by kernel_rfl) (row_cons rfl cells_i rfl (opn_int Tryd.underlying3) (row_one rfl cells_is (opn_slice Tryd.underlying22 cells_i bytes_i (opn_int Tryd.underlying3)))) (fun x : S55 => (x.f0, x.f1)) (fun p => ⟨p.1, p.2⟩) (fun _ => rfl), fun x => by
  have h := len_le_sum (fun _ : Int => 1) (fun _ => Nat.le_refl _) x.f1
  show x.f1.length + 1 ≤ (1 + ((x.f1.map fun _ => 1).sum + 1)) + 1
  omega⟩
set_option maxRecDepth 20000 in
theorem opn_grammar_u : ∃ z m, Opn Tryd.prog 29 k29 (fun x => gS x.f0 ∧ gS x.f1 ∧ (Lit.int .i64 x.f2).wf = true ∧ x.f3.length ≤ maxLen ∧ ∀ a ∈ x.f3, ((Lit.int .i64 a.f0).wf = true ∧ gI a.f1)) z m ∧ ∀ x, x.f0.length ≤ m x ∧ x.f1.length ≤ m x ∧ x.f3.length ≤ m x ∧ (∀ a ∈ x.f3, a.f1.length ≤ m x) ∧ (∀ a ∈ x.f0, a.size ≤ m x) ∧ ∀ a ∈ x.f1, a.size ≤ m x := by
 obtain ⟨z, m, h, hm⟩ := opn_rule_u
 refine ⟨_, _, opn_struct (d := Kd.pair (Kd.slice 9 Kd.string) (Kd.pair (Kd.slice 9 Kd.string) (Kd.pair (Kd.int .i64) (Kd.slice 55 k55)))) Tryd.underlying29 (by kernel_rfl) (row_cons rfl cells_ss rfl (opn_slice Tryd.underlying26 cells_s bytes_s (opn_string Tryd.underlying9))
  (row_cons rfl cells_ss rfl (opn_slice Tryd.underlying26 cells_s bytes_s (opn_string Tryd.underlying9))
  (row_cons rfl cells_i rfl (opn_int Tryd.underlying3)
  (row_one rfl cells_rs (opn_slice Tryd.underlying27 cells_r bytes_r h))))) (fun x : S29 => (x.f0, x.f1, x.f2, x.f3)) (fun p => ⟨p.1, p.2.1, p.2.2.1, p.2.2.2⟩) (fun _ => rfl), fun x => ?_⟩
 have h0 := len_le_sum (fun s : ByteArray => s.size + 1) (fun _ => by omega) x.f0
 have h1 := len_le_sum (fun s : ByteArray => s.size + 1) (fun _ => by omega) x.f1
 have h3 := len_le_sum m (fun x => by have := hm x; omega) x.f3
 have k0 := mem_le_sum (fun s : ByteArray => s.size + 1) x.f0
 have k1 := mem_le_sum (fun s : ByteArray => s.size + 1) x.f1
 have k3 := mem_le_sum m x.f3
 dsimp only
 refine ⟨by omega, by omega, by omega, fun a ha => ?_, fun a ha => ?_, fun a ha => ?_⟩
 · have := k3 a ha; have := hm a; omega
 · have := k0 a ha; omega
 · have := k1 a ha; omega

set_option maxRecDepth 100000 in
theorem open_gu {W : World} {base : Nat} {v : Value} {H : Type} {enc : TypeId × Value → H} {spare : Nat → Bool} {held : Bool} {x : DataW H} {ps : List MemPlace} (hv : Value.okWide Tryd.prog W .any base 29 v) (h : DataW.Trod enc Tryd.prog W 0 spare held 29 v x ps) (hw : Rows.uptoBulk x ≤ 1048576) :
 ∃ (g : S29) (A0 : Option Addr) (c0 : Nat) (A1 : Option Addr) (c1 : Nat) (A3 : Option Addr) (c3 : Nat), v = .agg #[.slice A0 g.f0.length c0, .slice A1 g.f1.length c1, .int .i64 g.f2, .slice A3 g.f3.length c3] ∧ g.f0.length ≤ c0 ∧ Kd.string.C W A0 g.f0.length g.f0 ∧ g.f1.length ≤ c1 ∧ Kd.string.C W A1 g.f1.length g.f1 ∧ g.f3.length ≤ c3 ∧ k55.C W A3 g.f3.length g.f3 ∧
  (g.f0.length ≤ 1048576 ∧ g.f1.length ≤ 1048576 ∧ g.f3.length ≤ 1048576 ∧ (∀ a ∈ g.f3, a.f1.length ≤ 1048576) ∧ (∀ a ∈ g.f0, a.size ≤ 1048576) ∧ ∀ a ∈ g.f1, a.size ≤ 1048576) := by
 obtain ⟨z, m, ho, hm⟩ := opn_grammar_u
 obtain ⟨g, hK, hg, _, hu⟩ := opn_trod ho h
 obtain ⟨cs, rfl, _⟩ := okWide_struct Tryd.underlying29 hv
 obtain ⟨A0, c0, A1, c1, A3, c3, hcs, l0, k0, l1, k1, l3, k3⟩ := k29_open hK
 have hcs' : cs.toList = [.slice A0 g.f0.length c0, .slice A1 g.f1.length c1, .int .i64 g.f2, .slice A3 g.f3.length c3] := hcs
 obtain rfl : cs = #[.slice A0 g.f0.length c0, .slice A1 g.f1.length c1, .int .i64 g.f2, .slice A3 g.f3.length c3] := by cases cs; simp_all
 obtain ⟨z0, z1, z3, zx, y0, y1⟩ := hm g
 exact ⟨g, A0, c0, A1, c1, A3, c3, rfl, l0, k0, l1, k1, l3, k3, by omega, by omega, by omega, fun a ha => by have := zx a ha; omega, fun a ha => by have := y0 a ha; omega, fun a ha => by have := y1 a ha; omega⟩
end Go.Proofs.YtaeaookonhaliaaDoor.OG
/- What the row's listed sentinels give: each variable's cell, to what it points; no two point to one place. -/
set_option linter.unusedVariables false
set_option linter.unusedSimpArgs false
namespace Go.Proofs.YtaeaookonhaliaaDoor.H
open Go.RowKit Go.ChangeShapes

def sentData (nm : String) (l : List (String × List UInt8 × Nat)) : List (String × DataW Unit) := l.map fun x => (x.1, .iface nm (.ptr (.agg [.lit (.string x.2.1)])))
theorem sents_of_vars {P : Program} {W : World} {nm : String} {ti tp te ts : TypeId} {ms : Array (String × TypeId)} {f : Field}
 (hi : P.underlying ti = some (.interface ms)) (hrow : ∀ u, P.typeName? 3 u = some nm → u = tp)
 (hp : P.underlying tp = some (.pointer te)) (he : P.underlying te = some (.struct #[f])) (hft : f.type = ts) (hfo : f.offset = 0) (hs : P.underlying ts = some .string) (hc : P.cellsOf te = 1) (hcs : P.cellsOf ts = 1) :
 ∀ (l : List (String × List UInt8 × Nat)) (ps : List MemPlace), DataW.LaidVars P W (sentData nm l) ps → ps.Nodup →
  (∀ b off, MemPlace.cell b off ∈ ps → (∃ c t, W.heap[b]? = some (.cells c t (0, 0))) ∧ ∀ u v, W.cell? ⟨b, off, none⟩ = some (.iface u v) → Value.okWide P W .any 0 u v) →
  (∀ x ∈ l, P.globalNamed x.1 = some x.2.2 ∧ (P.globals[x.2.2]?).map (·.type) = some ti) →
  ∃ az : List Addr, az.length = l.length ∧ (∀ (i : Nat) x a, l[i]? = some x → az[i]? = some a → W.cell? ⟨x.2.2, 0, none⟩ = some (.iface tp (.pointer (some a))) ∧ ∃ c t, W.heap[a.block]? = some (.cells c t (0, 0))) ∧ (∀ a ∈ az, ∀ m ∈ MemPlace.row a 1, m ∈ ps) ∧ az.Nodup
 | [], ps, _, _, _, _ => ⟨[], rfl, fun i x a h => by simp at h, fun a h => by simp at h, List.nodup_nil⟩
 | x :: l, ps, h, hnd, hrows, hg => by
  obtain ⟨g, t, cs, fu, p, q, hg0, ht0, hv, hd, hr, rfl⟩ := h
  obtain ⟨hgx, htx⟩ := hg x (List.mem_cons_self ..)
  obtain rfl := Option.some.inj (hgx.symm.trans hg0)
  obtain rfl := Option.some.inj (htx.symm.trans ht0)
  obtain ⟨l0⟩ := cs
  have hcell := World.var?_cell hgx hv 0
  have ok0 : ∀ u v, l0 = [.iface u v] → Value.okWide P W .any 0 u v := fun u v e => by
   subst e
   exact (hrows x.2.2 0 (by simp [MemPlace.row])).2 u v (by simpa using hcell)
  obtain ⟨a, s, rfl, hca, _, _, rfl⟩ := errorString_of_trod hi hrow hp he hft hfo hs hc hcs hd ok0
  obtain ⟨az, e1, e2, e3, e4⟩ := sents_of_vars hi hrow hp he hft hfo hs hc hcs l q hr (List.nodup_append.1 hnd).2.1 (fun b off hm => hrows b off (by simp [hm])) (fun y hy => hg y (List.mem_cons_of_mem _ hy))
  refine ⟨a :: az, by simp [e1], ?_, ?_, ?_⟩
  · intro i y b hy hb
    cases i with
    | zero =>
     simp at hy hb
     subst hy hb
     exact ⟨by simpa using hcell, (hrows a.block a.off (by simp [MemPlace.row])).1⟩
    | succ i => exact e2 i y b (by simpa using hy) (by simpa using hb)
  · intro b hb m hm
    rcases List.mem_cons.1 hb with rfl | hb
    · simp [hm]
    · simp [e3 b hb m hm]
  · refine List.nodup_cons.2 ⟨fun hm => ?_, e4⟩
    have h1 := e3 a hm (.cell a.block a.off) (by simp [MemPlace.row])
    have h2 := List.nodup_append.1 hnd
    exact h2.2.2 (.cell a.block a.off) (by simp [MemPlace.row]) _ h1 rfl
theorem sents_of_laid {P : Program} {W : World} {nm : String} {ti tp te ts : TypeId} {ms : Array (String × TypeId)} {f : Field} {l : List (String × List UInt8 × Nat)}
 (hi : P.underlying ti = some (.interface ms)) (hrow : ∀ u, P.typeName? 3 u = some nm → u = tp)
 (hp : P.underlying tp = some (.pointer te)) (he : P.underlying te = some (.struct #[f])) (hft : f.type = ts) (hfo : f.offset = 0) (hs : P.underlying ts = some .string) (hc : P.cellsOf te = 1) (hcs : P.cellsOf ts = 1)
 (h : laidMet P (sentData nm l) W) (hg : ∀ x ∈ l, P.globalNamed x.1 = some x.2.2 ∧ (P.globals[x.2.2]?).map (·.type) = some ti) :
 ∃ az : List Addr, az.length = l.length ∧ (∀ (i : Nat) x a, l[i]? = some x → az[i]? = some a → W.cell? ⟨x.2.2, 0, none⟩ = some (.iface tp (.pointer (some a))) ∧ ∃ c t, W.heap[a.block]? = some (.cells c t (0, 0))) ∧ az.Nodup := by
 obtain ⟨ps, hv, hnd, hrows⟩ := h
 obtain ⟨az, e1, e2, _, e4⟩ := sents_of_vars hi hrow hp he hft hfo hs hc hcs l ps hv hnd hrows hg
 exact ⟨az, e1, e2, e4⟩
theorem es_star : "*" ++ "errors.errorString" = "*errors.errorString" := by decide
theorem es_row : ∀ u, Tryd.prog.typeName? 3 u = some "*errors.errorString" → u = 114 := fun u h =>
 typeName_ptr_named (nm := "errors.errorString") (by rw [es_star]; kernel_rfl) (by kernel_rfl) (by decide) u (by rw [es_star]; exact h)
end Go.Proofs.YtaeaookonhaliaaDoor.H
/- errors.Is at the sentinels, after the kit's worked example. -/
set_option linter.unusedVariables false
set_option linter.unusedSimpArgs false
namespace Go.Proofs.YtaeaookonhaliaaDoor.E
open Go.RowKit Go.Extern.Stop Go.Stop Go.Extern

theorem isTypeOf (v : Value) (w : World) : (Extern.ReflectliteType.typeOf #[.iface 114 v]).run Tryd.prog w = .ok (.iface 97 (.agg #[.pointer (some ⟨16, 114, none⟩)])) w := by kernel_rfl
def compF : Array Value → Sem Value := Extern.ReflectliteType.method fun t => do Extern.Rtype.noPackHeld "Comparable" t; pure (.bool (← typeInfo t).comparable)
theorem isComparable (w : World) : (compF #[.agg #[.pointer (some ⟨16, 114, none⟩)]]).run Tryd.prog w = .ok (.bool true) w := by kernel_rfl
theorem isMethodComparable (v : Value) (w : World) : (Go.method 248 97 v "Comparable").run Tryd.prog w = .ok (84, v) w := by kernel_rfl
theorem isComp : (Tryd.prog.info? 114).map (·.comparable) = some true := by kernel_rfl
theorem isSize : (Tryd.prog.info? 136).map (·.size) = some 1 := by kernel_rfl

theorem noIsE (v : Value) (xT : TypeId) (w : World) : (Instr.typeAssert (.iface 114 v) xT 99 true).run Tryd.prog w = .ok (.tuple #[.nilIface, .bool false]) w := run_typeAssert_lacksB Tryd.underlying99 (by kernel_rfl) (by kernel_rfl) v xT w
theorem noUnwrapE (v : Value) (xT : TypeId) (w : World) : (Instr.typeAssert (.iface 114 v) xT 102 true).run Tryd.prog w = .ok (.tuple #[.nilIface, .bool false]) w := run_typeAssert_lacksB Tryd.underlying102 (by kernel_rfl) (by kernel_rfl) v xT w
theorem noUnwrapsE (v : Value) (xT : TypeId) (w : World) : (Instr.typeAssert (.iface 114 v) xT 104 true).run Tryd.prog w = .ok (.tuple #[.nilIface, .bool false]) w := run_typeAssert_lacksB Tryd.underlying104 (by kernel_rfl) (by kernel_rfl) v xT w

theorem is_same (a : Addr) (w : World) :
 Calls Tryd.prog 35 #[.iface 114 (.pointer (some a)), .iface 114 (.pointer (some a))] w fun e w' => e = .returned (.bool true) ∧ w = w' := by
 obtain ⟨i, hi, hcmp⟩ := Option.map_eq_some_iff.1 isComp
 obtain ⟨j, hj, hjs⟩ := Option.map_eq_some_iff.1 isSize
 have h8 := @run_callFunc_extern Tryd.prog 45 _ Extern.ReflectliteType.typeOf Tryd.func45 (by kernel_rfl) (by kernel_rfl) (by kernel_rfl) (by kernel_rfl)
 have h32 := @run_callFunc_extern Tryd.prog 84 _ compF Tryd.func84 (by kernel_rfl) (by kernel_rfl) (by kernel_rfl) (by kernel_rfl)
 have tT := isTypeOf
 have cT := isComparable
 have mR := isMethodComparable
 have heq := run_eql_iface_ptr_same (P := Tryd.prog) w a Tryd.underlying32 Tryd.underlying114 hi hcmp hj
 go_enter Tryd.func35, Tryd.ntmps35
 go_wp2
 refine wp_loop_rounds 1 ?_
 rw [rounds_succ]
 go_wp2
 go_ret
 exact ⟨rfl, rfl⟩

theorem is_other (a b : Addr) (ca cb : Array Value) (ta tb : TypeId) (w : World) (hne : a ≠ b) (ha : w.heap[a.block]? = some (.cells ca ta (0, 0))) (hb : w.heap[b.block]? = some (.cells cb tb (0, 0))) :
 Calls Tryd.prog 35 #[.iface 114 (.pointer (some a)), .iface 114 (.pointer (some b))] w fun e w' => e = .returned (.bool false) ∧ w = w' := by
 obtain ⟨i, hi, hcmp⟩ := Option.map_eq_some_iff.1 isComp
 obtain ⟨j, hj, hjs⟩ := Option.map_eq_some_iff.1 isSize
 have h8 := @run_callFunc_extern Tryd.prog 45 _ Extern.ReflectliteType.typeOf Tryd.func45 (by kernel_rfl) (by kernel_rfl) (by kernel_rfl) (by kernel_rfl)
 have h32 := @run_callFunc_extern Tryd.prog 84 _ compF Tryd.func84 (by kernel_rfl) (by kernel_rfl) (by kernel_rfl) (by kernel_rfl)
 have tT := isTypeOf
 have cT := isComparable
 have mR := isMethodComparable
 have nE := noIsE
 have uE := noUnwrapE
 have vE := noUnwrapsE
 have heq := run_eql_iface_ptr_other (P := Tryd.prog) w Tryd.underlying32 Tryd.underlying114 hi hcmp hj (by rw [hjs]; decide) hne ha hb
 go_enter Tryd.func35, Tryd.ntmps35
 go_wp2
 refine wp_loop_rounds 1 ?_
 rw [rounds_succ]
 go_wp2
 go_ret
 exact ⟨rfl, rfl⟩
end Go.Proofs.YtaeaookonhaliaaDoor.E
/- Blocks that lie. -/
set_option linter.unusedVariables false
namespace Go.Proofs.YtaeaookonhaliaaDoor.B
open Go.RowKit Go.Proofs.YtaeaookonhaliaaDoorW.PrintWords

theorem C_max {α : Type} {d : Kd α} {w : World} {A : Option Addr} {n : Nat} {xs : List α} (h : d.C w A n xs) : n ≤ 9223372036854775807 := h.2.1
def Box (b : Nat) (cs : Array Value) (t : TypeId) (W : World) : Prop := W.heap[b]? = some (.cells cs t (0, 0))
theorem Box.cell {b : Nat} {cs : Array Value} {t : TypeId} {W : World} (h : Box b cs t W) (i : Nat) (v : Value) (hi : cs[i]? = some v) : W.cell? ⟨b, i, none⟩ = some v := by
 have h' : W.heap[b]? = some (.cells cs t (0, 0)) := h
 simp [World.cell?, h', hi]
theorem Box.below {b : Nat} {cs : Array Value} {t : TypeId} {W W' : World} (h : Box b cs t W) (hb : Below W.heap.size W W') : Box b cs t W' := by
 have h' : W.heap[b]? = some (.cells cs t (0, 0)) := h
 have hlt : b < W.heap.size := by
  rcases Nat.lt_or_ge b W.heap.size with h1 | h1
  · exact h1
  · rw [Array.getElem?_eq_none h1] at h'; cases h'
 exact (hb.block b hlt).trans h'
theorem Box.new (w : World) (cs : Array Value) (t : TypeId) : Box w.heap.size cs t (w.alloc (.cells cs t)) := heap_alloc_new w _
theorem Box.alloc {b : Nat} {cs : Array Value} {t : TypeId} {W : World} (h : Box b cs t W) (o : Obj) : Box b cs t (W.alloc o) := h.below ((Below.refl _ W).alloc (Nat.le_refl _) o)
end Go.Proofs.YtaeaookonhaliaaDoor.B
/- kit.Kind: which of api's errors one is, as a number. -/
set_option linter.unusedVariables false
set_option linter.unusedSimpArgs false
namespace Go.Proofs.YtaeaookonhaliaaDoor.B
open Go.RowKit Go.Proofs.YtaeaookonhaliaaDoorW.PrintWords Go.Proofs.YtaeaookonhaliaaDoorW.PrintLast Go.Proofs.YtaeaookonhaliaaDoorW.PrintMore Go.Proofs.YtaeaookonhaliaaDoor.E

structure SentsK (ad : Int → Addr) (w : World) : Prop where
 cells : w.cell? ⟨1, 0, none⟩ = some (.iface 114 (.pointer (some (ad 1)))) ∧ w.cell? ⟨2, 0, none⟩ = some (.iface 114 (.pointer (some (ad 2)))) ∧ w.cell? ⟨3, 0, none⟩ = some (.iface 114 (.pointer (some (ad 3)))) ∧ w.cell? ⟨0, 0, none⟩ = some (.iface 114 (.pointer (some (ad 4)))) ∧ w.cell? ⟨4, 0, none⟩ = some (.iface 114 (.pointer (some (ad 5)))) ∧ w.cell? ⟨5, 0, none⟩ = some (.iface 114 (.pointer (some (ad 6)))) ∧ w.cell? ⟨6, 0, none⟩ = some (.iface 114 (.pointer (some (ad 7)))) ∧ w.cell? ⟨7, 0, none⟩ = some (.iface 114 (.pointer (some (ad 8)))) ∧ w.cell? ⟨8, 0, none⟩ = some (.iface 114 (.pointer (some (ad 9)))) ∧ w.cell? ⟨9, 0, none⟩ = some (.iface 114 (.pointer (some (ad 10)))) ∧ w.cell? ⟨10, 0, none⟩ = some (.iface 114 (.pointer (some (ad 11)))) ∧ w.cell? ⟨11, 0, none⟩ = some (.iface 114 (.pointer (some (ad 12)))) ∧ w.cell? ⟨12, 0, none⟩ = some (.iface 114 (.pointer (some (ad 13)))) ∧ w.cell? ⟨13, 0, none⟩ = some (.iface 114 (.pointer (some (ad 14)))) ∧ w.cell? ⟨14, 0, none⟩ = some (.iface 114 (.pointer (some (ad 15))))
 box : ∀ k : Int, 1 ≤ k → k ≤ 15 → ∃ c t, w.heap[(ad k).block]? = some (.cells c t (0, 0))
 ne : ∀ j k : Int, 1 ≤ j → j ≤ 15 → 1 ≤ k → k ≤ 15 → j ≠ k → ad j ≠ ad k
theorem SentsK.below {ad : Int → Addr} {w w' : World} (h : SentsK ad w) (hb : Below w.heap.size w w') : SentsK ad w' := by
 obtain ⟨⟨h1, h2, h3, h4, h5, h6, h7, h8, h9, h10, h11, h12, h13, h14, h15⟩, hbox, hne⟩ := h
 refine ⟨⟨(hb.cell (World.block_lt_of_cell? w _ h1)).trans h1, (hb.cell (World.block_lt_of_cell? w _ h2)).trans h2, (hb.cell (World.block_lt_of_cell? w _ h3)).trans h3, (hb.cell (World.block_lt_of_cell? w _ h4)).trans h4, (hb.cell (World.block_lt_of_cell? w _ h5)).trans h5, (hb.cell (World.block_lt_of_cell? w _ h6)).trans h6, (hb.cell (World.block_lt_of_cell? w _ h7)).trans h7, (hb.cell (World.block_lt_of_cell? w _ h8)).trans h8, (hb.cell (World.block_lt_of_cell? w _ h9)).trans h9, (hb.cell (World.block_lt_of_cell? w _ h10)).trans h10, (hb.cell (World.block_lt_of_cell? w _ h11)).trans h11, (hb.cell (World.block_lt_of_cell? w _ h12)).trans h12, (hb.cell (World.block_lt_of_cell? w _ h13)).trans h13, (hb.cell (World.block_lt_of_cell? w _ h14)).trans h14, (hb.cell (World.block_lt_of_cell? w _ h15)).trans h15⟩, fun k h1 h2 => ?_, hne⟩
 obtain ⟨c, t, hc⟩ := hbox k h1 h2
 exact ⟨c, t, Box.below (W := w) (W' := w') hc hb⟩
def IsK (ad : Int → Addr) (w : World) (v : Value) (k : Int) : Prop := ∀ j : Int, 1 ≤ j → j ≤ 15 → ∀ W, Below w.heap.size w W → Calls Tryd.prog 35 #[v, .iface 114 (.pointer (some (ad j)))] W fun e w' => e = .returned (.bool (decide (j = k))) ∧ W = w'
theorem IsK.sent {ad : Int → Addr} {w : World} (hs : SentsK ad w) (k : Int) (h1 : 1 ≤ k) (h2 : k ≤ 15) : IsK ad w (.iface 114 (.pointer (some (ad k)))) k := by
 intro j hj1 hj2 W hW
 by_cases h : j = k
 · subst h
   rw [decide_eq_true rfl]
   exact is_same (ad j) W
 · rw [decide_eq_false h]
   obtain ⟨ca, ta, hca⟩ := (hs.below hW).box k h1 h2
   obtain ⟨cb, tb, hcb⟩ := (hs.below hW).box j hj1 hj2
   exact is_other (ad k) (ad j) ca cb ta tb W (hs.ne k j h1 h2 hj1 hj2 (fun e => h e.symm)) hca hcb

def sentRow (ad : Int → Addr) : Array Value := #[.iface 114 (.pointer (some (ad 1))), .iface 114 (.pointer (some (ad 2))), .iface 114 (.pointer (some (ad 3))), .iface 114 (.pointer (some (ad 4))), .iface 114 (.pointer (some (ad 5))), .iface 114 (.pointer (some (ad 6))), .iface 114 (.pointer (some (ad 7))), .iface 114 (.pointer (some (ad 8))), .iface 114 (.pointer (some (ad 9))), .iface 114 (.pointer (some (ad 10))), .iface 114 (.pointer (some (ad 11))), .iface 114 (.pointer (some (ad 12))), .iface 114 (.pointer (some (ad 13))), .iface 114 (.pointer (some (ad 14))), .iface 114 (.pointer (some (ad 15)))]
theorem sentRow_at (ad : Int → Addr) (i : Nat) (hi : i < 15) : (sentRow ad)[i]? = some (.iface 114 (.pointer (some (ad ((i + 1 : Nat) : Int))))) := by
 match i, hi with
 | 0, _ => rfl
 | 1, _ => rfl
 | 2, _ => rfl
 | 3, _ => rfl
 | 4, _ => rfl
 | 5, _ => rfl
 | 6, _ => rfl
 | 7, _ => rfl
 | 8, _ => rfl
 | 9, _ => rfl
 | 10, _ => rfl
 | 11, _ => rfl
 | 12, _ => rfl
 | 13, _ => rfl
 | 14, _ => rfl

set_option maxHeartbeats 2000000 in
set_option maxRecDepth 100000 in
theorem Kind_any (ad : Int → Addr) (t : TypeId) (u : Value) (k : Int) (hk1 : 1 ≤ k) (hk2 : k ≤ 15) (w : World) (hs : SentsK ad w) (hI : IsK ad w (.iface t u) k) :
 Calls Tryd.prog 16 #[.iface t u] w fun e w' => e = .returned (.int .i64 k) ∧ Below w.heap.size w w' := by
 obtain ⟨⟨h1, h2, h3, h4, h5, h6, h7, h8, h9, h10, h11, h12, h13, h14, h15⟩, _, _⟩ := hs
 have hb0 : Box w.heap.size (sentRow ad) 32 (w.alloc (.cells (sentRow ad) 32)) := Box.new w _ _
 have HB := Aside0.mk hb0
 have HI := Aside0.mk hI
 clear hb0 hI
 go_enter Tryd.func16, Tryd.ntmps16
 go_wp2_with fail
 go_loopw [4, 5] (fun h i wr => ∃ (q : Nat) (hit : Int), q ≤ 15 ∧ i = .int .i64 q ∧ h = .int .i64 hit ∧ Hid (hit = if k ≤ (q : Int) then k else 99) ∧ Aside0 (Below w.heap.size w wr ∧ Box w.heap.size (sentRow ad) 32 wr)) (fun _ i _ => 15 - (intOf i).toNat)
 case atStart => exact ⟨0, 99, by omega, rfl, rfl, Lib.hid (by rw [if_neg]; omega), ⟨(Below.refl _ w).alloc (Nat.le_refl _) _, HB.out⟩⟩
 case round =>
  obtain ⟨q, hit, hq, rfl, rfl, hhit, tr⟩ := hrel
  clear h1 h2 h3 h4 h5 h6 h7 h8 h9 h10 h11 h12 h13 h14 h15
  by_cases hlt : q < 15
  · have f0 := tr.out.2.cell q _ (sentRow_at ad q hlt)
    have hc := HI.out ((q + 1 : Nat) : Int) (by omega) (by omega) wr tr.out.1
    generalize ad ((q + 1 : Nat) : Int) = a at f0 hc
    by_cases c : ((q + 1 : Nat) : Int) = k
    · rw [decide_eq_true c] at hc
      obtain rfl : hit = 99 := by rw [hhit.out, if_neg]; omega
      have HC := Aside0.mk hc
      have HK := Lib.hid c
      clear hc c hhit
      go_wp2_with (go_at_call 35; (with_reducible refine HC.out.mono ?_); rintro e w' ⟨rfl, rfl⟩)
      go_roundw
      case measure => simp [intOf]; omega
      case rel => exact ⟨q + 1, (q : Int) + 1, by omega, rfl, rfl, Lib.hid (by rw [if_pos (by have := HK.out; omega)]; have := HK.out; omega), tr⟩
    · rw [decide_eq_false c] at hc
      have HC := Aside0.mk hc
      have HK := Lib.hid c
      clear hc c
      go_wp2_with (go_at_call 35; (with_reducible refine HC.out.mono ?_); rintro e w' ⟨rfl, rfl⟩)
      go_roundw
      case measure => simp [intOf]; omega
      case rel => exact ⟨q + 1, hit, by omega, rfl, rfl, Lib.hid (by
       have h1 := HK.out
       rw [hhit.out]
       by_cases c : k ≤ (q : Int)
       · rw [if_pos c, if_pos (by omega)]
       · rw [if_neg c, if_neg (by omega)]), tr⟩
  · have hqn : q = 15 := by omega
    subst hqn
    obtain rfl : hit = k := by rw [hhit.out, if_pos]; omega
    clear hhit
    go_wp2_with fail
    go_ret
    exact ⟨rfl, tr.out.1⟩
set_option maxRecDepth 100000 in
theorem Kind_nil (w : World) : Calls Tryd.prog 16 #[.nilIface] w fun e w' => e = .returned (.int .i64 0) ∧ Below w.heap.size w w' := by
 go_enter Tryd.func16, Tryd.ntmps16
 go_wp2_with fail
 go_ret
 exact ⟨rfl, Below.refl _ w⟩
def HandleP (w : World) : Prop := w.cell? ⟨15, 0, none⟩ = some (.iface 97 (.agg #[.pointer (some ⟨16, 32, none⟩)]))
theorem HandleP.below {w w' : World} (h : HandleP w) (hb : Below w.heap.size w w') : HandleP w' := (hb.cell (World.block_lt_of_cell? w _ h)).trans h
end Go.Proofs.YtaeaookonhaliaaDoor.B
/- What the listed variables give: the fifteen sentinels, the handle of the type error; a world in which they lie. -/
set_option linter.unusedVariables false
set_option linter.unusedSimpArgs false
namespace Go.Proofs.YtaeaookonhaliaaDoor.B
open Go.RowKit Go.ChangeShapes Go.Proofs.YtaeaookonhaliaaDoor.H

def names15 : List (String × List UInt8 × Nat) := [("dovetail/api.ErrArg", [100, 111, 118, 101, 116, 97, 105, 108, 58, 32, 97, 114, 103, 117, 109, 101, 110, 116], 1), ("dovetail/api.ErrSyntax", [100, 111, 118, 101, 116, 97, 105, 108, 58, 32, 115, 121, 110, 116, 97, 120], 2), ("dovetail/api.ErrBounds", [100, 111, 118, 101, 116, 97, 105, 108, 58, 32, 98, 111, 117, 110, 100, 115], 3), ("dovetail/api.ErrNotOperator", [100, 111, 118, 101, 116, 97, 105, 108, 58, 32, 110, 111, 116, 32, 97, 110, 32, 111, 112, 101, 114, 97, 116, 111, 114, 32, 103, 114, 97, 109, 109, 97, 114], 0), ("dovetail/api.ErrMatrix", [100, 111, 118, 101, 116, 97, 105, 108, 58, 32, 116, 119, 111, 32, 114, 101, 108, 97, 116, 105, 111, 110, 115], 4), ("dovetail/api.ErrTooBig", [100, 111, 118, 101, 116, 97, 105, 108, 58, 32, 116, 111, 111, 32, 98, 105, 103], 5), ("dovetail/api.ErrRefused", [100, 111, 118, 101, 116, 97, 105, 108, 58, 32, 114, 101, 102, 117, 115, 101, 100], 6), ("dovetail/api.ErrCut", [100, 111, 118, 101, 116, 97, 105, 108, 58, 32, 99, 117, 116], 7), ("dovetail/api.ErrPlan", [100, 111, 118, 101, 116, 97, 105, 108, 58, 32, 112, 108, 97, 110], 8), ("dovetail/api.ErrName", [100, 111, 118, 101, 116, 97, 105, 108, 58, 32, 110, 97, 109, 101], 9), ("dovetail/api.ErrTree", [100, 111, 118, 101, 116, 97, 105, 108, 58, 32, 116, 114, 101, 101], 10), ("dovetail/api.ErrLong", [100, 111, 118, 101, 116, 97, 105, 108, 58, 32, 108, 111, 110, 103], 11), ("dovetail/api.ErrForm", [100, 111, 118, 101, 116, 97, 105, 108, 58, 32, 102, 111, 114, 109], 12), ("dovetail/api.ErrSum", [100, 111, 118, 101, 116, 97, 105, 108, 58, 32, 115, 117, 109], 13), ("dovetail/api.ErrNone", [100, 111, 118, 101, 116, 97, 105, 108, 58, 32, 110, 111, 110, 101], 14)]
def laid16 : List (String × DataW Unit) := ("errors.errorType", Rows.laid_errors_errorType) :: sentData "*errors.errorString" names15
theorem rt16 : (Tryd.prog.cutTypes.find? (·.1 == "internal/reflectlite.rtype")).map (·.2) = some 97 := by kernel_rfl
theorem oneRow16 : ((List.range Tryd.prog.types.size).filter fun t => Tryd.prog.rowNamed t [101, 114, 114, 111, 114]) = [32] := by kernel_rfl
theorem et16 : Tryd.prog.globalNamed "errors.errorType" = some 15 := by kernel_rfl
theorem handle16 {W : World} (h : handlesMet Tryd.prog [("errors.errorType", Rows.laid_errors_errorType)] W) : HandleP W := by
 obtain ⟨name, u, ty, e1, e2, e3, e4, e5⟩ := h _ (List.mem_singleton.2 rfl)
 have en : name = [101, 114, 114, 111, 114] := (Option.some.inj e1).symm
 subst en
 obtain rfl := Option.some.inj (rt16.symm.trans e2)
 have hm : ty ∈ (List.range Tryd.prog.types.size).filter fun t => Tryd.prog.rowNamed t [101, 114, 114, 111, 114] := List.mem_filter.2 ⟨List.mem_range.2 e3, e4⟩
 rw [oneRow16] at hm
 obtain rfl := List.mem_singleton.1 hm
 have hh : typeHandle Tryd.prog 32 = .pointer (some ⟨16, 32, none⟩) := by kernel_rfl
 rw [hh] at e5
 have := World.var?_cell et16 e5 0
 simpa [HandleP] using this
theorem parts16 {W : World} (h : laidMetH Tryd.prog laid16 W) : laidMet Tryd.prog (sentData "*errors.errorString" names15) W ∧ handlesMet Tryd.prog [("errors.errorType", Rows.laid_errors_errorType)] W := h
set_option maxRecDepth 20000 in
theorem sents16 {W : World} (h : laidMetH Tryd.prog laid16 W) : (∃ ad, SentsK ad W) ∧ HandleP W := by
 obtain ⟨h1, h2⟩ := parts16 h
 refine ⟨?_, handle16 h2⟩
 obtain ⟨az, hl, hx, hnd⟩ := sents_of_laid Tryd.underlying32 es_row Tryd.underlying114 Tryd.underlying136 rfl rfl Tryd.underlying9 (by kernel_rfl) (by kernel_rfl) h1 (by
  intro x hx
  simp only [names15, List.mem_cons, List.not_mem_nil, or_false] at hx
  rcases hx with rfl | rfl | rfl | rfl | rfl | rfl | rfl | rfl | rfl | rfl | rfl | rfl | rfl | rfl | rfl <;> exact ⟨by kernel_rfl, by kernel_rfl⟩)
 match az, hl with
 | [a1, a2, a3, a4, a5, a6, a7, a8, a9, a10, a11, a12, a13, a14, a15], _ =>
  have hg : ∀ i : Nat, i < 15 → ∃ a, [a1, a2, a3, a4, a5, a6, a7, a8, a9, a10, a11, a12, a13, a14, a15][i]? = some a := fun i hi => ⟨_, List.getElem?_eq_getElem (by simpa using hi)⟩
  refine ⟨fun k => ([a1, a2, a3, a4, a5, a6, a7, a8, a9, a10, a11, a12, a13, a14, a15][(k - 1).toNat]?).getD a1, ⟨by simpa using (hx 0 _ a1 rfl rfl).1, by simpa using (hx 1 _ a2 rfl rfl).1, by simpa using (hx 2 _ a3 rfl rfl).1, by simpa using (hx 3 _ a4 rfl rfl).1, by simpa using (hx 4 _ a5 rfl rfl).1, by simpa using (hx 5 _ a6 rfl rfl).1, by simpa using (hx 6 _ a7 rfl rfl).1, by simpa using (hx 7 _ a8 rfl rfl).1, by simpa using (hx 8 _ a9 rfl rfl).1, by simpa using (hx 9 _ a10 rfl rfl).1, by simpa using (hx 10 _ a11 rfl rfl).1, by simpa using (hx 11 _ a12 rfl rfl).1, by simpa using (hx 12 _ a13 rfl rfl).1, by simpa using (hx 13 _ a14 rfl rfl).1, by simpa using (hx 14 _ a15 rfl rfl).1⟩, ?_, ?_⟩
  · intro k h1 h2
    obtain ⟨a, ha⟩ := hg (k - 1).toNat (by omega)
    rw [ha]
    have hn : (k - 1).toNat < names15.length := by show (k - 1).toNat < 15; omega
    exact (hx (k - 1).toNat _ a (List.getElem?_eq_getElem hn) ha).2
  · intro j k h1 h2 h3 h4 hne
    obtain ⟨a, ha⟩ := hg (j - 1).toNat (by omega)
    obtain ⟨b, hb⟩ := hg (k - 1).toNat (by omega)
    rw [ha, hb]
    intro e
    have e' : a = b := e
    subst e'
    have hi1 : (j - 1).toNat < [a1, a2, a3, a4, a5, a6, a7, a8, a9, a10, a11, a12, a13, a14, a15].length := by show _ < 15; omega
    have := (List.getElem?_inj hi1 hnd).1 (ha.trans hb.symm)
    omega

noncomputable def low16 : Nat := (World.holding Tryd.prog default ⟨#[], #[], []⟩).heap.size
noncomputable def laidWorld16 (os : Os) : World :=
 let w0 := World.holding Tryd.prog os ⟨#[.cells #[.string ⟨#[100, 111, 118, 101, 116, 97, 105, 108, 58, 32, 97, 114, 103, 117, 109, 101, 110, 116]⟩] 136, .cells #[.string ⟨#[100, 111, 118, 101, 116, 97, 105, 108, 58, 32, 115, 121, 110, 116, 97, 120]⟩] 136, .cells #[.string ⟨#[100, 111, 118, 101, 116, 97, 105, 108, 58, 32, 98, 111, 117, 110, 100, 115]⟩] 136, .cells #[.string ⟨#[100, 111, 118, 101, 116, 97, 105, 108, 58, 32, 110, 111, 116, 32, 97, 110, 32, 111, 112, 101, 114, 97, 116, 111, 114, 32, 103, 114, 97, 109, 109, 97, 114]⟩] 136, .cells #[.string ⟨#[100, 111, 118, 101, 116, 97, 105, 108, 58, 32, 116, 119, 111, 32, 114, 101, 108, 97, 116, 105, 111, 110, 115]⟩] 136, .cells #[.string ⟨#[100, 111, 118, 101, 116, 97, 105, 108, 58, 32, 116, 111, 111, 32, 98, 105, 103]⟩] 136, .cells #[.string ⟨#[100, 111, 118, 101, 116, 97, 105, 108, 58, 32, 114, 101, 102, 117, 115, 101, 100]⟩] 136, .cells #[.string ⟨#[100, 111, 118, 101, 116, 97, 105, 108, 58, 32, 99, 117, 116]⟩] 136, .cells #[.string ⟨#[100, 111, 118, 101, 116, 97, 105, 108, 58, 32, 112, 108, 97, 110]⟩] 136, .cells #[.string ⟨#[100, 111, 118, 101, 116, 97, 105, 108, 58, 32, 110, 97, 109, 101]⟩] 136, .cells #[.string ⟨#[100, 111, 118, 101, 116, 97, 105, 108, 58, 32, 116, 114, 101, 101]⟩] 136, .cells #[.string ⟨#[100, 111, 118, 101, 116, 97, 105, 108, 58, 32, 108, 111, 110, 103]⟩] 136, .cells #[.string ⟨#[100, 111, 118, 101, 116, 97, 105, 108, 58, 32, 102, 111, 114, 109]⟩] 136, .cells #[.string ⟨#[100, 111, 118, 101, 116, 97, 105, 108, 58, 32, 115, 117, 109]⟩] 136, .cells #[.string ⟨#[100, 111, 118, 101, 116, 97, 105, 108, 58, 32, 110, 111, 110, 101]⟩] 136], #[], []⟩
 let put (h : Array Obj) (g : Nat) (cs : Array Value) : Array Obj := h.modify g fun
  | .cells _ t frozen => .cells cs t frozen
  | o => o
 { w0 with heap := put (put (put (put (put (put (put (put (put (put (put (put (put (put (put (put w0.heap 15 #[.iface 97 (.agg #[.pointer (some ⟨16, 32, none⟩)])]) 1 #[.iface 114 (.pointer (some ⟨low16 + 0, 0, none⟩))]) 2 #[.iface 114 (.pointer (some ⟨low16 + 1, 0, none⟩))]) 3 #[.iface 114 (.pointer (some ⟨low16 + 2, 0, none⟩))]) 0 #[.iface 114 (.pointer (some ⟨low16 + 3, 0, none⟩))]) 4 #[.iface 114 (.pointer (some ⟨low16 + 4, 0, none⟩))]) 5 #[.iface 114 (.pointer (some ⟨low16 + 5, 0, none⟩))]) 6 #[.iface 114 (.pointer (some ⟨low16 + 6, 0, none⟩))]) 7 #[.iface 114 (.pointer (some ⟨low16 + 7, 0, none⟩))]) 8 #[.iface 114 (.pointer (some ⟨low16 + 8, 0, none⟩))]) 9 #[.iface 114 (.pointer (some ⟨low16 + 9, 0, none⟩))]) 10 #[.iface 114 (.pointer (some ⟨low16 + 10, 0, none⟩))]) 11 #[.iface 114 (.pointer (some ⟨low16 + 11, 0, none⟩))]) 12 #[.iface 114 (.pointer (some ⟨low16 + 12, 0, none⟩))]) 13 #[.iface 114 (.pointer (some ⟨low16 + 13, 0, none⟩))]) 14 #[.iface 114 (.pointer (some ⟨low16 + 14, 0, none⟩))] }
set_option maxRecDepth 100000 in
theorem laid_met16 (os : Os) (args : Array Value) : laidMetH Tryd.prog laid16 ((laidWorld16 os).forCall (fun _ _ => 0) ⟨#[], args, []⟩).memory :=
 laidMetH_of_parts (laidMet_of_run' 20 (by kernel_rfl) (by kernel_rfl)) (by kernel_rfl)
end Go.Proofs.YtaeaookonhaliaaDoor.B
/- gram.rule and what it calls. -/
set_option linter.unusedVariables false
namespace Go.Proofs.YtaeaookonhaliaaDoor.B
open Go.RowKit Go.Proofs.YtaeaookonhaliaaDoorW.PrintWords Go.Proofs.YtaeaookonhaliaaDoorW.PrintLast Go.Proofs.YtaeaookonhaliaaDoorW.PrintMore

def outS (t n : Nat) (s : Int) : Bool := decide ((t : Int) ≤ s) || decide (s < -(n : Int))

set_option maxHeartbeats 1000000 in
set_option maxRecDepth 100000 in
theorem OutS_calls (s : Int) (b t n ct cn : Nat) (At An : Option Addr) (w : World) (ht : t ≤ 60) (hn : n ≤ 60) (h0 : w.cell? ⟨b, 0, none⟩ = some (.slice At t ct)) (h1 : w.cell? ⟨b, 1, none⟩ = some (.slice An n cn)) :
 Calls Tryd.prog 54 #[.int .i64 s, .pointer (some ⟨b, 0, none⟩)] w fun e w' => e = .returned (.bool (outS t n s)) ∧ Below w.heap.size w w' := by
 by_cases c : (t : Int) ≤ s
 · have hc : decide ((t : Int) ≤ s) = true := decide_eq_true c
   have hq : outS t n s = true := by simp [outS, c]
   rw [hq]
   clear hq c
   go_enter Tryd.func54, Tryd.ntmps54
   go_wp2_with fail
   go_ret
   exact ⟨rfl, Below.refl _ w⟩
 · have hc : decide ((t : Int) ≤ s) = false := decide_eq_false c
   have hq : outS t n s = decide (s < -(n : Int)) := by simp [outS, c]
   rw [hq]
   generalize hz : decide (s < -(n : Int)) = z
   clear hq c
   go_enter Tryd.func54, Tryd.ntmps54
   go_wp2_with fail
   go_ret
   exact ⟨rfl, Below.refl _ w⟩

set_option maxHeartbeats 1000000 in
set_option maxRecDepth 100000 in
theorem IdxS_calls (A : Option Addr) (l : List Int) (c : Nat) (b t n ct cn : Nat) (At An : Option Addr) (w : World) (ht : t ≤ 60) (hn : n ≤ 60) (h0 : w.cell? ⟨b, 0, none⟩ = some (.slice At t ct)) (h1 : w.cell? ⟨b, 1, none⟩ = some (.slice An n cn))
 (hr : Kd.C (Kd.int .i64) w A l.length l) (hc : l.length ≤ c) :
 Calls Tryd.prog 58 #[.slice A l.length c, .func (.func 54) #[] #[.pointer (some ⟨b, 0, none⟩)]] w fun e w' => (∃ v : Int, e = .returned (.int .i64 v) ∧ decide (0 ≤ v) = l.any (outS t n)) ∧ Below w.heap.size w w' := by
 have hm := C_max hr
 have hcall : ∀ (W : World), Below w.heap.size w W → ∀ s, Calls Tryd.prog 54 #[.int .i64 s, .pointer (some ⟨b, 0, none⟩)] W fun e w' => e = .returned (.bool (outS t n s)) ∧ Below w.heap.size w w' := by
  intro W hW s
  refine (OutS_calls s b t n ct cn At An W ht hn ((hW.cell (World.block_lt_of_cell? w _ h0)).trans h0) ((hW.cell (World.block_lt_of_cell? w _ h1)).trans h1)).mono ?_
  rintro e w' ⟨he, hb⟩
  exact ⟨he, hW.trans (hb.mono hW.size)⟩
 have HR := Aside0.mk hr
 have HC := Aside0.mk hcall
 clear hr hcall h0 h1
 go_enter Tryd.func58, Tryd.ntmps58
 go_wp2_with fail
 go_loopw [5, 8] (fun _ i wr => ∃ k : Nat, k ≤ l.length ∧ i = .int .i64 k ∧ Hid ((l.take k).any (outS t n) = false) ∧ Aside0 (Below w.heap.size w wr)) (fun _ i _ => l.length - (intOf i).toNat)
 case atStart => exact ⟨0, Nat.zero_le _, rfl, Lib.hid (by simp), ⟨Below.refl _ w⟩⟩
 case round =>
  obtain ⟨k, hk, rfl, hno, hbe⟩ := hrel
  by_cases hlt : k < l.length
  · obtain ⟨ad, rfl, hx⟩ := Kd.at_int (Kd.C_below HR.out hbe.out) (k : Int) (by omega) (by omega)
    have hw := HC.out wr hbe.out (rd l (k : Int))
    have g0 : rd l (k : Int) = l[k] := by simp [rd, List.getD_eq_getElem?_getD, List.getElem?_eq_getElem hlt]
    have hn1 : (l.take (k + 1)).any (outS t n) = ((l.take k).any (outS t n) || outS t n l[k]) := by rw [List.take_succ_eq_append_getElem hlt, List.any_append]; simp
    have ha : outS t n l[k] = true → l.any (outS t n) = true := fun h => List.any_eq_true.2 ⟨l[k], List.getElem_mem hlt, h⟩
    rw [Int.toNat_natCast] at hx
    rw [g0] at hx hw
    generalize l[k] = x at hx hw hn1 ha
    cases hq : outS t n x with
    | true =>
     rw [hq] at hw
     have HA := Lib.hid (ha hq)
     have HW := Aside0.mk hw
     clear hw hn1 ha g0 hq
     go_wp2_with (go_at_call 54; (with_reducible refine HW.out.mono ?_); rintro e w' ⟨rfl, hb'⟩)
     go_ret
     exact ⟨⟨(k : Int), rfl, by rw [HA.out]; simp⟩, hb'⟩
    | false =>
     rw [hq] at hw
     have HN := Lib.hid hn1
     have HQ := Lib.hid hq
     have HW := Aside0.mk hw
     clear hw hn1 ha g0 hq
     go_wp2_with (go_at_call 54; (with_reducible refine HW.out.mono ?_); rintro e w' ⟨rfl, hb'⟩)
     go_roundw
     case measure => simp [intOf]; omega
     case rel => exact ⟨k + 1, by omega, rfl, Lib.hid (by rw [HN.out, hno.out, HQ.out]; rfl), ⟨hb'⟩⟩
  · have hkn : k = l.length := by omega
    subst hkn
    have HNO := Lib.hid (show l.any (outS t n) = false by have := hno.out; rwa [List.take_length] at this)
    clear hno
    go_wp2_with fail
    go_ret
    exact ⟨⟨-1, rfl, by rw [HNO.out]; rfl⟩, hbe.out⟩

set_option maxHeartbeats 1000000 in
set_option maxRecDepth 100000 in
theorem ContS_calls (A : Option Addr) (l : List Int) (c : Nat) (b t n ct cn : Nat) (At An : Option Addr) (w : World) (ht : t ≤ 60) (hn : n ≤ 60) (h0 : w.cell? ⟨b, 0, none⟩ = some (.slice At t ct)) (h1 : w.cell? ⟨b, 1, none⟩ = some (.slice An n cn))
 (hr : Kd.C (Kd.int .i64) w A l.length l) (hc : l.length ≤ c) :
 Calls Tryd.prog 53 #[.slice A l.length c, .func (.func 54) #[] #[.pointer (some ⟨b, 0, none⟩)]] w fun e w' => e = .returned (.bool (l.any (outS t n))) ∧ Below w.heap.size w w' := by
 have HW := Aside0.mk (IdxS_calls A l c b t n ct cn At An w ht hn h0 h1 hr hc)
 clear h0 h1 hr
 go_enter Tryd.func53, Tryd.ntmps53
 go_wp2_with (go_at_call 58; (with_reducible refine HW.out.mono ?_); rintro e w' ⟨⟨v, rfl, hv⟩, hb'⟩; have HV := Lib.hid hv; clear hv)
 go_ret
 exact ⟨by show Ending.returned (.bool (decide (0 ≤ v))) = _; rw [HV.out], hb'⟩
end Go.Proofs.YtaeaookonhaliaaDoor.B
/- gram.Check at a grammar that may be: it answers nil. -/
set_option linter.unusedVariables false
namespace Go.Proofs.YtaeaookonhaliaaDoor.B
open Go.RowKit Go.Proofs.YtaeaookonhaliaaDoorW.PrintWords Go.Proofs.YtaeaookonhaliaaDoorW.PrintLast Go.Proofs.YtaeaookonhaliaaDoorW.PrintMore

def okR (t n : Nat) (x : S55) : Bool := decide (x.f1.length ≤ 32) && decide (0 ≤ x.f0) && decide (x.f0 < n) && !x.f1.any (outS t n)

end Go.Proofs.YtaeaookonhaliaaDoor.B
/- gram.Check: what it answers, whatever the grammar. -/
set_option linter.unusedVariables false
set_option linter.unusedSimpArgs false
namespace Go.Proofs.YtaeaookonhaliaaDoor.B
open Go.RowKit Go.Proofs.YtaeaookonhaliaaDoorW.PrintWords Go.Proofs.YtaeaookonhaliaaDoorW.PrintLast Go.Proofs.YtaeaookonhaliaaDoorW.PrintMore

def Sents (ad : Int → Addr) (w : World) : Prop := w.cell? ⟨3, 0, none⟩ = some (.iface 114 (.pointer (some (ad 3)))) ∧ w.cell? ⟨9, 0, none⟩ = some (.iface 114 (.pointer (some (ad 10)))) ∧ w.cell? ⟨1, 0, none⟩ = some (.iface 114 (.pointer (some (ad 1))))
theorem Sents.below {ad : Int → Addr} {w w' : World} (h : Sents ad w) (hb : Below w.heap.size w w') : Sents ad w' :=
 ⟨(hb.cell (World.block_lt_of_cell? w _ h.1)).trans h.1, (hb.cell (World.block_lt_of_cell? w _ h.2.1)).trans h.2.1, (hb.cell (World.block_lt_of_cell? w _ h.2.2)).trans h.2.2⟩
def checkR (t n : Nat) (x : S55) : Int := if 32 < x.f1.length then 3 else if x.f0 < 0 ∨ (n : Int) ≤ x.f0 ∨ x.f1.any (outS t n) = true then 1 else 0
def chkRs (t n : Nat) : List S55 → Nat → Int × Int
 | [], _ => (0, -1)
 | x :: l, j => if checkR t n x = 0 then chkRs t n l (j + 1) else (checkR t n x, (j : Int))
theorem chkRs_drop (t n : Nat) (R : List S55) (j : Nat) (h : j < R.length) : chkRs t n (R.drop j) j = if checkR t n R[j] = 0 then chkRs t n (R.drop (j + 1)) (j + 1) else (checkR t n R[j], (j : Int)) := by
 rw [List.drop_eq_getElem_cons h, chkRs]
def chk (b0 b1 : Bool) (l0 l1 : Nat) (a2 : Int) (R : List S55) : Int × Int :=
 if 60 < l0 + l1 ∨ 120 < R.length then (3, -1) else if (b0 && b1) = false then (10, -1) else if a2 < 0 ∨ (l1 : Int) ≤ a2 then (1, -1) else chkRs l0 l1 R 0
theorem checkR_cases (t n : Nat) (x : S55) : checkR t n x = 0 ∧ okR t n x = true ∨ (checkR t n x = 3 ∨ checkR t n x = 1) ∧ okR t n x = false := by
 unfold checkR okR
 by_cases c1 : 32 < x.f1.length
 · rw [if_pos c1]; right; simp; omega
 · rw [if_neg c1]
   by_cases c2 : x.f0 < 0 ∨ (n : Int) ≤ x.f0 ∨ x.f1.any (outS t n) = true
   · rw [if_pos c2]; right
     refine ⟨.inr rfl, ?_⟩
     rcases c2 with c | c | c
     · simp [show ¬ (0 ≤ x.f0) from by omega]
     · simp [show ¬ (x.f0 < (n : Int)) from by omega]
     · simp [c]
   · rw [if_neg c2]; left
     simp only [not_or, Bool.not_eq_true] at c2
     refine ⟨rfl, ?_⟩
     simp [c2.2.2, show x.f1.length ≤ 32 from by omega, show 0 ≤ x.f0 from by omega, show x.f0 < (n : Int) from by omega]
def ErrV (ad : Int → Addr) (w : World) (v : Value) (p : Int × Int) : Prop :=
 (p.1 = 0 ∧ p.2 = -1 ∧ v = .nilIface) ∨ ((p.1 = 3 ∨ p.1 = 10 ∨ p.1 = 1) ∧ p.2 = -1 ∧ v = .iface 114 (.pointer (some (ad p.1)))) ∨
 ((p.1 = 3 ∨ p.1 = 1) ∧ 0 ≤ p.2 ∧ p.2 < 120 ∧ ∃ b, v = .iface 66 (.pointer (some ⟨b, 0, none⟩)) ∧ w.heap[b]? = some (.cells #[.int .i64 p.2, .iface 114 (.pointer (some (ad p.1)))] 68 (0, 0)))
def CheckPost (ad : Int → Addr) (w : World) (p : Int × Int) (e : Ending) (w' : World) : Prop := (∃ v, e = .returned v ∧ ErrV ad w' v p) ∧ Below w.heap.size w w'
theorem ErrV.nil {ad : Int → Addr} {w : World} {v : Value} {p : Int × Int} (h : ErrV ad w v p) (h0 : p.1 = 0) : v = .nilIface := by
 rcases h with h | h | h
 · exact h.2.2
 · rcases h.1 with h | h | h <;> omega
 · rcases h.1 with h | h <;> omega
theorem ErrV.some {ad : Int → Addr} {w : World} {v : Value} {p : Int × Int} (h : ErrV ad w v p) (h0 : p.1 ≠ 0) : ∃ t u, v = .iface t u := by
 rcases h with h | h | h
 · exact absurd h.1 h0
 · exact ⟨_, _, h.2.2⟩
 · obtain ⟨_, _, _, b, h, _⟩ := h; exact ⟨_, _, h⟩
theorem ErrV.below {ad : Int → Addr} {w w' : World} {v : Value} {p : Int × Int} (h : ErrV ad w v p) (hb : Below w.heap.size w w') : ErrV ad w' v p := by
 rcases h with h | h | ⟨h1, h2, h3, b, hv, hx⟩
 · exact .inl h
 · exact .inr (.inl h)
 · exact .inr (.inr ⟨h1, h2, h3, b, hv, Box.below (W := w) (W' := w') hx hb⟩)
def ruleV (ad : Int → Addr) (c : Int) : Value := if c = 0 then .nilIface else .iface 114 (.pointer (some (ad c)))

set_option maxHeartbeats 1000000 in
set_option maxRecDepth 100000 in
theorem Rule_full (ad : Int → Addr) (A0 : Option Addr) (c0 t : Nat) (A1 : Option Addr) (c1 n : Nat) (a2 : Int) (v3 : Value) (x : S55) (A : Option Addr) (c : Nat) (w : World) (hg : Sents ad w) (ht : t ≤ 60) (hn : n ≤ 60) (hr : Kd.C (Kd.int .i64) w A x.f1.length x.f1) (hc : x.f1.length ≤ c) :
 Calls Tryd.prog 42 #[.agg #[.slice A0 t c0, .slice A1 n c1, .int .i64 a2, v3], .agg #[.int .i64 x.f0, .slice A x.f1.length c]] w fun e w' => e = .returned (ruleV ad (checkR t n x)) ∧ Below w.heap.size w w' := by
 obtain ⟨x0, x1⟩ := x
 dsimp only at hr hc ⊢
 have hB1 := (Box.new w #[.slice A0 t c0, .slice A1 n c1, .int .i64 a2, v3] 29).alloc (.cells #[.int .i64 x0, .slice A x1.length c] 55)
 have hb : Below w.heap.size w ((w.alloc (.cells #[.slice A0 t c0, .slice A1 n c1, .int .i64 a2, v3] 29)).alloc (.cells #[.int .i64 x0, .slice A x1.length c] 55)) := ((Below.refl _ w).alloc (Nat.le_refl _) _).alloc (by simp) _
 have hcall := ContS_calls A x1 c w.heap.size t n c0 c1 A0 A1 _ ht hn (hB1.cell 0 _ rfl) (hB1.cell 1 _ rfl) (Kd.C_below hr hb) hc
 obtain ⟨h0, h1, h2⟩ := hg.below hb
 have HB := Aside0.mk hb
 have H0 : ∀ w', Below ((w.alloc (.cells #[.slice A0 t c0, .slice A1 n c1, .int .i64 a2, v3] 29)).alloc (.cells #[.int .i64 x0, .slice A x1.length c] 55)).heap.size ((w.alloc (.cells #[.slice A0 t c0, .slice A1 n c1, .int .i64 a2, v3] 29)).alloc (.cells #[.int .i64 x0, .slice A x1.length c] 55)) w' → w'.cell? ⟨1, 0, none⟩ = some (.iface 114 (.pointer (some (ad 1)))) := fun w' hb' => (hb'.cell (World.block_lt_of_cell? _ _ h2)).trans h2
 by_cases k1 : x1.length ≤ 32
 · have b1 : decide ((32 : Int) < x1.length) = false := decide_eq_false (by omega)
   have b1' : decide (32 < x1.length) = false := decide_eq_false (by omega)
   by_cases k2 : x0 < 0
   · have b2 : decide (x0 < 0) = true := decide_eq_true k2
     have HE := Lib.hid (show ruleV ad (checkR t n ⟨x0, x1⟩) = .iface 114 (.pointer (some (ad 1))) by simp [ruleV, checkR, show ¬ 32 < x1.length from by omega, k2])
     clear hr hcall hB1 hb H0
     go_enter Tryd.func42, Tryd.ntmps42
     go_wp2_with fail
     go_ret
     exact ⟨by rw [HE.out]; rfl, HB.out⟩
   · have b2 : decide (x0 < 0) = false := decide_eq_false k2
     by_cases k3 : (n : Int) ≤ x0
     · have b3 : decide ((n : Int) ≤ x0) = true := decide_eq_true k3
       have HE := Lib.hid (show ruleV ad (checkR t n ⟨x0, x1⟩) = .iface 114 (.pointer (some (ad 1))) by simp [ruleV, checkR, show ¬ 32 < x1.length from by omega, k3])
       clear hr hcall hB1 hb H0
       go_enter Tryd.func42, Tryd.ntmps42
       go_wp2_with fail
       go_ret
       exact ⟨by rw [HE.out]; rfl, HB.out⟩
     · have b3 : decide ((n : Int) ≤ x0) = false := decide_eq_false k3
       cases hany : x1.any (outS t n) with
       | true =>
        rw [hany] at hcall
        have HE := Lib.hid (show ruleV ad (checkR t n ⟨x0, x1⟩) = .iface 114 (.pointer (some (ad 1))) by simp [ruleV, checkR, hany, show ¬ 32 < x1.length from by omega])
        have HC := Aside0.mk hcall
        have HH := Aside0.mk H0
        clear hr hcall hB1 hb hany H0
        go_enter Tryd.func42, Tryd.ntmps42
        go_wp2_with (go_at_call 53; (with_reducible refine HC.out.mono ?_); rintro e w' ⟨rfl, hb'⟩; have q2 := HH.out _ hb')
        go_ret
        exact ⟨by rw [HE.out]; rfl, HB.out.trans (hb'.mono HB.out.size)⟩
       | false =>
        rw [hany] at hcall
        have HE := Lib.hid (show ruleV ad (checkR t n ⟨x0, x1⟩) = .nilIface by simp [ruleV, checkR, hany, show ¬ 32 < x1.length from by omega, k2, k3])
        have HC := Aside0.mk hcall
        clear hr hcall hB1 hb hany H0
        go_enter Tryd.func42, Tryd.ntmps42
        go_wp2_with (go_at_call 53; (with_reducible refine HC.out.mono ?_); rintro e w' ⟨rfl, hb'⟩)
        go_ret
        exact ⟨by rw [HE.out]; rfl, HB.out.trans (hb'.mono HB.out.size)⟩
 · have b1 : decide ((32 : Int) < x1.length) = true := decide_eq_true (by omega)
   have b1' : decide (32 < x1.length) = true := decide_eq_true (by omega)
   have HE := Lib.hid (show ruleV ad (checkR t n ⟨x0, x1⟩) = .iface 114 (.pointer (some (ad 3))) by simp [ruleV, checkR, show 32 < x1.length from by omega])
   clear hr hcall hB1 hb H0
   go_enter Tryd.func42, Tryd.ntmps42
   go_wp2_with fail
   go_ret
   exact ⟨by rw [HE.out]; rfl, HB.out⟩
set_option maxHeartbeats 1500000 in
set_option maxRecDepth 100000 in
theorem Check_full (ad : Int → Addr) (k : Nat) (A0 : Option Addr) (c0 : Nat) (l0 : List ByteArray) (A1 : Option Addr) (c1 : Nat) (l1 : List ByteArray) (a2 : Int) (A3 : Option Addr) (c3 : Nat) (l3 : List S55) (b0 b1 : Bool) (w : World) (hG : Sents ad w) (hr0 : Kd.C Kd.string w A0 l0.length l0) (hc0 : l0.length ≤ c0) (hr1 : Kd.C Kd.string w A1 l1.length l1) (hc1 : l1.length ≤ c1) (hr3 : Kd.C k55 w A3 l3.length l3) (hc3 : l3.length ≤ c3)
 (hn0 : gram_names.f k l0 = some b0) (hn1 : gram_names.f k l1 = some b1) :
 Calls Tryd.prog 26 #[.agg #[.slice A0 l0.length c0, .slice A1 l1.length c1, .int .i64 a2, .slice A3 l3.length c3]] w (CheckPost ad w (chk b0 b1 l0.length l1.length a2 l3)) := by
 obtain ⟨x0, x1, x2⟩ := id hG
 obtain ⟨Tw, hT⟩ : ∃ Tw : World → Prop, ∀ W, Tw W ↔ (Below w.heap.size w W ∧ Box w.heap.size #[.slice A0 l0.length c0, .slice A1 l1.length c1, .int .i64 a2, .slice A3 l3.length c3] 29 W) := ⟨_, fun _ => Iff.rfl⟩
 have start : Tw (w.alloc (.cells #[.slice A0 l0.length c0, .slice A1 l1.length c1, .int .i64 a2, .slice A3 l3.length c3] 29)) := (hT _).2 ⟨(Below.refl _ w).alloc (Nat.le_refl _) _, Box.new w _ _⟩
 have cells : ∀ W, Tw W → W.cell? ⟨w.heap.size, 0, none⟩ = some (.slice A0 l0.length c0) ∧ W.cell? ⟨w.heap.size, 1, none⟩ = some (.slice A1 l1.length c1) ∧ W.cell? ⟨w.heap.size, 2, none⟩ = some (.int .i64 a2) ∧ W.cell? ⟨w.heap.size, 3, none⟩ = some (.slice A3 l3.length c3) ∧ W.cell? ⟨3, 0, none⟩ = some (.iface 114 (.pointer (some (ad 3)))) ∧ W.cell? ⟨9, 0, none⟩ = some (.iface 114 (.pointer (some (ad 10)))) ∧ W.cell? ⟨1, 0, none⟩ = some (.iface 114 (.pointer (some (ad 1)))) := by
  intro W hW
  have hb := ((hT W).1 hW).1
  have h3' := ((hT W).1 hW).2
  exact ⟨h3'.cell 0 _ rfl, h3'.cell 1 _ rfl, h3'.cell 2 _ rfl, h3'.cell 3 _ rfl, (hb.cell (World.block_lt_of_cell? w _ x0)).trans x0, (hb.cell (World.block_lt_of_cell? w _ x1)).trans x1, (hb.cell (World.block_lt_of_cell? w _ x2)).trans x2⟩
 have more : ∀ W W', Tw W → Below W.heap.size W W' → Tw W' := fun W W' h hb => (hT W').2 ⟨((hT W).1 h).1.trans (hb.mono ((hT W).1 h).1.size), ((hT W).1 h).2.below hb⟩
 have last : ∀ W, Tw W → Below w.heap.size w W := fun W h => ((hT W).1 h).1
 clear hT
 have key0 : ∀ W, Tw W → Calls Tryd.prog 41 #[.slice A0 l0.length c0] W fun e W => e = .returned (.bool b0) ∧ Aside0 (Tw W) ∧ W.cell? ⟨w.heap.size, 0, none⟩ = some (.slice A0 l0.length c0) ∧ W.cell? ⟨w.heap.size, 1, none⟩ = some (.slice A1 l1.length c1) ∧ W.cell? ⟨w.heap.size, 2, none⟩ = some (.int .i64 a2) ∧ W.cell? ⟨w.heap.size, 3, none⟩ = some (.slice A3 l3.length c3) ∧ W.cell? ⟨3, 0, none⟩ = some (.iface 114 (.pointer (some (ad 3)))) ∧ W.cell? ⟨9, 0, none⟩ = some (.iface 114 (.pointer (some (ad 10)))) ∧ W.cell? ⟨1, 0, none⟩ = some (.iface 114 (.pointer (some (ad 1)))) := by
  intro W hW
  refine (gram_names.calls k A0 c0 l0 b0 W (Kd.C_below hr0 (last W hW)) hc0 hn0).mono ?_
  rintro e w' ⟨he, hd⟩
  have := more W w' hW hd.below
  exact ⟨he, ⟨this⟩, cells _ this⟩
 have key1 : ∀ W, Tw W → Calls Tryd.prog 41 #[.slice A1 l1.length c1] W fun e W => e = .returned (.bool b1) ∧ Aside0 (Tw W) ∧ W.cell? ⟨w.heap.size, 0, none⟩ = some (.slice A0 l0.length c0) ∧ W.cell? ⟨w.heap.size, 1, none⟩ = some (.slice A1 l1.length c1) ∧ W.cell? ⟨w.heap.size, 2, none⟩ = some (.int .i64 a2) ∧ W.cell? ⟨w.heap.size, 3, none⟩ = some (.slice A3 l3.length c3) ∧ W.cell? ⟨3, 0, none⟩ = some (.iface 114 (.pointer (some (ad 3)))) ∧ W.cell? ⟨9, 0, none⟩ = some (.iface 114 (.pointer (some (ad 10)))) ∧ W.cell? ⟨1, 0, none⟩ = some (.iface 114 (.pointer (some (ad 1)))) := by
  intro W hW
  refine (gram_names.calls k A1 c1 l1 b1 W (Kd.C_below hr1 (last W hW)) hc1 hn1).mono ?_
  rintro e w' ⟨he, hd⟩
  have := more W w' hW hd.below
  exact ⟨he, ⟨this⟩, cells _ this⟩
 obtain ⟨s0, s1, s2, s3, s4, s5, s6⟩ := cells _ start
 have HR3 := Aside0.mk hr3
 have ST := Aside0.mk start
 have CE := Aside0.mk cells
 have MO := Aside0.mk more
 have LA := Aside0.mk last
 clear hr0 hr1 hr3 start cells more last hn0 hn1
 by_cases d1 : l0.length ≤ 60
 rotate_left
 · have e1 : decide ((60 : Int) < l0.length) = true := decide_eq_true (by omega)
   have e1' : decide (60 < l0.length) = true := decide_eq_true (by omega)
   clear key0 key1
   have HE := Lib.hid (show chk b0 b1 l0.length l1.length a2 l3 = (3, -1) by simp [chk, show 60 < l0.length + l1.length from by omega])
   go_enter Tryd.func26, Tryd.ntmps26
   go_wp2_with fail
   go_ret
   exact ⟨⟨_, rfl, by rw [HE.out]; exact .inr (.inl ⟨by simp, rfl, rfl⟩)⟩, LA.out _ ST.out⟩
 have e1 : decide ((60 : Int) < l0.length) = false := decide_eq_false (by omega)
 have e1' : decide (60 < l0.length) = false := decide_eq_false (by omega)
 by_cases d2 : l0.length + l1.length ≤ 60
 rotate_left
 · have e2 : decide ((60 : Int) - l0.length < l1.length) = true := decide_eq_true (by omega)
   clear key0 key1
   have HE := Lib.hid (show chk b0 b1 l0.length l1.length a2 l3 = (3, -1) by simp [chk, show 60 < l0.length + l1.length from by omega])
   go_enter Tryd.func26, Tryd.ntmps26
   go_wp2_with fail
   go_ret
   exact ⟨⟨_, rfl, by rw [HE.out]; exact .inr (.inl ⟨by simp, rfl, rfl⟩)⟩, LA.out _ ST.out⟩
 have e2 : decide ((60 : Int) - l0.length < l1.length) = false := decide_eq_false (by omega)
 by_cases d3 : l3.length ≤ 120
 rotate_left
 · have e3 : decide ((120 : Int) < l3.length) = true := decide_eq_true (by omega)
   have e3' : decide (120 < l3.length) = true := decide_eq_true (by omega)
   clear key0 key1
   have HE := Lib.hid (show chk b0 b1 l0.length l1.length a2 l3 = (3, -1) by simp [chk, show 120 < l3.length from by omega])
   go_enter Tryd.func26, Tryd.ntmps26
   go_wp2_with fail
   go_ret
   exact ⟨⟨_, rfl, by rw [HE.out]; exact .inr (.inl ⟨by simp, rfl, rfl⟩)⟩, LA.out _ ST.out⟩
 have e3 : decide ((120 : Int) < l3.length) = false := decide_eq_false (by omega)
 have e3' : decide (120 < l3.length) = false := decide_eq_false (by omega)
 have K0 := Aside0.mk key0
 have K1 := Aside0.mk key1
 clear key0 key1
 cases b0
 · skip
   have HE := Lib.hid (show chk false b1 l0.length l1.length a2 l3 = (10, -1) by simp [chk, show ¬ 60 < l0.length + l1.length from by omega, show ¬ 120 < l3.length from by omega])
   go_enter Tryd.func26, Tryd.ntmps26
   go_wp2_with (first | (go_at_call 41; (with_reducible refine (K0.out _ ST.out).mono ?_); rintro e w1 ⟨rfl, z1, f0, f1, f2, f3, f4, f5, f6⟩))
   go_ret
   exact ⟨⟨_, rfl, by rw [HE.out]; exact .inr (.inl ⟨by simp, rfl, rfl⟩)⟩, LA.out _ z1.out⟩
 cases b1
 · skip
   have HE := Lib.hid (show chk true false l0.length l1.length a2 l3 = (10, -1) by simp [chk, show ¬ 60 < l0.length + l1.length from by omega, show ¬ 120 < l3.length from by omega])
   go_enter Tryd.func26, Tryd.ntmps26
   go_wp2_with (first | (go_at_call 41; (with_reducible refine (K0.out _ ST.out).mono ?_); rintro e w1 ⟨rfl, z1, f0, f1, f2, f3, f4, f5, f6⟩) | (go_at_call 41; (with_reducible refine (K1.out _ z1.out).mono ?_); rintro e w2 ⟨rfl, z2, g0, g1, g2, g3, g4, g5, g6⟩))
   go_ret
   exact ⟨⟨_, rfl, by rw [HE.out]; exact .inr (.inl ⟨by simp, rfl, rfl⟩)⟩, LA.out _ z2.out⟩
 by_cases d4 : a2 < 0
 · have e4 : decide (a2 < 0) = true := decide_eq_true d4
   have HE := Lib.hid (show chk true true l0.length l1.length a2 l3 = (1, -1) by simp [chk, show ¬ 60 < l0.length + l1.length from by omega, show ¬ 120 < l3.length from by omega, d4])
   go_enter Tryd.func26, Tryd.ntmps26
   go_wp2_with (first | (go_at_call 41; (with_reducible refine (K0.out _ ST.out).mono ?_); rintro e w1 ⟨rfl, z1, f0, f1, f2, f3, f4, f5, f6⟩) | (go_at_call 41; (with_reducible refine (K1.out _ z1.out).mono ?_); rintro e w2 ⟨rfl, z2, g0, g1, g2, g3, g4, g5, g6⟩))
   go_ret
   exact ⟨⟨_, rfl, by rw [HE.out]; exact .inr (.inl ⟨by simp, rfl, rfl⟩)⟩, LA.out _ z2.out⟩
 have e4 : decide (a2 < 0) = false := decide_eq_false d4
 by_cases d5 : (l1.length : Int) ≤ a2
 · have e5 : decide ((l1.length : Int) ≤ a2) = true := decide_eq_true d5
   have HE := Lib.hid (show chk true true l0.length l1.length a2 l3 = (1, -1) by simp [chk, show ¬ 60 < l0.length + l1.length from by omega, show ¬ 120 < l3.length from by omega, d5])
   go_enter Tryd.func26, Tryd.ntmps26
   go_wp2_with (first | (go_at_call 41; (with_reducible refine (K0.out _ ST.out).mono ?_); rintro e w1 ⟨rfl, z1, f0, f1, f2, f3, f4, f5, f6⟩) | (go_at_call 41; (with_reducible refine (K1.out _ z1.out).mono ?_); rintro e w2 ⟨rfl, z2, g0, g1, g2, g3, g4, g5, g6⟩))
   go_ret
   exact ⟨⟨_, rfl, by rw [HE.out]; exact .inr (.inl ⟨by simp, rfl, rfl⟩)⟩, LA.out _ z2.out⟩
 have e5 : decide ((l1.length : Int) ≤ a2) = false := decide_eq_false d5
 have HE := Lib.hid (show chk true true l0.length l1.length a2 l3 = chkRs l0.length l1.length l3 0 by simp [chk, show ¬ 60 < l0.length + l1.length from by omega, show ¬ 120 < l3.length from by omega, d4, d5])
 go_enter Tryd.func26, Tryd.ntmps26
 go_wp2_with (first | (go_at_call 41; (with_reducible refine (K0.out _ ST.out).mono ?_); rintro e w1 ⟨rfl, z1, f0, f1, f2, f3, f4, f5, f6⟩) | (go_at_call 41; (with_reducible refine (K1.out _ z1.out).mono ?_); rintro e w2 ⟨rfl, z2, g0, g1, g2, g3, g4, g5, g6⟩))
 go_loopw [3, 4, 5, 53] (fun _ _ _ i wr => ∃ j : Nat, j ≤ l3.length ∧ i = .int .i64 j ∧ Aside0 (Tw wr) ∧ Hid (chkRs l0.length l1.length (l3.drop j) j = chkRs l0.length l1.length l3 0)) (fun _ _ _ i _ => l3.length - (intOf i).toNat)
 case atStart => exact ⟨0, Nat.zero_le _, rfl, z2, Lib.hid rfl⟩
 case round =>
  obtain ⟨j, hj, rfl, htw, hok⟩ := hrel
  clear f0 f1 f2 f3 f4 f5 f6 g0 g1 g2 g3 g4 g5 g6 s0 s1 s2 s3 s4 s5 s6
  by_cases hlt : j < l3.length
  · obtain ⟨f0, f1, f2, f3, f4, f5, f6⟩ := CE.out wr htw.out
    obtain ⟨ad', A, cc, rfl, h0, h1, h2, h3⟩ := at_T55 (Kd.C_below HR3.out (LA.out wr htw.out)) (j : Int) (by omega) (by omega)
    have q0 : rd_T55 l3 (j : Int) = l3[j] := by simp [rd_T55, List.getD_eq_getElem?_getD, List.getElem?_eq_getElem hlt]
    have hn := chkRs_drop l0.length l1.length l3 j hlt
    rw [Int.toNat_natCast] at h0 h1
    rw [q0] at h0 h1 h2 h3
    generalize l3[j] = x at h0 h1 h2 h3 hn
    have hGr : Sents ad wr := ⟨f4, f5, f6⟩
    have f0a := fun o => Lib.cell?_alloc_some o f0
    have f1a := fun o => Lib.cell?_alloc_some o f1
    have f2a := fun o => Lib.cell?_alloc_some o f2
    have f3a := fun o => Lib.cell?_alloc_some o f3
    have hcall : ∀ W, Below wr.heap.size wr W → Calls Tryd.prog 42 #[.agg #[.slice A0 l0.length c0, .slice A1 l1.length c1, .int .i64 a2, .slice (some ad') l3.length c3], .agg #[.int .i64 x.f0, .slice A x.f1.length cc]] W fun e w' => e = .returned (ruleV ad (checkR l0.length l1.length x)) ∧ Aside0 (Tw w') := by
     intro W hW
     refine (Rule_full ad A0 c0 l0.length A1 c1 l1.length a2 _ x A cc W (hGr.below hW) (by omega) (by omega) (Kd.C_below h3 hW) h2).mono ?_
     rintro e w' ⟨he, hb⟩
     exact ⟨he, ⟨MO.out _ _ (MO.out _ _ htw.out hW) hb⟩⟩
    by_cases hq : checkR l0.length l1.length x = 0
    · rw [if_pos hq] at hn
      rw [hq, show ruleV ad 0 = .nilIface from rfl] at hcall
      have HC := Aside0.mk hcall
      have HN := Lib.hid hn
      clear hcall h3 q0 hq hn hGr
      go_wp2_with (go_at_call 42; (with_reducible refine (HC.out _ ((Below.refl _ wr).alloc (Nat.le_refl _) _)).mono ?_); rintro e w' ⟨rfl, t3⟩)
      go_roundw
      case measure => simp [intOf]; omega
      case rel => exact ⟨j + 1, by omega, rfl, t3, Lib.hid (HN.out.symm.trans hok.out)⟩
    · rw [if_neg hq] at hn
      have hc : checkR l0.length l1.length x = 3 ∨ checkR l0.length l1.length x = 1 := (checkR_cases l0.length l1.length x).elim (fun h => absurd h.1 hq) (fun h => h.1)
      rw [show ruleV ad (checkR l0.length l1.length x) = .iface 114 (.pointer (some (ad (checkR l0.length l1.length x)))) from if_neg hq] at hcall
      generalize checkR l0.length l1.length x = c at hcall hn hc
      have HC := Aside0.mk hcall
      have HN := Lib.hid (hn.symm.trans hok.out)
      have HCC := Aside0.mk hc
      clear hcall h3 q0 hq hn hGr hc
      go_wp2_with (go_at_call 42; (with_reducible refine (HC.out _ ((Below.refl _ wr).alloc (Nat.le_refl _) _)).mono ?_); rintro e w' ⟨rfl, t3⟩)
      go_ret
      exact ⟨⟨_, rfl, by rw [HE.out, ← HN.out]; exact .inr (.inr ⟨HCC.out, by simp, by simp; omega, _, rfl, heap_alloc_new _ _⟩)⟩, (LA.out _ t3.out).alloc (LA.out _ t3.out).size _⟩
  · have hjn : j = l3.length := by omega
    subst hjn
    have HN := Lib.hid (show chkRs l0.length l1.length l3 0 = (0, -1) by have := hok.out; rw [List.drop_length] at this; exact this.symm)
    go_wp2_with fail
    go_ret
    exact ⟨⟨_, rfl, by rw [HE.out, HN.out]; exact .inl ⟨rfl, rfl, rfl⟩⟩, LA.out _ htw.out⟩
theorem chkRs_ok (t n : Nat) : ∀ (R : List S55) (j : Nat), (chkRs t n R j).1 = 0 → ∀ x ∈ R, okR t n x = true
 | [], _, _, x, hx => by cases hx
 | y :: R, j, h, x, hx => by
  unfold chkRs at h
  rcases checkR_cases t n y with ⟨h0, hok⟩ | ⟨h0, _⟩
  · rw [if_pos h0] at h
    rcases List.mem_cons.1 hx with rfl | hx
    · exact hok
    · exact chkRs_ok t n R (j + 1) h x hx
  · rw [if_neg (by rcases h0 with h0 | h0 <;> omega)] at h
    rcases h0 with h0 | h0 <;> (dsimp only at h; omega)
theorem chk_ok {b0 b1 : Bool} {n0 n1 : Nat} {a2 : Int} {R : List S55} (h : (chk b0 b1 n0 n1 a2 R).1 = 0) : n0 + n1 ≤ 60 ∧ R.length ≤ 120 ∧ b0 = true ∧ b1 = true ∧ 0 ≤ a2 ∧ a2 < (n1 : Int) ∧ ∀ x ∈ R, okR n0 n1 x = true := by
 unfold chk at h
 split at h
 · simp at h
 · split at h
   · simp at h
   · split at h
     · simp at h
     · rename_i h1 h2 h3
       simp only [Bool.and_eq_false_iff, not_or, Bool.not_eq_false] at h2
       exact ⟨by omega, by omega, h2.1, h2.2, by omega, by omega, chkRs_ok _ _ R 0 h⟩
end Go.Proofs.YtaeaookonhaliaaDoor.B
/- errors.Is at a rule error, after the kit's worked example. -/
set_option linter.unusedVariables false
set_option linter.unusedSimpArgs false
namespace Go.Proofs.YtaeaookonhaliaaDoor.E
open Go.RowKit Go.Extern.Stop Go.Stop Go.Extern
theorem noIsWR (v : Value) (xT : TypeId) (w : World) : (Instr.typeAssert (.iface 66 v) xT 99 true).run Tryd.prog w = .ok (.tuple #[.nilIface, .bool false]) w := run_typeAssert_lacksB Tryd.underlying99 (by kernel_rfl) (by kernel_rfl) v xT w
theorem hasUnwrapWR (v : Value) (xT : TypeId) (w : World) : (Instr.typeAssert (.iface 66 v) xT 102 true).run Tryd.prog w = .ok (.tuple #[.iface 66 v, .bool true]) w := run_typeAssert_hasB Tryd.underlying102 (by kernel_rfl) v xT w
theorem methodUnwrapR (v : Value) (w : World) : (Go.method 248 66 v "Unwrap").run Tryd.prog w = .ok (78, v) w := by kernel_rfl

theorem isR_same (pb po : Nat) (b : Addr) (w : World) (h1 : w.cell? ⟨pb, po + 1, none⟩ = some (.iface 114 (.pointer (some b)))) :
 Calls Tryd.prog 35 #[.iface 66 (.pointer (some ⟨pb, po, none⟩)), .iface 114 (.pointer (some b))] w fun e w' => e = .returned (.bool true) ∧ w = w' := by
 obtain ⟨i, hi, hcmp⟩ := Option.map_eq_some_iff.1 isComp
 obtain ⟨j, hj, hjs⟩ := Option.map_eq_some_iff.1 isSize
 have h8 := @run_callFunc_extern Tryd.prog 45 _ Extern.ReflectliteType.typeOf Tryd.func45 (by kernel_rfl) (by kernel_rfl) (by kernel_rfl) (by kernel_rfl)
 have h32 := @run_callFunc_extern Tryd.prog 84 _ compF Tryd.func84 (by kernel_rfl) (by kernel_rfl) (by kernel_rfl) (by kernel_rfl)
 have tT := isTypeOf
 have cT := isComparable
 have mR := isMethodComparable
 have nE := noIsE
 have uE := noUnwrapE
 have vE := noUnwrapsE
 have nW := noIsWR
 have uW := hasUnwrapWR
 have mU := methodUnwrapR
 have heq := run_eql_iface_ptr_same (P := Tryd.prog) w b Tryd.underlying32 Tryd.underlying114 hi hcmp hj
 have hty := run_eql_iface_types (P := Tryd.prog) 66 114 (.pointer (some ⟨pb, po, none⟩)) (.pointer (some b)) Tryd.underlying32 (by decide) w
 go_enter Tryd.func35, Tryd.ntmps35
 go_wp2
 refine wp_loop_rounds 2 ?_
 rw [rounds_succ]
 go_wp2
 rw [rounds_succ]
 go_wp2
 go_ret
 exact ⟨rfl, rfl⟩

theorem isR_other (pb po : Nat) (b a : Addr) (ca cb : Array Value) (ta tb : TypeId) (w : World) (h1 : w.cell? ⟨pb, po + 1, none⟩ = some (.iface 114 (.pointer (some a)))) (hne : a ≠ b) (ha : w.heap[a.block]? = some (.cells ca ta (0, 0))) (hb : w.heap[b.block]? = some (.cells cb tb (0, 0))) :
 Calls Tryd.prog 35 #[.iface 66 (.pointer (some ⟨pb, po, none⟩)), .iface 114 (.pointer (some b))] w fun e w' => e = .returned (.bool false) ∧ w = w' := by
 obtain ⟨i, hi, hcmp⟩ := Option.map_eq_some_iff.1 isComp
 obtain ⟨j, hj, hjs⟩ := Option.map_eq_some_iff.1 isSize
 have h8 := @run_callFunc_extern Tryd.prog 45 _ Extern.ReflectliteType.typeOf Tryd.func45 (by kernel_rfl) (by kernel_rfl) (by kernel_rfl) (by kernel_rfl)
 have h32 := @run_callFunc_extern Tryd.prog 84 _ compF Tryd.func84 (by kernel_rfl) (by kernel_rfl) (by kernel_rfl) (by kernel_rfl)
 have tT := isTypeOf
 have cT := isComparable
 have mR := isMethodComparable
 have nE := noIsE
 have uE := noUnwrapE
 have vE := noUnwrapsE
 have nW := noIsWR
 have uW := hasUnwrapWR
 have mU := methodUnwrapR
 have heq := run_eql_iface_ptr_other (P := Tryd.prog) w Tryd.underlying32 Tryd.underlying114 hi hcmp hj (by rw [hjs]; decide) hne ha hb
 have hty := run_eql_iface_types (P := Tryd.prog) 66 114 (.pointer (some ⟨pb, po, none⟩)) (.pointer (some b)) Tryd.underlying32 (by decide) w
 go_enter Tryd.func35, Tryd.ntmps35
 go_wp2
 refine wp_loop_rounds 2 ?_
 rw [rounds_succ]
 go_wp2
 rw [rounds_succ]
 go_wp2
 go_ret
 exact ⟨rfl, rfl⟩
end Go.Proofs.YtaeaookonhaliaaDoor.E
/- errors.As at a rule error, after the kit's worked example. -/
set_option linter.unusedVariables false
set_option linter.unusedSimpArgs false
namespace Go.Proofs.YtaeaookonhaliaaDoor.E
open Go.RowKit Go.Extern.Stop Go.Stop Go.Extern

theorem as_nilR (t : Value) (w : World) :
 Calls Tryd.prog 36 #[.nilIface, t] w fun e w' => e = .returned (.bool false) ∧ w' = w := by
 go_enter Tryd.func36, Tryd.ntmps36
 go_wp2
 go_ret
 exact ⟨rfl, rfl⟩

theorem valueOf27R (t : Addr) (w : World) : (ReflectliteValue.unpack (.iface 73 (.pointer (some t)))).run Tryd.prog w
 = .ok (.agg #[.pointer (some ⟨16, 73, none⟩), .pointer (some ⟨w.heap.size, 0, none⟩), .int .u64 150]) (w.alloc (.cells #[.pointer (some t)] 73)) := by kernel_rfl
theorem type27R (a : Addr) (w : World) : (ReflectliteValue.methodAny (ReflectliteValue.valueError "reflectlite.Value.Type" 0) (fun t _ _ _ => ReflectliteType.toType t) #[.agg #[.pointer (some ⟨16, 73, none⟩), .pointer (some a), .int .u64 150]]).run Tryd.prog w
 = .ok (.iface 97 (.agg #[.pointer (some ⟨16, 73, none⟩)])) w := by kernel_rfl
theorem methodKindR (h : Value) (w : World) : (Go.method 248 97 (.agg #[h]) "Kind").run Tryd.prog w = .ok (74, h) w := by kernel_rfl
theorem kind27R (w : World) : ((ReflectliteType.abiMethod fun t => (fun a : Nat => Value.int IntKind.u8 (a : Int)) <$> Rtype.kind t) #[.pointer (some ⟨16, 73, none⟩)]).run Tryd.prog w = .ok (.int .u8 22) w := by kernel_rfl
theorem kind25R (w : World) : ((ReflectliteType.abiMethod fun t => (fun a : Nat => Value.int IntKind.u8 (a : Int)) <$> Rtype.kind t) #[.pointer (some ⟨16, 66, none⟩)]).run Tryd.prog w = .ok (.int .u8 22) w := by kernel_rfl

theorem rlmR (z : Sem Value) (f : TypeId → Addr → Nat → Nat → Sem Value) (v : Value) :
 ReflectliteValue.method z f #[v] = (do match ← ReflectliteValue.parts v with | none => z | some (t, a, fl) => f t a fl (fl % 32)) := rfl
theorem parts27R (a : Addr) (w : World) : (ReflectliteValue.parts (.agg #[.pointer (some ⟨16, 73, none⟩), .pointer (some a), .int .u64 150])).run Tryd.prog w = .ok (some (73, a, 150)) w := by kernel_rfl
theorem isNil27R (a p : Addr) (W : World) (ha : W.cell? a = some (.pointer (some p))) :
 (ReflectliteValue.method (ReflectliteValue.valueError "reflectlite.Value.IsNil" 0) ReflectliteValue.isNil #[.agg #[.pointer (some ⟨16, 73, none⟩), .pointer (some a), .int .u64 150]]).run Tryd.prog W = .ok (.bool false) W := by
 rw [rlmR]
 simp only [Sem.run_bind, parts27R, Result.andThen]
 simp [ReflectliteValue.isNil, loadVar, isAgg, underlying, Tryd.underlying73, ha, Result.andThen]

theorem methodElemR (h : Value) (w : World) : (Go.method 248 97 (.agg #[h]) "Elem").run Tryd.prog w = .ok (85, .agg #[h]) w := by kernel_rfl
theorem methodImplementsR (h : Value) (w : World) : (Go.method 248 97 (.agg #[h]) "Implements").run Tryd.prog w = .ok (86, .agg #[h]) w := by kernel_rfl
theorem methodAssignableToR (h : Value) (w : World) : (Go.method 248 97 (.agg #[h]) "AssignableTo").run Tryd.prog w = .ok (83, .agg #[h]) w := by kernel_rfl
theorem elem27R (w : World) : (ReflectliteType.method ReflectliteType.elem #[.agg #[.pointer (some ⟨16, 73, none⟩)]]).run Tryd.prog w = .ok (.iface 97 (.agg #[.pointer (some ⟨16, 66, none⟩)])) w := by kernel_rfl
theorem implements25R (w : World) : (ReflectliteType.relation "Implements" ReflectliteType.implements_ #[.agg #[.pointer (some ⟨16, 66, none⟩)], .iface 97 (.agg #[.pointer (some ⟨16, 32, none⟩)])]).run Tryd.prog w = .ok (.bool true) w := by kernel_rfl
theorem typeOf25R (v : Value) (w : World) : (ReflectliteType.typeOf #[.iface 66 v]).run Tryd.prog w = .ok (.iface 97 (.agg #[.pointer (some ⟨16, 66, none⟩)])) w := by kernel_rfl
theorem assignable25R (w : World) : (ReflectliteType.relation "AssignableTo" ReflectliteType.assignableTo #[.agg #[.pointer (some ⟨16, 66, none⟩)], .iface 97 (.agg #[.pointer (some ⟨16, 66, none⟩)])]).run Tryd.prog w = .ok (.bool true) w := by kernel_rfl
theorem valueOf25R (e : Addr) (w : World) : (ReflectliteValue.unpack (.iface 66 (.pointer (some e)))).run Tryd.prog w
 = .ok (.agg #[.pointer (some ⟨16, 66, none⟩), .pointer (some ⟨w.heap.size, 0, none⟩), .int .u64 150]) (w.alloc (.cells #[.pointer (some e)] 66)) := by kernel_rfl

theorem elemOf27R (w : World) : (Rtype.elem? 73).run Tryd.prog w = .ok (some 66) w := by kernel_rfl
theorem mk25R (p : Addr) (w : World) : (ReflectliteValue.mk 66 p ReflectliteValue.flagAddr).run Tryd.prog w = .ok (.agg #[.pointer (some ⟨16, 66, none⟩), .pointer (some p), .int .u64 406]) w := by kernel_rfl
theorem elemV27R (a p : Addr) (W : World) (ha : W.cell? a = some (.pointer (some p))) :
 (ReflectliteValue.method (ReflectliteValue.valueError "reflectlite.Value.Elem" 0) ReflectliteValue.elem #[.agg #[.pointer (some ⟨16, 73, none⟩), .pointer (some a), .int .u64 150]]).run Tryd.prog W
  = .ok (.agg #[.pointer (some ⟨16, 66, none⟩), .pointer (some p), .int .u64 406]) W := by
 rw [rlmR]
 simp only [Sem.run_bind, parts27R, Result.andThen]
 simp [ReflectliteValue.elem, loadVar, isAgg, underlying, Tryd.underlying73, ha, Result.andThen, elemOf27R, mk25R]
theorem rlsR (v x : Value) : ReflectliteValue.set #[v, x] = (do
 let (some (dst, a, fl), some (src, b, _)) := (← ReflectliteValue.parts v, ← ReflectliteValue.parts x)
  | unsupported (.noEntry "extern/(internal/reflectlite.Value).Set.zeroValue")
 if fl / ReflectliteValue.flagAddr % 2 == 0 then unsupported (.noEntry "extern/(internal/reflectlite.Value).Set.unaddressable")
 let val ← loadVar src b
 if ← Rtype.directlyAssignable dst src then storeVar dst a val
 else if ← Rtype.implements dst src then
  if (← Rtype.kind src) == 20 then
   match val with
   | .nilIface => unsupported (.noEntry "extern/reflectlite: a nil value of one interface type handed on as a value of another")
   | _ => storeVar dst a val
  else storeVar dst a (.iface src val)
 else panicString ("reflectlite.Set: value of type " ++ (← Rtype.spelt src) ++ " is not assignable to type " ++ (← Rtype.spelt dst))
 pure (.tuple #[])) := rfl
theorem parts25aR (a : Addr) (w : World) : (ReflectliteValue.parts (.agg #[.pointer (some ⟨16, 66, none⟩), .pointer (some a), .int .u64 406])).run Tryd.prog w = .ok (some (66, a, 406)) w := by kernel_rfl
theorem parts25R (a : Addr) (w : World) : (ReflectliteValue.parts (.agg #[.pointer (some ⟨16, 66, none⟩), .pointer (some a), .int .u64 150])).run Tryd.prog w = .ok (some (66, a, 150)) w := by kernel_rfl
theorem direct25R (w : World) : (Rtype.directlyAssignable 66 66).run Tryd.prog w = .ok true w := by kernel_rfl
theorem set25R (ta b e : Addr) (old : Value) (W : World) (hb : W.cell? b = some (.pointer (some e))) (ht : W.cell? ta = some old) (hf : W.frozen? ta = false) :
 (ReflectliteValue.set #[.agg #[.pointer (some ⟨16, 66, none⟩), .pointer (some ta), .int .u64 406], .agg #[.pointer (some ⟨16, 66, none⟩), .pointer (some b), .int .u64 150]]).run Tryd.prog W
  = .ok (.tuple #[]) (W.setCell ta (.pointer (some e))) := by
 rw [rlsR]
 simp only [Sem.run_bind, parts25aR, parts25R, Result.andThen]
 simp [ReflectliteValue.flagAddr, loadVar, isAgg, underlying, Tryd.underlying66, hb, Result.andThen, direct25R, storeVar, Value.cells, storeCells, Addr.add]
 rw [run_store Tryd.prog W ta _ _ (by rfl)]
 simp [ht, hf]

set_option maxHeartbeats 4000000 in
theorem as_hitR (e t : Addr) (old : Value) (w : World) (hg : w.cell? ⟨15, 0, none⟩ = some (.iface 97 (.agg #[.pointer (some ⟨16, 32, none⟩)]))) (ht0 : w.cell? t = some old) (hf0 : w.frozen? t = false) :
 Calls Tryd.prog 36 #[.iface 66 (.pointer (some e)), .iface 73 (.pointer (some t))] w fun ev w' => ev = .returned (.bool true) ∧ w' = ((((w.alloc (.cells #[.pointer (some t)] 73)).alloc (.cells #[.pointer (some ⟨16, 73, none⟩), .pointer (some ⟨w.heap.size, 0, none⟩), .int .u64 150] 87)).alloc (.cells #[.pointer (some ⟨16, 73, none⟩), .pointer (some ⟨w.heap.size, 0, none⟩), .int .u64 150] 87)).alloc (.cells #[.pointer (some e)] 66)).setCell t (.pointer (some e)) := by
 have h6 := @run_callFunc_extern Tryd.prog 47 _ (fun args => ReflectliteValue.unpack (args.getD 0 (.tuple #[]))) Tryd.func47 (by kernel_rfl) (by kernel_rfl) (by kernel_rfl) (by kernel_rfl)
 have h7 := @run_callFunc_extern Tryd.prog 48 _ (ReflectliteValue.methodAny (ReflectliteValue.valueError "reflectlite.Value.Type" 0) (fun t _ _ _ => ReflectliteType.toType t)) Tryd.func48 (by kernel_rfl) (by kernel_rfl) (by kernel_rfl) (by kernel_rfl)
 have h8 := @run_callFunc_extern Tryd.prog 49 _ (ReflectliteValue.method (ReflectliteValue.valueError "reflectlite.Value.IsNil" 0) ReflectliteValue.isNil) Tryd.func49 (by kernel_rfl) (by kernel_rfl) (by kernel_rfl) (by kernel_rfl)
 have h27 := @run_callFunc_extern Tryd.prog 74 _ (ReflectliteType.abiMethod fun t => do pure (.int .u8 (← Rtype.kind t))) Tryd.func74 (by kernel_rfl) (by kernel_rfl) (by kernel_rfl) (by kernel_rfl)
 have h37 := @run_callFunc_extern Tryd.prog 85 _ (ReflectliteType.method ReflectliteType.elem) Tryd.func85 (by kernel_rfl) (by kernel_rfl) (by kernel_rfl) (by kernel_rfl)
 have h38 := @run_callFunc_extern Tryd.prog 86 _ (ReflectliteType.relation "Implements" ReflectliteType.implements_) Tryd.func86 (by kernel_rfl) (by kernel_rfl) (by kernel_rfl) (by kernel_rfl)
 have h10 := @run_callFunc_extern Tryd.prog 45 _ ReflectliteType.typeOf Tryd.func45 (by kernel_rfl) (by kernel_rfl) (by kernel_rfl) (by kernel_rfl)
 have h35 := @run_callFunc_extern Tryd.prog 83 _ (ReflectliteType.relation "AssignableTo" ReflectliteType.assignableTo) Tryd.func83 (by kernel_rfl) (by kernel_rfl) (by kernel_rfl) (by kernel_rfl)
 have h11 := @run_callFunc_extern Tryd.prog 55 _ (ReflectliteValue.method (ReflectliteValue.valueError "reflectlite.Value.Elem" 0) ReflectliteValue.elem) Tryd.func55 (by kernel_rfl) (by kernel_rfl) (by kernel_rfl) (by kernel_rfl)
 have h12 := @run_callFunc_extern Tryd.prog 56 _ ReflectliteValue.set Tryd.func56 (by kernel_rfl) (by kernel_rfl) (by kernel_rfl) (by kernel_rfl)
 have tO := typeOf25R
 have mA := methodAssignableToR
 have a25 := assignable25R
 have v25 := valueOf25R
 have f6 := valueOf27R
 have f7 := type27R
 have mK := methodKindR
 have mE := methodElemR
 have mI := methodImplementsR
 have k27 := kind27R
 have k25 := kind25R
 have e27 := elem27R
 have i25 := implements25R
 have n8 := isNil27R ⟨w.heap.size, 0, none⟩ t ((w.alloc (.cells #[.pointer (some t)] 73)).alloc (.cells #[.pointer (some ⟨16, 73, none⟩), .pointer (some ⟨w.heap.size, 0, none⟩), .int .u64 150] 87)) (by simp)
 have hlt : 15 < w.heap.size := by
  exact World.block_lt_of_cell? w _ hg
 have hg2 : ((w.alloc (.cells #[.pointer (some t)] 73)).alloc (.cells #[.pointer (some ⟨16, 73, none⟩), .pointer (some ⟨w.heap.size, 0, none⟩), .int .u64 150] 87)).cell? ⟨15, 0, none⟩ = some (.iface 97 (.agg #[.pointer (some ⟨16, 32, none⟩)])) := by
  rw [World.cell?_alloc_lt _ _ ⟨15, 0, none⟩ (by simp; omega), World.cell?_alloc_lt _ _ ⟨15, 0, none⟩ hlt]; exact hg
 have htl : t.block < w.heap.size := by
  rcases Nat.lt_or_ge t.block w.heap.size with h | h
  · exact h
  · simp [World.cell?, Array.getElem?_eq_none h] at ht0
 have el := elemV27R ⟨w.heap.size, 0, none⟩ t (((w.alloc (.cells #[.pointer (some t)] 73)).alloc (.cells #[.pointer (some ⟨16, 73, none⟩), .pointer (some ⟨w.heap.size, 0, none⟩), .int .u64 150] 87)).alloc (.cells #[.pointer (some ⟨16, 73, none⟩), .pointer (some ⟨w.heap.size, 0, none⟩), .int .u64 150] 87)) (by rw [World.cell?_alloc_lt _ _ ⟨w.heap.size, 0, none⟩ (by simp; omega)]; simp)
 have st := set25R t ⟨w.heap.size + 1 + 1 + 1, 0, none⟩ e old ((((w.alloc (.cells #[.pointer (some t)] 73)).alloc (.cells #[.pointer (some ⟨16, 73, none⟩), .pointer (some ⟨w.heap.size, 0, none⟩), .int .u64 150] 87)).alloc (.cells #[.pointer (some ⟨16, 73, none⟩), .pointer (some ⟨w.heap.size, 0, none⟩), .int .u64 150] 87)).alloc (.cells #[.pointer (some e)] 66))
  (by rw [World.cell?_alloc_at _ _ _ _ (by simp)]; rfl)
  (by rw [World.cell?_alloc_lt _ _ t (by simp; omega), World.cell?_alloc_lt _ _ t (by simp; omega), World.cell?_alloc_lt _ _ t (by simp; omega), World.cell?_alloc_lt _ _ t htl]; exact ht0)
  (by rw [World.frozen?_alloc_old _ _ t (by simp; omega), World.frozen?_alloc_old _ _ t (by simp; omega), World.frozen?_alloc_old _ _ t (by simp; omega), World.frozen?_alloc_old _ _ t (Nat.ne_of_lt htl)]; exact hf0)
 go_enter Tryd.func36, Tryd.ntmps36
 go_wp2
 refine wp_loop_rounds 1 ?_
 rw [rounds_succ]
 go_wp2
 go_ret
 exact ⟨rfl, rfl⟩
theorem typeOfER (v : Value) (w : World) : (ReflectliteType.typeOf #[.iface 114 v]).run Tryd.prog w = .ok (.iface 97 (.agg #[.pointer (some ⟨16, 114, none⟩)])) w := by kernel_rfl
theorem assignableER (w : World) : (ReflectliteType.relation "AssignableTo" ReflectliteType.assignableTo #[.agg #[.pointer (some ⟨16, 114, none⟩)], .iface 97 (.agg #[.pointer (some ⟨16, 66, none⟩)])]).run Tryd.prog w = .ok (.bool false) w := by kernel_rfl
theorem noAsER (v : Value) (xT : TypeId) (w : World) : (Instr.typeAssert (.iface 114 v) xT 108 true).run Tryd.prog w = .ok (.tuple #[.nilIface, .bool false]) w := run_typeAssert_lacksB Tryd.underlying108 (by kernel_rfl) (by kernel_rfl) v xT w
set_option maxHeartbeats 4000000 in
theorem as_esR (a t : Addr) (w : World) (hg : w.cell? ⟨15, 0, none⟩ = some (.iface 97 (.agg #[.pointer (some ⟨16, 32, none⟩)]))) :
 Calls Tryd.prog 36 #[.iface 114 (.pointer (some a)), .iface 73 (.pointer (some t))] w fun ev w' => ev = .returned (.bool false) ∧ Below w.heap.size w w' := by
 have h6 := @run_callFunc_extern Tryd.prog 47 _ (fun args => ReflectliteValue.unpack (args.getD 0 (.tuple #[]))) Tryd.func47 (by kernel_rfl) (by kernel_rfl) (by kernel_rfl) (by kernel_rfl)
 have h7 := @run_callFunc_extern Tryd.prog 48 _ (ReflectliteValue.methodAny (ReflectliteValue.valueError "reflectlite.Value.Type" 0) (fun t _ _ _ => ReflectliteType.toType t)) Tryd.func48 (by kernel_rfl) (by kernel_rfl) (by kernel_rfl) (by kernel_rfl)
 have h8 := @run_callFunc_extern Tryd.prog 49 _ (ReflectliteValue.method (ReflectliteValue.valueError "reflectlite.Value.IsNil" 0) ReflectliteValue.isNil) Tryd.func49 (by kernel_rfl) (by kernel_rfl) (by kernel_rfl) (by kernel_rfl)
 have h27 := @run_callFunc_extern Tryd.prog 74 _ (ReflectliteType.abiMethod fun t => do pure (.int .u8 (← Rtype.kind t))) Tryd.func74 (by kernel_rfl) (by kernel_rfl) (by kernel_rfl) (by kernel_rfl)
 have h37 := @run_callFunc_extern Tryd.prog 85 _ (ReflectliteType.method ReflectliteType.elem) Tryd.func85 (by kernel_rfl) (by kernel_rfl) (by kernel_rfl) (by kernel_rfl)
 have h38 := @run_callFunc_extern Tryd.prog 86 _ (ReflectliteType.relation "Implements" ReflectliteType.implements_) Tryd.func86 (by kernel_rfl) (by kernel_rfl) (by kernel_rfl) (by kernel_rfl)
 have h10 := @run_callFunc_extern Tryd.prog 45 _ ReflectliteType.typeOf Tryd.func45 (by kernel_rfl) (by kernel_rfl) (by kernel_rfl) (by kernel_rfl)
 have h35 := @run_callFunc_extern Tryd.prog 83 _ (ReflectliteType.relation "AssignableTo" ReflectliteType.assignableTo) Tryd.func83 (by kernel_rfl) (by kernel_rfl) (by kernel_rfl) (by kernel_rfl)
 have tO := typeOfER
 have a25 := assignableER
 have nA := noAsER
 have uE := noUnwrapE
 have vE := noUnwrapsE
 have mA := methodAssignableToR
 have f6 := valueOf27R
 have f7 := type27R
 have mK := methodKindR
 have mE := methodElemR
 have mI := methodImplementsR
 have k27 := kind27R
 have k25 := kind25R
 have e27 := elem27R
 have i25 := implements25R
 have n8 := isNil27R ⟨w.heap.size, 0, none⟩ t ((w.alloc (.cells #[.pointer (some t)] 73)).alloc (.cells #[.pointer (some ⟨16, 73, none⟩), .pointer (some ⟨w.heap.size, 0, none⟩), .int .u64 150] 87)) (by simp)
 have hlt : 15 < w.heap.size := by
  exact World.block_lt_of_cell? w _ hg
 have hg2 : ((w.alloc (.cells #[.pointer (some t)] 73)).alloc (.cells #[.pointer (some ⟨16, 73, none⟩), .pointer (some ⟨w.heap.size, 0, none⟩), .int .u64 150] 87)).cell? ⟨15, 0, none⟩ = some (.iface 97 (.agg #[.pointer (some ⟨16, 32, none⟩)])) := by
  rw [World.cell?_alloc_lt _ _ ⟨15, 0, none⟩ (by simp; omega), World.cell?_alloc_lt _ _ ⟨15, 0, none⟩ hlt]; exact hg
 go_enter Tryd.func36, Tryd.ntmps36
 go_wp2
 refine wp_loop_rounds 1 ?_
 rw [rounds_succ]
 go_wp2
 go_ret
 exact ⟨rfl, (((Below.refl _ w).alloc (Nat.le_refl _) _).alloc (by simp) _).alloc (by simp; omega) _⟩
end Go.Proofs.YtaeaookonhaliaaDoor.E
/- kit.Kind and kit.Rule of what gram.Check answers. -/
set_option linter.unusedVariables false
set_option linter.unusedSimpArgs false
namespace Go.Proofs.YtaeaookonhaliaaDoor.B
open Go.RowKit Go.Proofs.YtaeaookonhaliaaDoorW.PrintWords Go.Proofs.YtaeaookonhaliaaDoorW.PrintLast Go.Proofs.YtaeaookonhaliaaDoorW.PrintMore Go.Proofs.YtaeaookonhaliaaDoor.E

theorem IsK.rule {ad : Int → Addr} {w : World} (hs : SentsK ad w) (k : Int) (h1 : 1 ≤ k) (h2 : k ≤ 15) (b : Nat) (hc : w.cell? ⟨b, 1, none⟩ = some (.iface 114 (.pointer (some (ad k))))) : IsK ad w (.iface 66 (.pointer (some ⟨b, 0, none⟩))) k := by
 intro j hj1 hj2 W hW
 have hc' : W.cell? ⟨b, 0 + 1, none⟩ = some (.iface 114 (.pointer (some (ad k)))) := (hW.cell (World.block_lt_of_cell? w _ hc)).trans hc
 by_cases h : j = k
 · subst h
   rw [decide_eq_true rfl]
   exact isR_same b 0 (ad j) W hc'
 · rw [decide_eq_false h]
   obtain ⟨ca, ta, hca⟩ := (hs.below hW).box k h1 h2
   obtain ⟨cb, tb, hcb⟩ := (hs.below hW).box j hj1 hj2
   exact isR_other b 0 (ad j) (ad k) ca cb ta tb W hc' (hs.ne k j h1 h2 hj1 hj2 (fun e => h e.symm)) hca hcb
def Handle (w : World) : Prop := w.cell? ⟨15, 0, none⟩ = some (.iface 97 (.agg #[.pointer (some ⟨16, 32, none⟩)]))
theorem Handle.below {w w' : World} (h : Handle w) (hb : Below w.heap.size w w') : Handle w' := (hb.cell (World.block_lt_of_cell? w _ h)).trans h

set_option maxHeartbeats 1000000 in
set_option maxRecDepth 100000 in
theorem Rule_no (v : Value) (w : World) (hA : ∀ W, Below w.heap.size w W → ∀ a, Calls Tryd.prog 36 #[v, .iface 73 (.pointer (some a))] W fun e w' => e = .returned (.bool false) ∧ Below W.heap.size W w') :
 Calls Tryd.prog 17 #[v] w fun e w' => e = .returned (.int .i64 (-1)) ∧ Below w.heap.size w w' := by
 have hb : Below w.heap.size w (w.alloc (.cells #[.pointer none] 66)) := (Below.refl _ w).alloc (Nat.le_refl _) _
 have HA := Aside0.mk (hA _ hb ⟨w.heap.size, 0, none⟩)
 have HB := Aside0.mk hb
 clear hA hb
 go_enter Tryd.func17, Tryd.ntmps17
 go_wp2_with (go_at_call 36; (with_reducible refine HA.out.mono ?_); rintro e w' ⟨rfl, hb'⟩)
 go_ret
 exact ⟨rfl, HB.out.trans (hb'.mono HB.out.size)⟩
set_option maxHeartbeats 1000000 in
set_option maxRecDepth 100000 in
theorem Rule_yes (b : Nat) (r : Int) (w : World) (hg : Handle w) (hr : w.cell? ⟨b, 0, none⟩ = some (.int .i64 r)) :
 Calls Tryd.prog 17 #[.iface 66 (.pointer (some ⟨b, 0, none⟩))] w fun e w' => e = .returned (.int .i64 r) ∧ Below w.heap.size w w' := by
 have hb : Below w.heap.size w (w.alloc (.cells #[.pointer none] 66)) := (Below.refl _ w).alloc (Nat.le_refl _) _
 have hbl : b < w.heap.size := World.block_lt_of_cell? w _ hr
 have hA : Calls Tryd.prog 36 #[.iface 66 (.pointer (some ⟨b, 0, none⟩)), .iface 73 (.pointer (some ⟨w.heap.size, 0, none⟩))] (w.alloc (.cells #[.pointer none] 66)) fun e w' => e = .returned (.bool true) ∧ Aside0 (Below w.heap.size w w') ∧ w'.cell? ⟨w.heap.size, 0, none⟩ = some (.pointer (some ⟨b, 0, none⟩)) ∧ w'.cell? ⟨b, 0, none⟩ = some (.int .i64 r) := by
  have hx : Box w.heap.size #[.pointer none] 66 (w.alloc (.cells #[.pointer none] 66)) := Box.new w _ _
  have hx' : (w.alloc (.cells #[.pointer none] 66)).heap[w.heap.size]? = some (.cells #[.pointer none] 66 (0, 0)) := hx
  refine (as_hitR ⟨b, 0, none⟩ ⟨w.heap.size, 0, none⟩ (.pointer none) _ (hg.below hb) (hx.cell 0 _ rfl) (by unfold World.frozen?; rw [show (w.alloc (.cells #[.pointer none] 66)).heap[(⟨w.heap.size, 0, none⟩ : Addr).block]? = _ from hx']; rfl)).mono ?_
  rintro e w' ⟨rfl, rfl⟩
  have hb4 := ((((Below.refl _ (w.alloc (.cells #[.pointer none] 66))).alloc (Nat.le_refl _) (.cells #[.pointer (some ⟨w.heap.size, 0, none⟩)] 73)).alloc (by simp) (.cells #[.pointer (some ⟨16, 73, none⟩), .pointer (some ⟨(w.alloc (.cells #[.pointer none] 66)).heap.size, 0, none⟩), .int .u64 150] 87)).alloc (by first | (simp; done) | (simp; omega)) (.cells #[.pointer (some ⟨16, 73, none⟩), .pointer (some ⟨(w.alloc (.cells #[.pointer none] 66)).heap.size, 0, none⟩), .int .u64 150] 87)).alloc (by first | (simp; done) | (simp; omega)) (.cells #[.pointer (some ⟨b, 0, none⟩)] 66)
  have hbw := hb.trans (hb4.mono hb.size)
  have hc4 : _ := (hb4.cell (p := ⟨w.heap.size, 0, none⟩) (by simp)).trans (hx.cell 0 _ rfl)
  refine ⟨rfl, ⟨hbw.setCell (Nat.le_refl _) _⟩, ?_, ?_⟩
  · exact World.cell?_setCell_same' _ _ _ (by rw [hc4]; rfl)
  · rw [World.cell?_setCell_other _ _ _ _ (show (⟨w.heap.size, 0, none⟩ : Addr) ≠ ⟨b, 0, none⟩ from fun e => by injection e with e; omega)]
    exact (hbw.cell (p := ⟨b, 0, none⟩) hbl).trans hr
 have HA := Aside0.mk hA
 clear hA hb
 go_enter Tryd.func17, Tryd.ntmps17
 go_wp2_with (go_at_call 36; (with_reducible refine HA.out.mono ?_); rintro e w' ⟨rfl, hb', f0, f1⟩)
 go_ret
 exact ⟨rfl, hb'.out⟩
end Go.Proofs.YtaeaookonhaliaaDoor.B
/- Sets of small numbers as whole numbers of 64 bits: membership. -/
set_option linter.unusedVariables false
set_option linter.unusedSimpArgs false
namespace Go.Proofs.YtaeaookonhaliaaDoor.B
open Go.RowKit Go.Proofs.YtaeaookonhaliaaDoorW.PrintWords Go.Proofs.YtaeaookonhaliaaDoorW.PrintLast Go.Proofs.YtaeaookonhaliaaDoorW.PrintMore

end Go.Proofs.YtaeaookonhaliaaDoor.B
/- Reading lists at a natural number; renamings, and to which nonterminals one comes by them. -/
set_option linter.unusedVariables false
set_option linter.unusedSimpArgs false
namespace Go.Proofs.YtaeaookonhaliaaDoor.B
open Go.RowKit Go.Proofs.YtaeaookonhaliaaDoorW.PrintWords Go.Proofs.YtaeaookonhaliaaDoorW.PrintLast Go.Proofs.YtaeaookonhaliaaDoorW.PrintMore

theorem rd_D (l : List Int) (i : Nat) : rd l (i : Int) = l.getD i 0 := by simp [rd]
theorem rdS_D (l : List ByteArray) (i : Nat) : rdOf ByteArray.empty l (i : Int) = l.getD i ByteArray.empty := by simp [rdOf]
theorem rdR_D (l : List S55) (i : Nat) : rd_T55 l (i : Int) = l.getD i z55 := by simp [rd_T55]
theorem getD_lt {α : Type} (l : List α) (i : Nat) (d : α) (h : i < l.length) : l.getD i d = l[i] := by simp [List.getD_eq_getElem?_getD, List.getElem?_eq_getElem h]
theorem w64 (i : Nat) (h : i < 9223372036854775807) : wrap64 ((i : Int) + 1) = ((i + 1 : Nat) : Int) := by unfold wrap64; omega

def ren (x : S55) : Option Nat := match x.f1 with
 | [s] => if s < 0 then some (-1 - s).toNat else none
 | _ => none
theorem okR_sides {t n : Nat} {x : S55} (h : okR t n x = true) : x.f1.length ≤ 32 ∧ 0 ≤ x.f0 ∧ x.f0 < n ∧ ∀ s ∈ x.f1, s < t ∧ -(n : Int) ≤ s := by
 simp only [okR, Bool.and_eq_true, decide_eq_true_eq, Bool.not_eq_true', List.any_eq_false, outS, Bool.or_eq_true, not_or, Int.not_le, Int.not_lt] at h
 exact ⟨h.1.1.1, h.1.1.2, h.1.2, fun s hs => by simpa using h.2 s hs⟩
def Edge (R : List S55) (a m : Nat) : Prop := ∃ x ∈ R, x.f0 = (a : Int) ∧ ren x = some m
inductive Reach (R : List S55) : Nat → Nat → Prop
 | refl (a : Nat) : Reach R a a
 | step {a m b : Nat} : Edge R a m → Reach R m b → Reach R a b
theorem Reach.trans {R : List S55} {a m b : Nat} (h : Reach R a m) (h' : Reach R m b) : Reach R a b := by
 induction h with
 | refl a => exact h'
 | step e _ ih => exact .step e (ih h')
end Go.Proofs.YtaeaookonhaliaaDoor.B
/- Names: their places, and which lists of names are right. -/
set_option linter.unusedVariables false
set_option linter.unusedSimpArgs false
namespace Go.Proofs.YtaeaookonhaliaaDoor.B
open Go.RowKit Go.Proofs.YtaeaookonhaliaaDoorW.PrintWords Go.Proofs.YtaeaookonhaliaaDoorW.PrintLast Go.Proofs.YtaeaookonhaliaaDoorW.PrintMore

theorem toL_eq (a b : ByteArray) : a.toList = b.toList ↔ a = b := by
 constructor
 · intro h
   rw [ByteArray.toList_eq, ByteArray.toList_eq] at h
   have := Array.ext' h
   cases a; cases b; simp_all
 · rintro rfl; rfl

def place (l : List ByteArray) (s : ByteArray) (i : Nat) : Int := if (l.drop i).findIdx (fun x => decide (s = x)) < (l.drop i).length then ((i + (l.drop i).findIdx (fun x => decide (s = x)) : Nat) : Int) else -1
theorem place_end (l : List ByteArray) (s : ByteArray) : place l s l.length = -1 := by simp [place]
theorem place_step (l : List ByteArray) (s : ByteArray) (i : Nat) (h : i < l.length) : place l s i = if s = l[i] then (i : Int) else place l s (i + 1) := by
 unfold place
 rw [List.drop_eq_getElem_cons h, List.findIdx_cons, List.length_cons]
 by_cases c : s = l[i]
 · rw [if_pos c, decide_eq_true c, cond_true, if_pos (by omega)]; rfl
 · rw [if_neg c, decide_eq_false c, cond_false]
   by_cases c2 : (l.drop (i + 1)).findIdx (fun x => decide (s = x)) < (l.drop (i + 1)).length
   · rw [if_pos (by omega), if_pos c2]; congr 1; omega
   · rw [if_neg (by omega), if_neg c2]
theorem place_nonneg (l : List ByteArray) (s : ByteArray) : 0 ≤ place l s 0 ↔ s ∈ l := by
 have : (l.findIdx (fun x => decide (s = x)) < l.length) ↔ s ∈ l := by
  rw [List.findIdx_lt_length]; simp
 unfold place
 rw [List.drop_zero, ← this]
 split <;> omega
theorem Index_l (l : List ByteArray) (s : ByteArray) (hm : l.length ≤ 9223372036854775807) : ∀ (d i k : Nat), l.length - i = d → i ≤ l.length → d < k → slices_Index_string_string.l0 k l s (l.length : Int) (i : Int) = some (place l s i) := by
 intro d
 induction d with
 | zero =>
  intro i k hi hle hk
  obtain ⟨k, rfl⟩ : ∃ j, k = j + 1 := ⟨k - 1, by omega⟩
  have : i = l.length := by omega
  subst this
  rw [slices_Index_string_string.l0, if_neg (by omega), place_end]
 | succ d ih =>
  intro i k hi hle hk
  obtain ⟨k, rfl⟩ : ∃ j, k = j + 1 := ⟨k - 1, by omega⟩
  have hlt : i < l.length := by omega
  rw [slices_Index_string_string.l0, if_pos (by omega), if_pos (by omega), if_pos (by omega), rdS_D, getD_lt _ _ _ hlt, place_step l s i hlt]
  by_cases c : s = l[i]
  · rw [if_pos ((toL_eq _ _).2 c), if_pos c]
  · rw [if_neg (fun h => c ((toL_eq _ _).1 h)), if_neg c, w64 i (by omega), ih (i + 1) k (by omega) (by omega) (by omega)]
theorem Index_f (l : List ByteArray) (s : ByteArray) (k : Nat) (hm : l.length ≤ 9223372036854775807) (hk : l.length < k) : slices_Index_string_string.f k l s = some (place l s 0) := by
 unfold slices_Index_string_string.f
 have := Index_l l s hm l.length 0 k (by omega) (by omega) hk
 simpa using this
def faultAt (l : List ByteArray) (i : Nat) : Bool := decide ((l.getD i ByteArray.empty).size = 0) || decide (32 < (l.getD i ByteArray.empty).size) || (l.take i).any (fun x => decide (l.getD i ByteArray.empty = x))
def namesOK (l : List ByteArray) : Bool := (List.range l.length).all fun i => !faultAt l i
def namesFrom (l : List ByteArray) (i : Nat) : Bool := (List.range' i (l.length - i)).all fun i => !faultAt l i
theorem namesFrom_zero (l : List ByteArray) : namesFrom l 0 = namesOK l := by simp [namesFrom, namesOK, List.range_eq_range']
theorem namesFrom_step (l : List ByteArray) (i : Nat) (h : i < l.length) : namesFrom l i = (!faultAt l i && namesFrom l (i + 1)) := by
 unfold namesFrom
 rw [show l.length - i = (l.length - (i + 1)) + 1 from by omega, List.range'_succ, List.all_cons]
theorem namesFrom_end (l : List ByteArray) : namesFrom l l.length = true := by simp [namesFrom]

theorem NameFault_f (l : List ByteArray) (i k : Nat) (h : i < l.length) (hm : l.length ≤ 9223372036854775807) (hk : l.length < k) : gram_nameFault.f k l (i : Int) = some (faultAt l i) := by
 unfold gram_nameFault.f faultAt slices_Contains_string_string.f
 rw [if_pos (by omega), if_pos (by omega), rdS_D, Int.toNat_natCast]
 generalize l.getD i ByteArray.empty = s
 by_cases c1 : s.size = 0
 · rw [if_pos (by omega)]; simp [c1]
 · rw [if_neg (by omega)]
   by_cases c2 : 32 < s.size
   · rw [if_pos (by omega)]; simp [c2]
   · rw [if_neg (by omega), if_pos (by omega), Index_f _ s k (by rw [List.length_take]; omega) (by rw [List.length_take]; omega), Option.bind_some, Option.bind_some]
     cases c3 : (l.take i).any (fun x => decide (s = x)) with
     | true =>
      have : s ∈ l.take i := by
       obtain ⟨x, hx, he⟩ := List.any_eq_true.1 c3
       rw [of_decide_eq_true he]; exact hx
      rw [if_pos (decide_eq_true ((place_nonneg (l.take i) s).2 this)), Bool.or_true]
     | false =>
      have : ¬ s ∈ l.take i := fun hs => by
       have := List.any_eq_false.1 c3 s hs
       simp at this
      rw [if_neg (by rw [decide_eq_true_eq]; exact fun h => this ((place_nonneg (l.take i) s).1 h)), decide_eq_false c1, decide_eq_false c2]; rfl
theorem Names_l (l : List ByteArray) (hm : l.length ≤ 9223372036854775807) : ∀ (d i k : Nat), l.length - i = d → i ≤ l.length → d + l.length + 1 < k → gram_names.l0 k l (l.length : Int) (i : Int) = some (namesFrom l i) := by
 intro d
 induction d with
 | zero =>
  intro i k hi hle hk
  obtain ⟨k, rfl⟩ : ∃ j, k = j + 1 := ⟨k - 1, by omega⟩
  have : i = l.length := by omega
  subst this
  rw [gram_names.l0, if_neg (by omega), namesFrom_end]
 | succ d ih =>
  intro i k hi hle hk
  obtain ⟨k, rfl⟩ : ∃ j, k = j + 1 := ⟨k - 1, by omega⟩
  have hlt : i < l.length := by omega
  rw [gram_names.l0, if_pos (by omega), NameFault_f l i k hlt hm (by omega), Option.bind_some, namesFrom_step l i hlt]
  cases hf : faultAt l i with
  | true => rw [if_pos rfl]; rfl
  | false => rw [if_neg (by decide), w64 i (by omega), ih (i + 1) k (by omega) (by omega) (by omega)]; rfl
theorem Names_f (l : List ByteArray) (k : Nat) (hm : l.length ≤ 9223372036854775807) (hk : l.length + l.length + 1 < k) : gram_names.f k l = some (namesOK l) := by
 unfold gram_names.f
 have := Names_l l hm l.length 0 k (by omega) (by omega) hk
 rw [namesFrom_zero] at this
 simpa using this
end Go.Proofs.YtaeaookonhaliaaDoor.B
/- Errors of all kinds: none, a sentinel, a rule's; kit.Kind and kit.Rule of them; told by a number (kind + 16 * (rule + 1)). -/
set_option linter.unusedVariables false
set_option linter.unusedSimpArgs false
namespace Go.Proofs.YtaeaookonhaliaaDoor.F
open Go.RowKit Go.Proofs.YtaeaookonhaliaaDoorW.PrintWords Go.Proofs.YtaeaookonhaliaaDoorW.PrintLast Go.Proofs.YtaeaookonhaliaaDoorW.PrintMore
open Go.Proofs.YtaeaookonhaliaaDoor.B Go.Proofs.YtaeaookonhaliaaDoor.E

def ErrW (ad : Int → Addr) (w : World) (v : Value) (p : Int × Int) : Prop :=
 (p.1 = 0 ∧ p.2 = -1 ∧ v = .nilIface) ∨ ((1 ≤ p.1 ∧ p.1 ≤ 15) ∧ p.2 = -1 ∧ v = .iface 114 (.pointer (some (ad p.1)))) ∨
 ((1 ≤ p.1 ∧ p.1 ≤ 15) ∧ 0 ≤ p.2 ∧ p.2 < 1000 ∧ ∃ b, v = .iface 66 (.pointer (some ⟨b, 0, none⟩)) ∧ w.heap[b]? = some (.cells #[.int .i64 p.2, .iface 114 (.pointer (some (ad p.1)))] 68 (0, 0)))
theorem ErrW.of {ad : Int → Addr} {w : World} {v : Value} {p : Int × Int} (h : ErrV ad w v p) : ErrW ad w v p := by
 rcases h with h | ⟨h1, h2, h3⟩ | ⟨h1, h2, h3, h4⟩
 · exact .inl h
 · exact .inr (.inl ⟨by omega, h2, h3⟩)
 · exact .inr (.inr ⟨by omega, h2, by omega, h4⟩)
theorem ErrW.below {ad : Int → Addr} {w w' : World} {v : Value} {p : Int × Int} (h : ErrW ad w v p) (hb : Below w.heap.size w w') : ErrW ad w' v p := by
 rcases h with h | h | ⟨h1, h2, h3, b, hv, hx⟩
 · exact .inl h
 · exact .inr (.inl h)
 · exact .inr (.inr ⟨h1, h2, h3, b, hv, Box.below (W := w) (W' := w') hx hb⟩)
theorem ErrW.nil {ad : Int → Addr} {w : World} {v : Value} {p : Int × Int} (h : ErrW ad w v p) (h0 : p.1 = 0) : v = .nilIface := by
 rcases h with h | h | h
 · exact h.2.2
 · have := h.1; omega
 · have := h.1; omega
theorem ErrW.any {ad : Int → Addr} {w : World} {v : Value} {p : Int × Int} (h : ErrW ad w v p) (h0 : p.1 ≠ 0) : ∃ t u, v = .iface t u := by
 rcases h with h | h | h
 · exact absurd h.1 h0
 · exact ⟨_, _, h.2.2⟩
 · obtain ⟨_, _, _, b, h, _⟩ := h; exact ⟨_, _, h⟩
theorem Kind_w {ad : Int → Addr} {w : World} (hs : SentsK ad w) {v : Value} {p : Int × Int} (hv : ErrW ad w v p) : Calls Tryd.prog 16 #[v] w fun e w' => e = .returned (.int .i64 p.1) ∧ Below w.heap.size w w' := by
 rcases hv with ⟨h0, _, rfl⟩ | ⟨h1, _, rfl⟩ | ⟨h1, _, _, b, rfl, hx⟩
 · rw [h0]; exact Kind_nil w
 · exact Kind_any ad _ _ p.1 h1.1 h1.2 w hs (IsK.sent hs p.1 h1.1 h1.2)
 · exact Kind_any ad _ _ p.1 h1.1 h1.2 w hs (IsK.rule hs p.1 h1.1 h1.2 b (Box.cell (W := w) hx 1 _ rfl))
theorem Rule_w {ad : Int → Addr} {w : World} (hg : HandleP w) {v : Value} {p : Int × Int} (hv : ErrW ad w v p) : Calls Tryd.prog 17 #[v] w fun e w' => e = .returned (.int .i64 p.2) ∧ Below w.heap.size w w' := by
 rcases hv with ⟨_, h2, rfl⟩ | ⟨_, h2, rfl⟩ | ⟨_, _, _, b, rfl, hx⟩
 · rw [h2]
   exact Rule_no _ w (fun W _ a => (as_nilR _ W).mono fun _ _ ⟨he, hw⟩ => by subst hw; exact ⟨he, Below.refl _ _⟩)
 · rw [h2]
   exact Rule_no _ w (fun W hW a => as_esR _ a W (Handle.below (w := w) hg hW))
 · exact Rule_yes b p.2 w hg (Box.cell (W := w) hx 0 _ rfl)
def encE (p : Int × Int) : Option Int := if p.1 = 0 then none else some (p.1 + 16 * (p.2 + 1))
def kindE : Option Int → Int
 | none => 0
 | some c => c % 16
def ruleE : Option Int → Int
 | none => -1
 | some c => c / 16 - 1
def ErrF (ad : Int → Addr) (w : World) (v : Value) (r : Option Int) : Prop := ∃ p, ErrW ad w v p ∧ r = encE p
theorem ErrF.below {ad : Int → Addr} {w w' : World} {v : Value} {r : Option Int} (h : ErrF ad w v r) (hb : Below w.heap.size w w') : ErrF ad w' v r := by
 obtain ⟨p, h1, h2⟩ := h
 exact ⟨p, h1.below hb, h2⟩
theorem SentsK.three {ad : Int → Addr} {w : World} (h : SentsK ad w) : Go.Proofs.YtaeaookonhaliaaDoor.B.Sents ad w := by
 obtain ⟨⟨h1, h2, h3, h4, h5, h6, h7, h8, h9, h10, h11, h12, h13, h14, h15⟩, _, _⟩ := h
 exact ⟨h3, h10, h1⟩
theorem Check_any (ad : Int → Addr) (A0 : Option Addr) (c0 : Nat) (l0 : List ByteArray) (A1 : Option Addr) (c1 : Nat) (l1 : List ByteArray) (a2 : Int) (A3 : Option Addr) (c3 : Nat) (l3 : List S55) (w : World) (hs : SentsK ad w) (hr0 : Kd.C Kd.string w A0 l0.length l0) (hc0 : l0.length ≤ c0) (hr1 : Kd.C Kd.string w A1 l1.length l1) (hc1 : l1.length ≤ c1) (hr3 : Kd.C k55 w A3 l3.length l3) (hc3 : l3.length ≤ c3) :
 Calls Tryd.prog 26 #[.agg #[.slice A0 l0.length c0, .slice A1 l1.length c1, .int .i64 a2, .slice A3 l3.length c3]] w fun e w' => (∃ v, e = .returned v ∧ ErrV ad w' v (chk (namesOK l0) (namesOK l1) l0.length l1.length a2 l3)) ∧ Below w.heap.size w w' := by
 have m0 := C_max hr0
 have m1 := C_max hr1
 exact Check_full ad _ A0 c0 l0 A1 c1 l1 a2 A3 c3 l3 _ _ w (SentsK.three hs) hr0 hc0 hr1 hc1 hr3 hc3 (Names_f l0 (l0.length + l0.length + l1.length + l1.length + 2) m0 (by omega)) (Names_f l1 (l0.length + l0.length + l1.length + l1.length + 2) m1 (by omega))
def dovetailkit_Kind.f (a0 : Option Int) : Option Int := some (kindE a0)
def dovetailkit_Rule.f (a0 : Option Int) : Option Int := some (ruleE a0)
end Go.Proofs.YtaeaookonhaliaaDoor.F
/- opform.bare: walked. -/
set_option linter.unusedVariables false
set_option linter.unusedSimpArgs false
namespace Go.Proofs.YtaeaookonhaliaaDoor.R6
open Go.RowKit Go.Proofs.YtaeaookonhaliaaDoorW.PrintWords Go.Proofs.YtaeaookonhaliaaDoorW.PrintLast Go.Proofs.YtaeaookonhaliaaDoorW.PrintMore
open Go.Proofs.YtaeaookonhaliaaDoor.B Go.Proofs.YtaeaookonhaliaaDoor.H Go.Proofs.YtaeaookonhaliaaDoor.F
attribute [local go_sem] max2_int max_two

theorem setCells_block (g : Nat) (t : TypeId) : ∀ (vs pre mid : List Value) (w : World), mid.length = vs.length → w.heap[g]? = some (.cells (pre ++ mid).toArray t (0, 0)) → (w.setCells g pre.length vs).heap[g]? = some (.cells (pre ++ vs).toArray t (0, 0))
 | [], pre, mid, w, h, hg => by
  obtain rfl : mid = [] := List.length_eq_zero_iff.1 h
  exact hg
 | v :: vs, pre, [], w, h, hg => by simp at h
 | v :: vs, pre, m :: mid, w, h, hg => by
  rw [World.setCells]
  have h1 := heap_setCell_same w g pre.length _ t v hg
  have h2 : (pre ++ m :: mid).toArray.setIfInBounds pre.length v = ((pre ++ [v]) ++ mid).toArray := by simp
  rw [h2] at h1
  have h3 := setCells_block g t vs (pre ++ [v]) mid _ (by simpa using h) h1
  simpa using h3
theorem setCells_other (g : Nat) : ∀ (vs : List Value) (o : Nat) (w : World) (k : Nat), k ≠ g → (w.setCells g o vs).heap[k]? = w.heap[k]?
 | [], _, _, _, _ => rfl
 | v :: vs, o, w, k, h => by
  rw [World.setCells, setCells_other g vs (o + 1) _ k h]
  exact heap_setCell_other w _ k v h
theorem below_setCells {B g : Nat} {w0 : World} (hB : B ≤ g) : ∀ (vs : List Value) (o : Nat) (w : World), Below B w0 w → Below B w0 (w.setCells g o vs)
 | [], _, _, h => h
 | v :: vs, o, w, h => by
  rw [World.setCells]
  exact below_setCells hB vs (o + 1) _ (h.setCell (p := ⟨g, o, none⟩) hB v)

def mx (s : Int) : Int := if s < -1 then -1 else s
def barL (l : List Int) (k : Nat) : List Int := (l.length : Int) :: ((l.take k).map mx ++ List.replicate (32 - k) 0)
def barC (l : List Int) (k : Nat) : Array Value := ((barL l k).map (Value.int .i64)).toArray
theorem barL_len (l : List Int) (k : Nat) (hk : k ≤ l.length) (hl : l.length ≤ 32) : (barL l k).length = 33 := by
 unfold barL
 simp only [List.length_cons, List.length_append, List.length_map, List.length_take, List.length_replicate]
 omega
theorem barC_size (l : List Int) (k : Nat) (hk : k ≤ l.length) (hl : l.length ≤ 32) : (barC l k).size = 33 := by
 unfold barC
 rw [List.size_toArray, List.length_map, barL_len l k hk hl]
theorem barL_set (l : List Int) (k : Nat) (hk : k < l.length) (hl : l.length ≤ 32) : (barL l k).set (k + 1) (mx l[k]) = barL l (k + 1) := by
 unfold barL
 rw [List.set_cons_succ, List.take_succ_eq_append_getElem hk, List.map_append]
 have h1 : ((l.take k).map mx).length = k := by rw [List.length_map, List.length_take]; omega
 have h2 : List.replicate (32 - k) (0 : Int) = 0 :: List.replicate (32 - (k + 1)) 0 := by
  rw [← List.replicate_succ]; congr 1; omega
 rw [h2, List.set_append_right _ _ (by omega), h1, Nat.sub_self, List.set_cons_zero]
 simp
theorem barC_set (l : List Int) (k : Nat) (hk : k < l.length) (hl : l.length ≤ 32) : (barC l k).setIfInBounds (k + 1) (.int .i64 (mx l[k])) = barC l (k + 1) := by
 unfold barC
 rw [← barL_set l k hk hl]
 simp
theorem barC_at (l : List Int) (k : Nat) (hk : k < l.length) (hl : l.length ≤ 32) : (barC l k)[k + 1]? = some (.int .i64 0) := by
 have h1 : ((l.take k).map mx).length = k := by rw [List.length_map, List.length_take]; omega
 have h2 : List.replicate (32 - k) (0 : Int) = 0 :: List.replicate (32 - (k + 1)) 0 := by
  rw [← List.replicate_succ]; congr 1; omega
 unfold barC barL
 rw [h2]
 simp [List.getElem?_append, h1]
 rw [Nat.min_eq_left (by omega), if_neg (by omega), Nat.sub_self]
 rfl
def zK : Array Value := (List.replicate 33 (Value.int .i64 0)).toArray
theorem barC_one (l : List Int) (k : Nat) : (barC l k).all (·.oneCell') = true := all_oneCell_toArray (fun v hv => by
 obtain ⟨x, _, rfl⟩ := List.mem_map.1 hv
 rfl)
structure BR (w : World) (r b : Nat) (cs : Array Value) (W : World) : Prop where
 low : Below w.heap.size w W
 hr : w.heap.size ≤ r
 hb : w.heap.size ≤ b
 ne : r ≠ b
 rb : W.heap[r]? = some (.cells zK 59 (0, 0))
 kb : W.heap[b]? = some (.cells cs 59 (0, 0))
section
variable {w W : World} {r b : Nat} {cs : Array Value}
theorem BR.set (h : BR w r b cs W) (i : Nat) (v : Value) : BR w r b (cs.setIfInBounds i v) (W.setCell ⟨b, i, none⟩ v) :=
 ⟨h.low.setCell (p := ⟨b, i, none⟩) h.hb v, h.hr, h.hb, h.ne, (heap_setCell_other W _ _ v h.ne).trans h.rb, heap_setCell_same W _ i cs _ v h.kb⟩
theorem BR.cell (h : BR w r b cs W) (i : Nat) : W.cell? ⟨b, i, none⟩ = cs[i]? := cell_of_row W _ i cs _ _ h.kb
theorem BR.frozen (h : BR w r b cs W) (i : Nat) : W.frozen? ⟨b, i, none⟩ = false := frozen_of_row W _ i cs _ h.kb
theorem BR.whole (h : BR w r b cs W) (vs : List Value) (hl : vs.length = cs.size) : BR w r b vs.toArray (W.setCells b 0 vs) :=
 ⟨below_setCells h.hb _ _ _ h.low, h.hr, h.hb, h.ne, (setCells_other b vs 0 W r h.ne).trans h.rb, by
  have := setCells_block b 59 vs [] cs.toList W (by simpa using hl.symm) (by simpa using h.kb)
  simpa using this⟩
theorem BR.there (h : BR w r b cs W) : W.there b 0 cs.size := fun j hj => by
 refine ⟨?_, frozen_of_row W _ _ _ _ h.kb⟩
 rw [Nat.zero_add, h.cell, Array.getElem?_eq_getElem hj]
 rfl
end
theorem infoKey : (Tryd.prog.info? 59).map (·.size) = some 33 := by kernel_rfl
set_option maxRecDepth 100000 in
set_option maxHeartbeats 4000000 in
theorem bare_calls (A : Option Addr) (c : Nat) (l : List Int) (w : World) (hr : Kd.C (Kd.int .i64) w A l.length l) (hl : l.length ≤ 32) :
 Calls Tryd.prog 28 #[.slice A l.length c] w fun e w' => e = .returned (.agg (barC l l.length)) ∧ Below w.heap.size w w' := by
 obtain ⟨ca, hca⟩ : ∃ ca, ca = barC l l.length := ⟨_, rfl⟩
 rw [← hca]
 have HCA := Lib.hid hca
 clear hca
 have HR := Aside0.mk hr
 clear hr
 go_enter Tryd.func28, Tryd.ntmps28
 go_wp2_with (first
  | ((with_reducible refine gate_dst (N := 2) rfl ?_); refine box_event rfl (N := 2) rfl (cs := zK) (t := 59) ?hr ?_; (case hr => kernel_rfl); intro r hr1 w1 hb1 hl1; have B1 := Aside0.mk (And.intro hr1 (And.intro hb1 hl1)); clear hr1 hb1 hl1)
  | ((with_reducible refine gate_dst (N := 3) rfl ?_); refine box_event rfl (N := 3) rfl (cs := zK) (t := 59) ?hr ?_; (case hr => kernel_rfl); intro b hr2 w2 hb2 hl2; have B2 := Aside0.mk (And.intro hr2 (And.intro hb2 hl2)); clear hr2 hb2 hl2)
  | ((with_reducible refine gate_store (t := 59) (p := 3) (v := .tmp 8) rfl ?_); refine Aside0.out ?_))
 refine Aside0.mk ?_
 obtain ⟨e1, h1, l1⟩ := B1.out
 obtain ⟨e2, h2, l2⟩ := B2.out
 clear B1 B2
 have hrlt : r < w1.heap.size := (Array.getElem?_eq_some_iff.1 h1).1
 have br0 : BR w r b zK w2 := ⟨l1.trans (l2.mono l1.size), by omega, by have := l1.size; omega, by omega, (l2.block r hrlt).trans h1, h2⟩
 have br1 := br0.whole (barC l 0).toList (by rw [Array.length_toList, barC_size l 0 (Nat.zero_le _) hl]; rfl)
 refine wpList_store_mid rfl 59 (.tmp 3) (.tmp 8) rfl b 0 (barC l 0) rfl rfl (by rw [barC_size l 0 (Nat.zero_le _) hl]; exact br0.there) (by rw [barC_size l 0 (Nat.zero_le _) hl]; exact infoKey) (barC_one l 0) ?_
 obtain ⟨w3, hw3⟩ : ∃ w3, w3 = w2.setCells b 0 (barC l 0).toList := ⟨_, rfl⟩
 rw [← hw3] at br1 ⊢
 have ST : Aside0 (BR w r b (barC l 0) w3) := ⟨br1⟩
 clear br0 br1 h1 h2 l1 l2 e1 e2 hrlt
 clear hw3
 go_wp2_with fail
 go_loopw [11] (fun i wq => ∃ k : Nat, k ≤ l.length ∧ i = .int .i64 k ∧ Aside0 (BR w r b (barC l k) wq)) (fun i _ => l.length - (intOf i).toNat)
 case atStart => exact ⟨0, Nat.zero_le _, rfl, ST⟩
 case round =>
  clear ST
  obtain ⟨k, hk, rfl, tr⟩ := hrel
  by_cases hlt : k < l.length
  · obtain ⟨ad, rfl, hx⟩ := Kd.at_int (Kd.C_below HR.out tr.out.low) (k : Int) (by omega) (by omega)
    rw [Int.toNat_natCast, rd_D, getD_lt _ _ _ hlt] at hx
    have fc := tr.out.cell (k + 1)
    rw [barC_at l k hlt hl] at fc
    have ff := tr.out.frozen (k + 1)
    have HS : Aside0 (BR w r b (barC l (k + 1)) (wr.setCell ⟨b, k + 1, none⟩ (.int .i64 (mx l[k])))) := ⟨by rw [← barC_set l k hlt hl]; exact tr.out.set _ _⟩
    unfold mx at HS
    generalize l[k] = x at hx HS
    have hk32 : (k : Int) + 1 < 33 := by omega
    by_cases hx1 : x < -1
    · rw [if_pos hx1] at HS
      go_wp2_with fail
      go_roundw
      case measure => simp [intOf]; omega
      case rel => exact ⟨k + 1, by omega, by go_num, HS⟩
    · rw [if_neg hx1] at HS
      go_wp2_with fail
      go_roundw
      case measure => simp [intOf]; omega
      case rel => exact ⟨k + 1, by omega, by go_num, HS⟩
  · obtain rfl : k = l.length := by omega
    have hsz := barC_size l l.length (Nat.le_refl _) hl
    have HKB := Aside0.mk tr.out.kb
    have HI : Aside0 ((Tryd.prog.info? 59).map (·.size) = some (barC l l.length).size) := ⟨by rw [hsz]; exact infoKey⟩
    have hrb := tr.out.rb
    have HTH : Aside0 (wr.there r 0 (barC l l.length).size) := ⟨fun j hj => by
     rw [hsz] at hj
     refine ⟨?_, frozen_of_row wr _ _ _ _ hrb⟩
     rw [cell_of_row wr _ _ _ _ _ hrb, Nat.zero_add, Array.getElem?_eq_getElem (by simpa [zK] using hj)]
     rfl⟩
    have HON := Aside0.mk (barC_one l l.length)
    have HF : Aside0 ((wr.setCells r 0 (barC l l.length).toList).heap[r]? = some (.cells (barC l l.length) 59 (0, 0))) := ⟨by
     have := setCells_block r 59 (barC l l.length).toList [] zK.toList wr (by rw [Array.length_toList, Array.length_toList, hsz]; rfl) (by simpa using hrb)
     simpa using this⟩
    have HL : Aside0 (Below w.heap.size w (wr.setCells r 0 (barC l l.length).toList)) := ⟨below_setCells tr.out.hr _ _ _ tr.out.low⟩
    rw [← HCA.out] at HKB HI HTH HON HF HL
    clear hrb tr hsz
    go_wp2_with (first
     | ((with_reducible refine gate_dst (N := 22) rfl ?_); refine wpList_load_row rfl 59 (.tmp 3) rfl b rfl 59 ca (0, 0) _ HKB.out Tryd.underlying59 rfl HI.out ?_)
     | ((with_reducible refine gate_store (t := 59) (p := 2) (v := .tmp 22) rfl ?_); refine wpList_store_mid rfl 59 (.tmp 2) (.tmp 22) rfl r 0 ca rfl rfl HTH.out HI.out HON.out ?_))
    refine bodyPost_ret (results_cell_row rfl _ _ r 59 ca (0, 0) _ rfl HF.out Tryd.underlying59 rfl HI.out) rfl ?_
    exact ⟨rfl, HL.out⟩
end Go.Proofs.YtaeaookonhaliaaDoor.R6
/- opform.Skeleton: walked. -/
set_option linter.unusedVariables false
set_option linter.unusedSimpArgs false
namespace Go.Proofs.YtaeaookonhaliaaDoor.R6
open Go.RowKit Go.Proofs.YtaeaookonhaliaaDoorW.PrintWords Go.Proofs.YtaeaookonhaliaaDoorW.PrintLast Go.Proofs.YtaeaookonhaliaaDoorW.PrintMore
open Go.Proofs.YtaeaookonhaliaaDoor.B Go.Proofs.YtaeaookonhaliaaDoor.H Go.Proofs.YtaeaookonhaliaaDoor.F

theorem plain_int : Tryd.prog.plainKey 3 = true := by kernel_rfl
theorem eqItems_same (d : Nat) (w : World) (L : List Int) : ∀ is : List Nat, (∀ i ∈ is, i < L.length) → (Op.eqItems (d + 1) 3 1 (L.map (Value.int .i64)).toArray (L.map (Value.int .i64)).toArray is).run Tryd.prog w = .ok true w
 | [], _ => rfl
 | i :: is, h => by
  have hi := h i List.mem_cons_self
  have hp : (part 3 (L.map (Value.int .i64)).toArray (i * 1)).run Tryd.prog w = .ok (.int .i64 L[i]) w := run_part_plain w plain_int (by simp [hi])
  have he := run_equalIn_int (P := Tryd.prog) w d 3 .i64 .i64 L[i] L[i] Tryd.underlying3
  have ih := eqItems_same d w L is (fun j hj => h j (List.mem_cons_of_mem _ hj))
  simp only [Op.eqItems, Sem.run_bind, hp, Result.andThen_ok, he, beq_self_eq_true, Bool.not_true, Bool.false_eq_true, if_false]
  exact ih
theorem eqItems_first (d : Nat) (w : World) (a b : Int) (hab : a ≠ b) (xs ys : Array Value) (hx : xs[0]? = some (.int .i64 a)) (hy : ys[0]? = some (.int .i64 b)) (is : List Nat) : (Op.eqItems (d + 1) 3 1 xs ys (0 :: is)).run Tryd.prog w = .ok false w := by
 have h1 : (part 3 xs (0 * 1)).run Tryd.prog w = .ok (.int .i64 a) w := run_part_plain w plain_int hx
 have h2 : (part 3 ys (0 * 1)).run Tryd.prog w = .ok (.int .i64 b) w := run_part_plain w plain_int hy
 have he := run_equalIn_int (P := Tryd.prog) w d 3 .i64 .i64 a b Tryd.underlying3
 have hb : (a == b) = false := beq_false_of_ne hab
 simp only [Op.eqItems, Sem.run_bind, h1, h2, Result.andThen_ok, he, hb, Bool.not_false, if_true, Sem.run_pure]
theorem cells_int : Tryd.prog.cellsOf 3 = 1 := by kernel_rfl
theorem keyEq (l : List Int) (hl : l.length ≤ 32) (w : World) : (Op.equal 59 (.agg (barC l l.length)) (.agg (barC [] 0))).run Tryd.prog w = .ok (decide (l = [])) w := by
 obtain ⟨i, hi⟩ : ∃ i, Tryd.prog.info? 3 = some i := by
  have : (Tryd.prog.info? 3).isSome = true := by kernel_rfl
  exact Option.isSome_iff_exists.1 this
 have hr := run_equalIn_array (P := Tryd.prog) (w := w) 9999 (barC l l.length) (barC [] 0) Tryd.underlying59 hi
 unfold Op.equal
 refine hr.trans ?_
 rw [cells_int]
 by_cases h : l = []
 · subst h
   exact eqItems_same 9998 w (barL [] 0) (List.range 33) (fun i hi => by rw [barL_len [] 0 (Nat.le_refl _) (by simp)]; exact List.mem_range.1 hi)
 · rw [decide_eq_false h]
   have hl0 : (l.length : Int) ≠ 0 := by
    have := List.length_pos_iff.2 h
    omega
   exact eqItems_first 9998 w l.length 0 hl0 _ _ rfl rfl (List.range' 1 32)
theorem infoI : (Tryd.prog.info? 3).map (fun i => (i.zero, i.size, i.bytes)) = some (some (.int .i64 0), 1, 8) := by kernel_rfl
set_option maxRecDepth 100000 in
theorem clip_calls (A : Option Addr) (n c : Nat) (w : World) (hc : n ≤ c) (hm : n ≤ 9223372036854775807) :
 Calls Tryd.prog 29 #[.slice A n c] w fun e w' => e = .returned (.slice A n n) ∧ Below w.heap.size w w' := by
 go_enter Tryd.func29, Tryd.ntmps29
 go_wp2_with fail
 go_ret
 exact ⟨rfl, Below.refl _ w⟩
theorem mx_max (s : Int) : mx s = max s (-1) := by unfold mx; split <;> omega
theorem run_load_row {P : Program} {o : Oper} {a : Act} {w : World} (ty : TypeId) (x : Operand) (ho : o.op = .load ty x) (g : Nat) (hx : a.eval x = .pointer (some ⟨g, 0, none⟩)) (t : TypeId) (cs : Array Value) (fr : Nat × Nat) (d : TypeDesc) (hg : w.heap[g]? = some (.cells cs t fr))
 (hu : P.underlying ty = some d) (hd : (match d with | .struct _ | .array _ _ => true | _ => false) = true) (hi : (P.info? ty).map (·.size) = some cs.size) : (execOp a.eval o).run P w = .ok (.value (.agg cs)) w := by
 unfold execOp
 simp only [ho, hx, Instr.loadAt, Instr.sureAddr, Sem.run_bind, Sem.run_pure, Result.andThen_ok, run_loadVar_row w g t ty cs fr d hg hu hd hi]
theorem add1 (b n : Nat) : (⟨b, 1, none⟩ : Addr).add n = ⟨b, 1 + n, none⟩ := by
 unfold Addr.add
 by_cases h : n = 0
 · rw [if_pos h, h]
 · rw [if_neg h]
theorem key_row {W : World} {b : Nat} {t : TypeId} (r : List Int) (hl : r.length ≤ 32) (h : W.heap[b]? = some (.cells (barC r r.length) t (0, 0))) : Kd.C (Kd.int .i64) W (some ⟨b, 1, none⟩) r.length (r.map mx) :=
 ⟨by rw [List.length_map], by omega, fun _ => ⟨_, rfl, fun i p hp => ⟨[.int .i64 p], rfl, rfl, fun ii u hu => by
  obtain rfl : ii = 0 := by
   rcases ii with _ | ii
   · rfl
   · simp at hu
  obtain rfl : Value.int .i64 p = u := by simpa using hu
  show W.cell? ((⟨b, 1, none⟩ : Addr).add (i * 1 + 0)) = _
  have hi : i < r.length := by
   have := (List.getElem?_eq_some_iff.1 hp).1
   rwa [List.length_map] at this
  rw [add1, cell_of_row W _ _ _ _ _ h, Nat.mul_one, Nat.add_zero, Nat.add_comm]
  have hb : (barL r r.length)[i + 1]? = some p := by
   unfold barL
   rw [List.getElem?_cons_succ, List.take_length, List.getElem?_append_left (by rw [List.length_map]; exact hi)]
   exact hp
  unfold barC
  rw [List.getElem?_toArray, List.getElem?_map, hb]
  rfl⟩⟩⟩
theorem arrLen : Tryd.prog.arrayLen 59 = 33 := by kernel_rfl
theorem arrUnd : Tryd.prog.underlying 59 = some (.array (Tryd.prog.arrayLen 59) (Tryd.prog.elem 59)) := by kernel_rfl
theorem arrElem : Tryd.prog.elem 59 = 3 := by kernel_rfl
theorem run_sliceKey (w : World) (b m : Nat) (hm : m ≤ 32) : (Instr.sliceAt 59 (.pointer (some ⟨b, 0, none⟩)) (some (.int .i64 1)) (some (.int .i64 ((m : Int) + 1))) none).run Tryd.prog w = .ok (.slice (some ⟨b, 1, none⟩) m 32) w := by
 obtain ⟨i, hi⟩ : ∃ i, Tryd.prog.info? 3 = some i := by
  have : (Tryd.prog.info? 3).isSome = true := by kernel_rfl
  exact Option.isSome_iff_exists.1 this
 rw [run_sliceAt_array_lh (P := Tryd.prog) w 59 ⟨b, 0, none⟩ arrUnd .i64 .i64 1 ((m : Int) + 1) (by decide) (by omega) (by rw [arrLen]; omega), arrElem, run_sizeOf w hi, Result.andThen_ok, cells_int, arrLen]
 have h1 : ((m : Int) + 1).toNat - (1 : Int).toNat = m := by omega
 unfold slicedAt
 rw [h1]
 rfl
def lenV : Value → Nat
 | .slice _ n _ => n
 | _ => 0
set_option maxRecDepth 100000 in
set_option maxHeartbeats 4000000 in
theorem Skeleton_calls (A : Option Addr) (c : Nat) (l : List Int) (w : World) (hr : Kd.C (Kd.int .i64) w A l.length l) (hc : l.length ≤ c) (hl : l.length < 17592186044415) :
 Calls Tryd.prog 8 #[.slice A l.length c] w fun e w' => ∃ B cap, e = .returned (.slice B l.length l.length) ∧ Kd.R (Kd.int .i64) 3 w' w.heap.size (fun _ => True) (.slice B l.length cap) (l.map mx) ∧ Below w.heap.size w w' := by
 have HR : Aside0 (Kd.C (Kd.int .i64) w A (l.drop 0).length (l.drop 0)) := ⟨hr⟩
 clear hr
 go_enter Tryd.func8, Tryd.ntmps8
 go_wp2_with fail
 go_loopw [0, 3] (fun r o wq => ∃ (j : Nat) (B : Option Addr) (d m : Nat), j ≤ l.length ∧ Hid (m = (l.drop j).length) ∧ r = .slice B m d ∧ m ≤ d ∧ Aside0 (Kd.C (Kd.int .i64) w B (l.drop j).length (l.drop j)) ∧ Aside0 (Kd.R (Kd.int .i64) 3 wq w.heap.size (fun _ => True) o ((l.take j).map mx)) ∧ Aside0 (Below w.heap.size w wq)) (fun r _ _ => lenV r)
 case atStart => exact ⟨0, A, c, l.length, Nat.zero_le _, Lib.hid rfl, rfl, hc, HR, ⟨Kd.R_nil _ _ _ _ _⟩, ⟨Below.refl _ _⟩⟩
 case round =>
  clear HR
  obtain ⟨j, B, d, m, hj, hm, rfl, hmd, hB, ho, hw⟩ := hrel
  have hml := hm.out
  rw [List.length_drop] at hml
  by_cases hlt : 32 < m
  · have hcb := hB.out
    rw [← hm.out] at hcb
    obtain ⟨ad, rfl, hx⟩ := Kd.at_int (Kd.C_below hcb hw.out) (0 : Int) (by omega) (by omega)
    have hrd : rd (l.drop j) (0 : Int) = l[j] := by simp [rd, List.getD_eq_getElem?_getD, List.getElem?_drop, show j < l.length by omega]
    rw [hrd] at hx
    replace hx : wr.cell? ad = some (.int .i64 l[j]) := hx
    have HT : Hid ((l.take (j + 1)).map mx = (l.take j).map mx ++ [mx l[j]]) := Lib.hid (by rw [List.take_succ_eq_append_getElem (by omega), List.map_append]; rfl)
    have HTL : Hid (((l.take j).map mx).length ≤ l.length) := Lib.hid (by rw [List.length_map, List.length_take]; omega)
    have HD : Aside0 (Kd.C (Kd.int .i64) w (some (ad.add 1)) (l.drop (j + 1)).length (l.drop (j + 1))) := ⟨by
     have := Kd.C_drop (m := 1) (c := d) hB.out (by rw [← hm.out]; omega) (by rw [← hm.out]; exact hmd)
     rw [if_neg (by omega), List.drop_drop] at this
     exact this⟩
    have hsz := hw.out.size
    rw [mx_max] at HT
    generalize l[j] = x at hx HT
    have d1 : decide ((32 : Int) < (m : Int)) = true := decide_eq_true (by omega)
    have d2 : decide (32 < m) = true := decide_eq_true hlt
    have HML := Lib.hid hml
    have HLT := Lib.hid hlt
    clear hcb hrd hml
    go_wp2_with (first
     | ((with_reducible refine gate_builtin (b := .append) (xs := #[.tmp 8, .tmp 13]) rfl ?_); at_builtin; go_loud (refine Kd.R_append (Kd.int .i64) (w0 := w) w.heap.size rfl (.tmp 8) (.tmp 13) 22 3 (.int .i64 0) 8 rfl Tryd.underlying22 infoI rfl (by decide) (by decide) u3 ((l.take j).map mx) (max x (-1)) [.int .i64 (max x (-1))] (fun _ => True) (fun _ => False) rfl rfl rfl (fun _ hk => hk.elim) (fun _ _ => trivial) ho.out hw.out hsz ?aL ?_; (case aL => have := HTL.out; omega); intro v1 w5 hR hB5 hg hat'; have T5 := Aside0.mk (And.intro hR hB5); clear hR hB5 hg hat')))
    go_roundw
    case measure => simp [lenV]; omega
    case rel => exact ⟨j + 1, some (ad.add 1), d - 1, m - 1, by have := HML.out; omega, Lib.hid (by have := HML.out; rw [List.length_drop]; omega), by simp [Addr.add], by omega, HD, ⟨by rw [HT.out]; exact T5.out.1⟩, ⟨T5.out.2⟩⟩
  · have d1 : decide ((32 : Int) < (m : Int)) = false := decide_eq_false (by omega)
    have d2 : decide (32 < m) = false := decide_eq_false hlt
    have hm32 : (l.drop j).length ≤ 32 := by rw [List.length_drop]; omega
    have KB1 : Aside0 (∀ W, Below w.heap.size w W → Calls Tryd.prog 28 #[.slice B m d] W fun e w' => e = .returned (.agg (barC (l.drop j) (l.drop j).length)) ∧ Below W.heap.size W w') := ⟨fun W hW => by
     rw [hm.out]; exact bare_calls B d (l.drop j) W (Kd.C_below hB.out hW) hm32⟩
    obtain ⟨ka, hka⟩ : ∃ ka, ka = barC (l.drop j) (l.drop j).length := ⟨_, rfl⟩
    rw [← hka] at KB1
    have HKA := Lib.hid hka
    have HML := Lib.hid hml
    clear hka hml hm32
    go_wp2_with (first
     | (go_at_call 28; (with_reducible refine (KB1.out _ hw.out).mono ?_); rintro e w4 ⟨rfl, b4⟩; have B4 := Aside0.mk b4; clear b4)
     | ((with_reducible refine gate_dst (N := 4) rfl ?_); refine box_event rfl (N := 4) rfl (cs := zK) (t := 59) ?hr ?_; (case hr => kernel_rfl); intro b hb w5 h5 l5; have B5 := Aside0.mk (And.intro hb (And.intro h5 l5)); clear hb h5 l5)
     | ((with_reducible refine gate_store (t := 59) (p := 4) (v := .tmp 18) rfl ?_); refine Aside0.out ?_))
    refine Aside0.mk ?_
    obtain ⟨eb, h5, l5⟩ := B5.out
    have b4 := B4.out
    have hks : ka.size = 33 := by rw [HKA.out]; exact barC_size _ _ (Nat.le_refl _) (by have := HML.out; rw [List.length_drop]; omega)
    have hko : ka.all (·.oneCell') = true := by rw [HKA.out]; exact barC_one _ _
    have hth : w5.there b 0 ka.size := fun i hi => by
     rw [hks] at hi
     refine ⟨?_, frozen_of_row w5 _ _ _ _ h5⟩
     rw [cell_of_row w5 _ _ _ _ _ h5, Nat.zero_add, Array.getElem?_eq_getElem (by simpa [zK] using hi)]
     rfl
    have hinf : (Tryd.prog.info? 59).map (·.size) = some ka.size := by rw [hks]; exact infoKey
    refine wpList_store_mid rfl 59 (.tmp 4) (.tmp 18) rfl b 0 ka rfl rfl hth hinf hko ?_
    have h6 : (w5.setCells b 0 ka.toList).heap[b]? = some (.cells ka 59 (0, 0)) := by
     have := setCells_block b 59 ka.toList [] zK.toList w5 (by rw [Array.length_toList, Array.length_toList, hks]; rfl) (by simpa using h5)
     simpa using this
    have hwb : w.heap.size ≤ b := by have := hw.out.size; have := b4.size; omega
    have low4 : Below w.heap.size w w4 := hw.out.trans (b4.mono hw.out.size)
    have low6 : Below w.heap.size w (w5.setCells b 0 ka.toList) := below_setCells hwb _ _ _ (low4.trans (l5.mono low4.size))
    have up6 : Below w4.heap.size w4 (w5.setCells b 0 ka.toList) := below_setCells (by omega) _ _ _ l5
    have R6 : Kd.R (Kd.int .i64) 3 (w5.setCells b 0 ka.toList) w.heap.size (fun _ => True) u3 ((l.take j).map mx) := Kd.R_below (Kd.R_below ho.out b4) up6
    obtain ⟨w6, hw6⟩ : ∃ w6, w6 = w5.setCells b 0 ka.toList := ⟨_, rfl⟩
    rw [← hw6] at h6 low6 R6 ⊢
    have H6 := Aside0.mk h6
    have L6 := Aside0.mk low6
    have HR6 := Aside0.mk R6
    have HI := Aside0.mk hinf
    have HKE : Aside0 (∀ W : World, (Op.equal 59 (.agg ka) (.agg (barC [] 0))).run Tryd.prog W = .ok (decide (l.drop j = [])) W) := ⟨fun W => by rw [HKA.out]; exact keyEq _ (by have := HML.out; rw [List.length_drop]; omega) W⟩
    have KB0 : Aside0 (∀ W, Calls Tryd.prog 28 #[.slice none 0 0] W fun e w' => e = .returned (.agg (barC [] 0)) ∧ Below W.heap.size W w') := ⟨fun W => bare_calls none 0 [] W (Kd.C_nil _ _) (by simp)⟩
    clear h6 low6 R6 hw6 up6 low4 h5 l5 b4 eb hko hth hinf B4 B5 KB1 hks
    obtain ⟨k0, hk0⟩ : ∃ k0, k0 = barC [] 0 := ⟨_, rfl⟩
    rw [← hk0] at HKE KB0
    clear hk0
    go_wp2_with fail
    simp only [Act.put]
    refine start_ (n := 3) (S := fun W => W.heap[b]? = some (.cells ka 59 (0, 0))) (ds := []) #[false, false, false] ?h1 ?h2 ?h3 H6.out (fun hHeld => ?_)
    case h1 => kernel_rfl
    case h2 => rfl
    case h3 => rfl
    refine take_ (i := 0) (N := some 19) (v := .agg ka) #[true, false, false] rfl rfl (by kernel_rfl) (fun _ _ _ h => h) (Or.inl ⟨by rfl, fun w' s0 => run_load_row 59 (.tmp 4) rfl b rfl 59 ka (0, 0) _ s0 Tryd.underlying59 rfl HI.out⟩) hHeld rfl ?_
    refine one_ (i := 1) (N := some 20) #[true, true, false] rfl rfl (by kernel_rfl) (by simp) (fun K hK => ?_)
    refine goes_ Tryd.func28 (by kernel_rfl) rfl #[.slice none 0 0] (by rfl) rfl rfl (by simp only [List.map_toArray, List.map_cons, List.map_nil]; rfl) ?_
    refine (KB0.out _).mono ?_
    rintro e w7 ⟨rfl, b7⟩
    have h7 : w7.heap[b]? = some (.cells ka 59 (0, 0)) := (b7.block b (Array.getElem?_eq_some_iff.1 hHeld).1).trans hHeld
    refine ⟨_, rfl, hK.out _ _ h7 (fun hHeld7 => ?_)⟩
    clear hK K
    refine one_ (i := 2) (N := some 21) #[true, true, true] rfl rfl (by kernel_rfl) (by simp) (fun K hK => ?_)
    obtain ⟨q, hqd⟩ : ∃ q : Bool, q = decide (l.drop j = []) := ⟨_, rfl⟩
    have hq : (Op.equalIn 10000 59 (.agg ka) (.agg k0)).run Tryd.prog w7 = .ok q w7 := by rw [hqd]; exact HKE.out w7
    refine value_ (w1 := w7) (v := .bool q) (by rfl) rfl ?_ ?_
    · go_simp
    refine hK.out _ _ h7 (fun hHeld8 => ?_)
    clear hK K
    refine done_ (by kernel_rfl) ?_
    simp only [Act.put, List.setIfInBounds_toArray, List.set_cons_zero, List.set_cons_succ]
    have low7 := (L6.out.drew).trans (b7.mono L6.out.drew.size)
    have R7 := Kd.R_below (Kd.R_drew HR6.out) b7
    have HQ := Lib.hid hqd
    clear hq hHeld hHeld7 hHeld8 b7
    by_cases hm0 : m = 0
    · have hjl : j = l.length := by have := HML.out; omega
      have hqt : q = true := by rw [HQ.out, decide_eq_true]; rw [hjl]; exact List.drop_length
      subst hqt
      rw [hjl, List.take_length] at R7
      obtain ⟨B', cap, ev⟩ := Kd.R_slice R7
      rw [ev] at R7
      obtain ⟨_, hcl, hcr⟩ := Kd.R_reads' R7
      rw [List.length_map] at ev hcl R7
      subst ev
      have R7A := Aside0.mk R7
      have L7 := Aside0.mk low7
      have KCl : Aside0 (∀ W, Calls Tryd.prog 29 #[.slice B' l.length cap] W fun e w' => e = .returned (.slice B' l.length l.length) ∧ Below W.heap.size W w') := ⟨fun W => clip_calls B' l.length cap W hcl (by omega)⟩
      clear R7 low7 hcr h7
      go_wp2_with (first
       | (go_at_call 29; (with_reducible refine (KCl.out _).mono ?_); rintro e w8 ⟨rfl, b8⟩))
      have hv := Ending.returned.inj (by assumption : Ending.returned (Value.slice B' l.length l.length) = Ending.returned _)
      subst hv
      go_ret
      exact ⟨B', cap, rfl, Kd.R_below R7A.out b8, L7.out.trans (b8.mono L7.out.size)⟩
    · have hqf : q = false := by
       rw [HQ.out, decide_eq_false]
       intro e
       have := congrArg List.length e
       rw [List.length_drop] at this
       have h2 := HML.out
       rw [List.length_nil] at this
       omega
      subst hqf
      have hm32 : (l.drop j).length ≤ 32 := by have := HML.out; rw [List.length_drop]; omega
      have h7k := h7
      rw [HKA.out] at h7k
      have hrow := key_row (l.drop j) hm32 h7k
      rw [← hm.out] at hrow
      have HROW := Aside0.mk hrow
      have R7A := Aside0.mk R7
      have L7 := Aside0.mk low7
      have hsz7 : w.heap.size ≤ w7.heap.size := low7.size
      have hm33 : (m : Int) + 1 ≤ ((Tryd.prog.arrayLen 59 : Nat) : Int) := by rw [arrLen]; omega
      have hm34 : (1 : Int) ≤ (m : Int) + 1 := by omega
      have hsl := run_sliceKey w7 b m (by omega)
      have HLT : Hid (((l.take j).map mx).length + m ≤ l.length) := Lib.hid (by have := HML.out; rw [List.length_map, List.length_take]; omega)
      clear R7 low7 hrow h7k hm32
      go_wp2_with (first
       | ((with_reducible refine gate_builtin (b := .append) (xs := #[.tmp 24, .tmp 28]) rfl ?_); at_builtin; refine Aside0.out ?_))
      refine Aside0.mk ?_
      refine Kd.R_append_row (Value.int .i64) 0 (w0 := w) w.heap.size rfl (.tmp 24) (.tmp 28) 22 3 (.int .i64 0) 8 rfl Tryd.underlying22 infoI rfl (by decide) u3 ((l.take j).map mx) ((l.drop j).map mx) (some ⟨b, 1, none⟩) m 32 (fun _ => True) rfl rfl (fun _ _ => trivial) R7A.out HROW.out L7.out hsz7 (by have := HLT.out; omega) ?_
      intro v1 w9 hR hB9 hg hat'
      have hmm : (l.take j).map mx ++ (l.drop j).map mx = l.map mx := by rw [← List.map_append, List.take_append_drop]
      rw [hmm] at hR
      obtain ⟨B', cap, ev⟩ := Kd.R_slice hR
      rw [ev] at hR
      obtain ⟨_, hcl, hcr⟩ := Kd.R_reads' hR
      rw [List.length_map] at ev hcl hR
      subst ev
      have R9 := Aside0.mk hR
      have L9 := Aside0.mk hB9
      have KCl : Aside0 (∀ W, Calls Tryd.prog 29 #[.slice B' l.length cap] W fun e w' => e = .returned (.slice B' l.length l.length) ∧ Below W.heap.size W w') := ⟨fun W => clip_calls B' l.length cap W hcl (by omega)⟩
      clear hR hB9 hg hat' hcr hmm h7 hsl
      go_wp2_with (first
       | (go_at_call 29; (with_reducible refine (KCl.out _).mono ?_); rintro e w8 ⟨rfl, b8⟩))
      go_ret
      exact ⟨B', cap, rfl, Kd.R_below R9.out b8, L9.out.trans (b8.mono L9.out.size)⟩
end Go.Proofs.YtaeaookonhaliaaDoor.R6
/- opform.faults: the iterator's contract. -/
set_option linter.unusedVariables false
set_option linter.unusedSimpArgs false
namespace Go.Proofs.YtaeaookonhaliaaDoor.R6
open Go.RowKit Go.Shelf Go.Proofs.YtaeaookonhaliaaDoorW.PrintWords Go.Proofs.YtaeaookonhaliaaDoorW.PrintLast Go.Proofs.YtaeaookonhaliaaDoorW.PrintMore
attribute [local go_sem] Oper.semAt_some

def badAt (l : List Int) (i : Nat) : Bool := decide (l.getD (i - 1) 0 < 0) && decide (l.getD i 0 < 0)
def fsTo (l : List Int) (k : Nat) : List Nat := (List.range k).filter fun i => decide (1 ≤ i) && badAt l i
def fsL (l : List Int) : List Nat := if l = [] then [0] else fsTo l l.length
theorem fsTo_succ (l : List Int) (k : Nat) (hk : 1 ≤ k) : fsTo l (k + 1) = fsTo l k ++ if badAt l k = true then [k] else [] := by
 unfold fsTo
 rw [List.range_succ, List.filter_append]
 congr 1
 by_cases h : badAt l k = true
 · rw [if_pos h]; simp [h, hk]
 · rw [if_neg h]; simp [h]
theorem fsTo_one (l : List Int) : fsTo l 1 = [] := by simp [fsTo, List.range_succ]
theorem fsTo_prefix (l : List Int) {k n : Nat} (h : k ≤ n) : fsTo l k <+: fsTo l n := by
 unfold fsTo
 obtain ⟨d, rfl⟩ : ∃ d, n = k + d := ⟨n - k, by omega⟩
 rw [List.range_add, List.filter_append]
 exact List.prefix_append _ _

def KB (n₀ Bs : Nat) (W W' : World) : Prop := Below n₀ W W' ∧ W'.heap[Bs]? = W.heap[Bs]?
theorem KB.refl (n₀ Bs : Nat) (W : World) : KB n₀ Bs W W := ⟨Below.refl _ _, rfl⟩
theorem KB.trans {n₀ Bs : Nat} {A B C : World} (h : KB n₀ Bs A B) (h' : KB n₀ Bs B C) : KB n₀ Bs A C := ⟨h.1.trans h'.1, h'.2.trans h.2⟩
theorem KB.put {n₀ Bs : Nat} {w : World} (h0 : n₀ ≤ w.heap.size) (hB : Bs < w.heap.size) (W : World) (l : Nat) (o o' : Obj) (hl : w.heap.size ≤ l) (ho : W.heap[l]? = some o) (h1 : o.isCells = false) (h2 : o.isWalk = false) : KB n₀ Bs W (W.putObj l o') :=
 ⟨⟨rfl, rfl, rfl, by simp, fun k hk => World.putObj_heap_other (by omega)⟩, World.putObj_heap_other (by omega)⟩
set_option maxRecDepth 100000 in
set_option maxHeartbeats 2000000 in
theorem faults1_in (F : Fence) (n : Nat) (hF : F.fn 43) (hro : F.round = none) (hn : 1 ≤ n) (y Bs n₀ : Nat) (A : Option Addr) (c : Nat) (l : List Int) (hm : l.length ≤ 9223372036854775807) (w0 : World) (hsz : w0.heap.size ≤ n₀) (hl : Kd.C (Kd.int .i64) w0 A l.length l) (J Jx : List Nat → World → Prop)
 (hY : ∀ pre x W, J pre W → pre.length < l.length + 1 → YieldAt F (n - 1) Tryd.prog y #[.int .i64 (x : Nat)] W fun e W' =>
  (e = .returned (.bool true) ∧ J (pre ++ [x]) W' ∧ KB n₀ Bs W W') ∨ (e = .returned (.bool false) ∧ Jx (pre ++ [x]) W'))
 (W : World) (h0W : Below w0.heap.size w0 W) (hbB : W.heap[Bs]? = some (.cells #[.slice A l.length c] 22 (0, 0))) (h0 : J [] W) :
 CallsIn F n Tryd.prog 43 #[.func (.yield y) #[] #[], .pointer (some ⟨Bs, 0, none⟩)] W fun e W' => (∃ v, e = .returned v) ∧
  ((∃ ys, ys = fsL l ∧ J ys W') ∨ (∃ pre, (pre <+: fsL l ∧ pre ≠ []) ∧ Jx pre W')) := by
 refine callsIn_of_wp Tryd.func43 rfl hF ?_ hro
 simp only [Tryd.ntmps43, List.size_toArray, List.length_cons, List.length_nil, Nat.reduceAdd, Nat.reduceSub, Array.replicate_succ, Array.replicate_zero, List.push_toArray, List.append_toArray, List.nil_append, List.cons_append]
 have hcB : W.cell? ⟨Bs, 0, none⟩ = some (.slice A l.length c) := by rw [Lib.cell_of_heap hbB]; rfl
 by_cases hnil : l = []
 · obtain ⟨fn, tmps, assign, body, hy0, hR⟩ := hY [] 0 W h0 (by simp)
   have hy : (Instr.yield y #[Value.int .i64 0]).run Tryd.prog W = .ok (.round y fn tmps assign body) W := hy0
   clear hy0
   subst hnil
   gi_wp2
   refine hR.mono ?_
   rintro e W3 (⟨rfl, hJ3, hk3⟩ | ⟨rfl, hJx3⟩)
   · gi_wp2
     refine bodyPost_ret (results_none rfl _ _ _) rfl ?_
     exact ⟨⟨_, rfl⟩, .inl ⟨_, rfl, hJ3⟩⟩
   · gi_wp2
     refine bodyPost_ret (results_none rfl _ _ _) rfl ?_
     exact ⟨⟨_, rfl⟩, .inr ⟨[0], ⟨(List.prefix_rfl : [0] <+: [0]), by simp⟩, hJx3⟩⟩
 · have hpos : 0 < l.length := List.length_pos_iff.2 hnil
   have hz2 : ((l.length : Int) == 0) = false := beq_false_of_ne (by omega)
   have hfl : fsL l = fsTo l l.length := if_neg hnil
   gi_wp2
   gi_loopw [3] (fun i wr => ∃ j : Nat, j + 1 ≤ l.length ∧ i = .int .i64 ((j : Int) + 1) ∧ J (fsTo l (j + 1)) wr ∧ KB n₀ Bs W wr) (fun i _ => l.length - (intOf i).toNat)
   case atStart => exact ⟨0, hpos, rfl, by rw [fsTo_one]; exact h0, KB.refl _ _ _⟩
   case round =>
    obtain ⟨j, hj, rfl, hJs, hnx⟩ := hrel
    have hcs : wr.cell? ⟨Bs, 0, none⟩ = some (.slice A l.length c) := by rw [Lib.cell_of_heap (hnx.2.trans hbB)]; rfl
    by_cases hlt : j + 1 < l.length
    · have hlw := Kd.C_below hl (h0W.trans (hnx.1.mono hsz))
      obtain ⟨ad, rfl, hx⟩ := Kd.at_int hlw (j : Int) (by omega) (by omega)
      obtain ⟨ad', ead, hx'⟩ := Kd.at_int hlw ((j : Int) + 1) (by omega) (by omega)
      obtain rfl := Option.some.inj ead
      rw [Int.toNat_natCast] at hx
      rw [show ((j : Int) + 1).toNat = j + 1 by omega] at hx'
      have hr : rd l (j : Int) = l.getD j 0 := rfl
      have hr' : rd l ((j : Int) + 1) = l.getD (j + 1) 0 := by unfold rd; rw [show ((j : Int) + 1).toNat = j + 1 by omega]
      rw [hr] at hx
      rw [hr', show ad.add (j + 1) = ⟨ad.block, ad.off + (j + 1), none⟩ from if_neg (by omega)] at hx'
      have hsu := fsTo_succ l (j + 1) (by omega)
      have hbad : badAt l (j + 1) = (decide (l.getD j 0 < 0) && decide (l.getD (j + 1) 0 < 0)) := rfl
      have hlen : (fsTo l (j + 1)).length < l.length + 1 := by
       have := List.length_filter_le (fun i => decide (1 ≤ i) && badAt l i) (List.range (j + 1))
       rw [List.length_range] at this
       unfold fsTo; omega
      generalize l.getD j 0 = u at hx hbad
      generalize l.getD (j + 1) 0 = v at hx' hbad
      by_cases hu : u < 0
      · by_cases hv : v < 0
        · have hbad : badAt l (j + 1) = true := by rw [hbad, decide_eq_true hu, decide_eq_true hv]; rfl
          obtain ⟨fn, tmps, assign, body, hy0, hR⟩ := hY _ (j + 1) wr hJs hlen
          have hy : (Instr.yield y #[Value.int .i64 ((j : Int) + 1)]).run Tryd.prog wr = .ok (.round y fn tmps assign body) wr := hy0
          clear hy0
          rw [if_pos hbad] at hsu
          gi_wp2
          refine hR.mono ?_
          rintro e W3 (⟨rfl, hJ3, hk3⟩ | ⟨rfl, hJx3⟩)
          · rw [← hsu] at hJ3
            gi_wp2
            go_roundw
            case rel => exact ⟨j + 1, by omega, by go_num, hJ3, hnx.trans hk3⟩
            case measure => simp [intOf]; omega
          · rw [← hsu] at hJx3
            gi_wp2
            refine bodyPost_ret (results_none rfl _ _ _) rfl ?_
            exact ⟨⟨_, rfl⟩, .inr ⟨_, ⟨by rw [hfl]; exact fsTo_prefix l hlt, by rw [hsu]; simp⟩, hJx3⟩⟩
        · rw [hbad, decide_eq_true hu, decide_eq_false hv, if_neg (by decide), List.append_nil] at hsu
          gi_wp2
          refine ⟨fun _ h => (by cases h), ?_⟩
          gi_wp2
          go_roundw
          case rel => exact ⟨j + 1, by omega, by go_num, by rw [hsu]; exact hJs, hnx⟩
          case measure => simp [intOf]; omega
      · rw [hbad, decide_eq_false hu, Bool.false_and, if_neg (by decide), List.append_nil] at hsu
        gi_wp2
        refine ⟨fun _ h => (by cases h), ?_⟩
        gi_wp2
        go_roundw
        case rel => exact ⟨j + 1, by omega, by go_num, by rw [hsu]; exact hJs, hnx⟩
        case measure => simp [intOf]; omega
    · have hjl : j + 1 = l.length := by omega
      rw [hjl] at hJs
      have hjz : (j : Int) + 1 = (l.length : Int) := by omega
      gi_wp2
      go_end0
      exact ⟨⟨_, rfl⟩, .inl ⟨_, hfl.symm, hJs⟩⟩
theorem faults_stops (F : Fence) (n : Nat) (hF : F.fn 43) (hro : F.round = none) (hn : 1 ≤ n) (Bs n₀ : Nat) (A : Option Addr) (c : Nat) (l : List Int) (hm : l.length ≤ 9223372036854775807) (w0 w : World) (hsz : w0.heap.size ≤ n₀) (hl : Kd.C (Kd.int .i64) w0 A l.length l) (h0w : Below w0.heap.size w0 w) (hBs : Bs < w.heap.size)
 (hbB : w.heap[Bs]? = some (.cells #[.slice A l.length c] 22 (0, 0))) :
 SeqStopsK F n Tryd.prog 43 #[.pointer (some ⟨Bs, 0, none⟩)] (fun x : Nat => #[Value.int .i64 (x : Int)]) (KB n₀ Bs) (fun ys => ys = fsL l) (fun pre => pre <+: fsL l ∧ pre ≠ []) (l.length + 1) w := fun y J Jx W hW _ _ hY h0 =>
 faults1_in F n hF hro hn y Bs n₀ A c l hm w0 hsz hl J Jx hY W (h0w.trans (hW.mono h0w.size)) ((hW.block _ hBs).trans hbB) h0
theorem faults_calls (A : Option Addr) (m c : Nat) (w : World) : Calls Tryd.prog 32 #[.slice A m c] w fun e w' => e = .returned (.func (.func 43) #[] #[.pointer (some ⟨w.heap.size, 0, none⟩)]) ∧ w' = w.alloc (.cells #[.slice A m c] 22) := by
 go_enter Tryd.func32, Tryd.ntmps32
 go_wp2_with fail
 go_ret
 exact ⟨rfl, rfl⟩
end Go.Proofs.YtaeaookonhaliaaDoor.R6
/- Literals as rows. -/
set_option linter.unusedVariables false
set_option linter.unusedSimpArgs false
namespace Go.Proofs.YtaeaookonhaliaaDoor.R6
open Go.RowKit Go.Proofs.YtaeaookonhaliaaDoorW.PrintWords Go.Proofs.YtaeaookonhaliaaDoorW.PrintLast Go.Proofs.YtaeaookonhaliaaDoorW.PrintMore
open Go.Proofs.YtaeaookonhaliaaDoor.B
theorem add0 (b n : Nat) : (⟨b, 0, none⟩ : Addr).add n = ⟨b, n, none⟩ := by
 unfold Addr.add
 by_cases h : n = 0
 · rw [if_pos h, h]
 · rw [if_neg h]; simp
theorem halloc (w : World) (o : Obj) : (w.alloc o).heap = w.heap.push o := rfl
theorem lit_row {α : Type} (d : Kd α) {W : World} {b : Nat} {t : TypeId} {cells : Array Value} (h : W.heap[b]? = some (.cells cells t (0, 0))) (xs : List α) (hm : xs.length ≤ 9223372036854775807)
 (hx : ∀ j p, xs[j]? = some p → ∃ c, c.length = d.sz ∧ d.K W p c ∧ ∀ i u, c[i]? = some u → cells[j * d.sz + i]? = some u) : Kd.C d W (some ⟨b, 0, none⟩) xs.length xs :=
 ⟨rfl, hm, fun _ => ⟨_, rfl, fun j p hj => by
  obtain ⟨c, h1, h2, h3⟩ := hx j p hj
  refine ⟨c, h1, h2, fun i u hu => ?_⟩
  have h4 := h3 i u hu
  rw [add0, Lib.cell_of_heap h, h4]⟩⟩
theorem lit_I {W : World} {b : Nat} {t : TypeId} (l : List Int) (hm : l.length ≤ 9223372036854775807) (h : W.heap[b]? = some (.cells (l.map (Value.int .i64)).toArray t (0, 0))) : Kd.C (Kd.int .i64) W (some ⟨b, 0, none⟩) l.length l :=
 lit_row _ h l hm fun j p hj => ⟨[.int .i64 p], rfl, rfl, fun i u hu => by
  obtain rfl : i = 0 := by
   rcases i with _ | i
   · rfl
   · simp at hu
  obtain rfl : Value.int .i64 p = u := by simpa using hu
  show (l.map (Value.int .i64)).toArray[j * 1 + 0]? = _
  simp [hj]⟩
theorem lit_L {W : World} {b : Nat} {t : TypeId} (L : List (List Int × (Option Addr × Nat))) (hm : L.length ≤ 9223372036854775807) (h : W.heap[b]? = some (.cells (L.map fun x => Value.slice x.2.1 x.1.length x.2.2).toArray t (0, 0)))
 (hR : ∀ x ∈ L, x.1.length ≤ x.2.2 ∧ Kd.C (Kd.int .i64) W x.2.1 x.1.length x.1) : Kd.C (Kd.slice 3 (Kd.int .i64)) W (some ⟨b, 0, none⟩) L.length (L.map Prod.fst) := by
 have := lit_row (Kd.slice 3 (Kd.int .i64)) h (L.map Prod.fst) (by rw [List.length_map]; exact hm) fun j p hj => by
  rw [List.getElem?_map] at hj
  obtain ⟨x, hx, rfl⟩ := Option.map_eq_some_iff.1 hj
  have h1 := hR x (List.mem_of_getElem? hx)
  refine ⟨[.slice x.2.1 x.1.length x.2.2], rfl, ⟨x.2.1, x.2.2, rfl, h1.1, h1.2⟩, fun i u hu => ?_⟩
  obtain rfl : i = 0 := by
   rcases i with _ | i
   · rfl
   · simp at hu
  obtain rfl : Value.slice x.2.1 x.1.length x.2.2 = u := by simpa using hu
  show (L.map fun x => Value.slice x.2.1 x.1.length x.2.2).toArray[j * 1 + 0]? = _
  simp [hx]
 rw [List.length_map] at this
 exact this
end Go.Proofs.YtaeaookonhaliaaDoor.R6
/- opform.Terms: walked; the contract of its iterator. -/
set_option linter.unusedVariables false
set_option linter.unusedSimpArgs false
namespace Go.Proofs.YtaeaookonhaliaaDoor.R6
open Go.RowKit Go.Shelf Go.Proofs.YtaeaookonhaliaaDoorW.PrintWords Go.Proofs.YtaeaookonhaliaaDoorW.PrintLast Go.Proofs.YtaeaookonhaliaaDoorW.PrintMore
open Go.Proofs.YtaeaookonhaliaaDoor.B Go.Proofs.YtaeaookonhaliaaDoor.H Go.Proofs.YtaeaookonhaliaaDoor.F
def KS (ks : List Nat) (W W' : World) : Prop := ∀ k ∈ ks, W'.heap[k]? = W.heap[k]?
theorem KS.refl (ks : List Nat) (W : World) : KS ks W W := fun _ _ => rfl
theorem KS.trans {ks : List Nat} {A B C : World} (h : KS ks A B) (h' : KS ks B C) : KS ks A C := fun k hk => (h' k hk).trans (h k hk)
end Go.Proofs.YtaeaookonhaliaaDoor.R6
/- The marks that ranges over functions leave, where they stand in a plain loop. -/
namespace Go.Proofs.YtaeaookonhaliaaDoor.R6
open Go Go.RowKit
def marks (Ds : List Nat) : List Deferred := Ds.map fun D => { target := .collected D, args := #[] }
theorem leaves_marks {F : Fence} {n : Nat} {P : Program} {fn : Func} {tmps : Array Value} {R : Ending → World → Prop} (base : Nat) : ∀ (Ds : List Nat) (w : World), Ds.Nodup → (∀ D ∈ Ds, base ≤ D ∧ w.heap[D]? = some (.deferred (some []))) →
 (∀ w', Below base w w' → (∀ k, k ∉ Ds → w'.heap[k]? = w.heap[k]?) → LeavesIn F n P fn tmps R [] .returning w') → LeavesInM F n P fn tmps R (marks Ds) .returning w
 | [], w, _, _, h => h w (Below.refl _ _) (fun _ _ => rfl)
 | D :: Ds, w, hn, hD, h => by
  have hd := hD D List.mem_cons_self
  have hn' := List.nodup_cons.1 hn
  refine ⟨by simp, .inl ⟨D, w.putObj D (.deferred none), rfl, run_takeDeferred hd.2, ?_⟩⟩
  have hb0 : Below base w (w.putObj D (.deferred none)) := ⟨rfl, rfl, rfl, by simp, fun k hk2 => World.putObj_heap_other (by have := hd.1; omega)⟩
  refine leaves_marks base Ds _ hn'.2 (fun D' h' => ?_) (fun w' hb hk => ?_)
  · have := hD D' (List.mem_cons_of_mem _ h')
    have hne : D' ≠ D := fun e => hn'.1 (by rw [← e]; exact h')
    exact ⟨this.1, (World.putObj_heap_other hne).trans this.2⟩
  · refine h w' (hb0.trans hb) fun k hk3 => ?_
    rw [List.mem_cons, not_or] at hk3
    exact (hk k hk3.2).trans (World.putObj_heap_other hk3.1)
end Go.Proofs.YtaeaookonhaliaaDoor.R6
/- opform.Check: walked. -/
set_option linter.unusedVariables false
set_option linter.unusedSimpArgs false
namespace Go.Proofs.YtaeaookonhaliaaDoor.R6
open Go.RowKit Go.Shelf Go.Proofs.YtaeaookonhaliaaDoorW.PrintWords Go.Proofs.YtaeaookonhaliaaDoorW.PrintLast Go.Proofs.YtaeaookonhaliaaDoorW.PrintMore
open Go.Proofs.YtaeaookonhaliaaDoor.B Go.Proofs.YtaeaookonhaliaaDoor.H Go.Proofs.YtaeaookonhaliaaDoor.F
attribute [local go_sem] Oper.semAt_some

def badR (R : List S55) : Option Nat := R.findIdx? fun x => !(fsL x.f1).isEmpty
def opP (l0 l1 : List ByteArray) (a2 : Int) (R : List S55) : Int × Int :=
 if (chk (namesOK l0) (namesOK l1) l0.length l1.length a2 R).1 = 0 then match badR R with | some i => (4, (i : Int)) | none => (0, -1)
 else chk (namesOK l0) (namesOK l1) l0.length l1.length a2 R
theorem sent_op {ad : Int → Addr} {w : World} (h : SentsK ad w) : w.cell? ⟨0, 0, none⟩ = some (.iface 114 (.pointer (some (ad 4)))) := by
 obtain ⟨⟨h1, h2, h3, h4, h5, h6, h7, h8, h9, h10, h11, h12, h13, h14, h15⟩, _, _⟩ := h
 exact h4
theorem frozen0 {W : World} {b : Nat} {cs : Array Value} {t : TypeId} (h : W.heap[b]? = some (.cells cs t (0, 0))) : W.frozen? ⟨b, 0, none⟩ = false := by simp [World.frozen?, h]
structure OC (w : World) (cs : Array Value) (v : Value) (W : World) : Prop where
 low : Below w.heap.size w W
 gb : W.heap[w.heap.size]? = some (.cells cs 29 (0, 0))
 eb : W.heap[w.heap.size + 1]? = some (.cells #[v] 32 (0, 0))
section
variable {w W W' : World} {cs : Array Value} {v : Value}
theorem OC.start (w : World) (cs : Array Value) (v : Value) : OC w cs v ((w.alloc (.cells cs 29)).alloc (.cells #[v] 32)) := by
 have h1 : (w.alloc (.cells cs 29)).heap[w.heap.size]? = some (.cells cs 29 (0, 0)) := World.alloc_heap_new w _
 have h2 := World.alloc_heap_new (w.alloc (.cells cs 29)) (.cells #[v] 32)
 rw [World.size_alloc] at h2
 exact ⟨((Below.refl _ w).alloc (Nat.le_refl _) _).alloc (by simp) _, (Below.heap_alloc _ _ _ (by simp)).trans h1, h2⟩
theorem OC.sz (h : OC w cs v W) : w.heap.size + 2 ≤ W.heap.size := by
 have h2 := h.eb
 rcases Nat.lt_or_ge (w.heap.size + 1) W.heap.size with h1 | h1
 · exact h1
 · rw [Array.getElem?_eq_none h1] at h2; cases h2
theorem OC.base (h : OC w cs v W) (base : Nat) (hb : Below base W W') (h0 : w.heap.size + 2 ≤ base) : OC w cs v W' := ⟨h.low.trans (hb.mono (by omega)), (hb.block _ (by omega)).trans h.gb, (hb.block _ (by omega)).trans h.eb⟩
theorem OC.more (h : OC w cs v W) (hb : Below W.heap.size W W') : OC w cs v W' := h.base W.heap.size hb h.sz
theorem OC.cells {v0 v1 v2 v3 : Value} (h : OC w #[v0, v1, v2, v3] v W) : W.cell? ⟨w.heap.size, 0, none⟩ = some v0 ∧ W.cell? ⟨w.heap.size, 1, none⟩ = some v1 ∧ W.cell? ⟨w.heap.size, 2, none⟩ = some v2 ∧ W.cell? ⟨w.heap.size, 3, none⟩ = some v3 ∧ W.cell? ⟨w.heap.size + 1, 0, none⟩ = some v ∧ W.frozen? ⟨w.heap.size + 1, 0, none⟩ = false :=
 ⟨by rw [Lib.cell_of_heap h.gb]; rfl, by rw [Lib.cell_of_heap h.gb]; rfl, by rw [Lib.cell_of_heap h.gb]; rfl, by rw [Lib.cell_of_heap h.gb]; rfl, by rw [Lib.cell_of_heap h.eb]; rfl, frozen0 h.eb⟩
end
theorem errW_put {ad : Int → Addr} {W : World} {E : Value} {p : Int × Int} {b : Nat} (h : ErrW ad W E p) (hb : ∃ v, W.heap[b]? = some (.cells #[v] 32 (0, 0))) (u : Value) : ErrW ad (W.setCell ⟨b, 0, none⟩ u) E p := by
 rcases h with h | h | ⟨h1, h2, h3, c, h4, h5⟩
 · exact .inl h
 · exact .inr (.inl h)
 · refine .inr (.inr ⟨h1, h2, h3, c, h4, blk_far h5 (fun e => ?_) u⟩)
   obtain ⟨v, hv⟩ := hb
   have e2 : c = b := e
   rw [e2, hv] at h5
   cases h5
theorem badR_some {R : List S55} {k : Nat} (hk : k < R.length) (h1 : ∀ x ∈ R.take k, fsL x.f1 = []) (h2 : fsL R[k].f1 ≠ []) : badR R = some k := by
 unfold badR
 rw [List.findIdx?_eq_some_iff_getElem]
 refine ⟨hk, by simpa using h2, fun j hj => ?_⟩
 have := h1 R[j] (List.mem_take_iff_getElem.2 ⟨j, by omega, rfl⟩)
 simp [this]
theorem badR_none {R : List S55} (h1 : ∀ x ∈ R, fsL x.f1 = []) : badR R = none := by
 unfold badR
 rw [List.findIdx?_eq_none_iff]
 intro x hx
 simp [h1 x hx]
structure CI (w : World) (cs : Array Value) (v : Value) (ib k : Nat) (Ds : List Nat) (B : Nat) (W : World) : Prop where
 oc : OC w cs v W
 ibx : W.heap[ib]? = some (.cells #[.int .i64 (k : Int)] 3 (0, 0))
 ds : ∀ D ∈ Ds, w.heap.size + 2 ≤ D ∧ D < B ∧ W.heap[D]? = some (.deferred (some []))
section
variable {w W W' : World} {cs : Array Value} {v : Value} {ib k B : Nat} {Ds : List Nat}
theorem grown_cells {row : Option Nat} (hg : W.grownBy W' row) (hr : ∀ r, row = some r → B ≤ r ∧ ∃ o : Obj, W.heap[r]? = some o ∧ o.isCells = false) {b : Nat} {cells : Array Value} {t : TypeId} {fr : Nat × Nat} (h : W.heap[b]? = some (.cells cells t fr)) : W'.heap[b]? = some (.cells cells t fr) :=
 (hg.block b (Array.getElem?_eq_some_iff.1 h).1 (fun e => by
  obtain ⟨_, o, ho, hc⟩ := hr b e.symm
  rw [h] at ho
  cases ho
  cases hc)).trans h
theorem CI.grown {row : Option Nat} (h : CI w cs v ib k Ds B W) (hB : w.heap.size ≤ B) (hg : W.grownBy W' row) (hr : ∀ r, row = some r → B ≤ r ∧ ∃ o : Obj, W.heap[r]? = some o ∧ o.isCells = false) : CI w cs v ib k Ds B W' := by
 refine ⟨⟨h.oc.low.grown hg h.oc.low.size (fun r e => Nat.le_trans hB (hr r e).1), grown_cells hg hr h.oc.gb, grown_cells hg hr h.oc.eb⟩, grown_cells hg hr h.ibx, fun D hD => ?_⟩
 obtain ⟨d1, d2, d3⟩ := h.ds D hD
 exact ⟨d1, d2, (hg.block D (Array.getElem?_eq_some_iff.1 d3).1 (fun e => by have := (hr D e.symm).1; omega)).trans d3⟩
theorem CI.alloc (h : CI w cs v ib k Ds B W) (o : Obj) : CI w cs v ib k Ds B (W.alloc o) :=
 ⟨h.oc.more ((Below.refl _ W).alloc (Nat.le_refl _) o), (Below.heap_alloc W o _ (Array.getElem?_eq_some_iff.1 h.ibx).1).trans h.ibx, fun D hD => ⟨(h.ds D hD).1, (h.ds D hD).2.1, (Below.heap_alloc W o _ (Array.getElem?_eq_some_iff.1 (h.ds D hD).2.2).1).trans (h.ds D hD).2.2⟩⟩
theorem OC.put (h : OC w cs v W) (u : Value) : OC w cs u (W.setCell ⟨w.heap.size + 1, 0, none⟩ u) := ⟨h.low.setCell (p := ⟨w.heap.size + 1, 0, none⟩) (by simp) u, blk_far h.gb (by simp) u, by simpa using blk_set h.eb 0 u⟩
theorem CI.put (h : CI w cs v ib k Ds B W) (hib : ib ≠ w.heap.size + 1) (u : Value) : CI w cs u ib k Ds B (W.setCell ⟨w.heap.size + 1, 0, none⟩ u) := by
 have hne : ∀ D ∈ Ds, D ≠ w.heap.size + 1 := fun D hD => by have := (h.ds D hD).1; omega
 exact ⟨⟨h.oc.low.setCell (p := ⟨w.heap.size + 1, 0, none⟩) (by simp) u, blk_far h.oc.gb (by simp) u, by simpa using blk_set h.oc.eb 0 u⟩, blk_far h.ibx hib u, fun D hD => ⟨(h.ds D hD).1, (h.ds D hD).2.1, (KeepsOthers.setCell W _ u).same D _ (h.ds D hD).2.2 rfl⟩⟩
end
set_option maxRecDepth 100000 in
set_option maxHeartbeats 4000000 in
theorem Check_1 (ad : Int → Addr) (A0 : Option Addr) (c0 : Nat) (l0 : List ByteArray) (A1 : Option Addr) (c1 : Nat) (l1 : List ByteArray) (a2 : Int) (A3 : Option Addr) (c3 : Nat) (R : List S55) (w : World) (hs : SentsK ad w) (hr0 : Kd.C Kd.string w A0 l0.length l0) (hc0 : l0.length ≤ c0) (hr1 : Kd.C Kd.string w A1 l1.length l1) (hc1 : l1.length ≤ c1) (hr3 : Kd.C k55 w A3 R.length R) (hc3 : R.length ≤ c3) (hp : (chk (namesOK l0) (namesOK l1) l0.length l1.length a2 R).1 = 0) :
 Calls Tryd.prog 12 #[.agg #[.slice A0 l0.length c0, .slice A1 l1.length c1, .int .i64 a2, .slice A3 R.length c3]] w fun e w' => ∃ E, e = .returned E ∧ ErrW ad w' E (match badR R with | some i => (4, (i : Int)) | none => (0, -1)) ∧ Below w.heap.size w w' := by
 obtain ⟨q1, q2, q3, q4, q5, q6, q7⟩ := chk_ok hp
 obtain ⟨cs, hcs⟩ : ∃ cs : Array Value, cs = #[.slice A0 l0.length c0, .slice A1 l1.length c1, .int .i64 a2, .slice A3 R.length c3] := ⟨_, rfl⟩
 have st : OC w cs .nilIface ((w.alloc (.cells #[.slice A0 l0.length c0, .slice A1 l1.length c1, .int .i64 a2, .slice A3 R.length c3] 29)).alloc (.cells #[.nilIface] 32)) := by subst hcs; exact OC.start w _ _
 have CE : Aside0 (∀ v W, OC w cs v W → W.cell? ⟨w.heap.size, 0, none⟩ = some (.slice A0 l0.length c0) ∧ W.cell? ⟨w.heap.size, 1, none⟩ = some (.slice A1 l1.length c1) ∧ W.cell? ⟨w.heap.size, 2, none⟩ = some (.int .i64 a2) ∧ W.cell? ⟨w.heap.size, 3, none⟩ = some (.slice A3 R.length c3) ∧ W.cell? ⟨w.heap.size + 1, 0, none⟩ = some v ∧ W.frozen? ⟨w.heap.size + 1, 0, none⟩ = false) := ⟨by
  intro v W hW; subst hcs; exact hW.cells⟩
 have KC : Aside0 (∀ W, OC w cs .nilIface W → Calls Tryd.prog 26 #[.agg #[.slice A0 l0.length c0, .slice A1 l1.length c1, .int .i64 a2, .slice A3 R.length c3]] W fun e w' => e = .returned .nilIface ∧ Aside0 (OC w cs .nilIface w')) := ⟨fun W hW =>
  (Check_any ad A0 c0 l0 A1 c1 l1 a2 A3 c3 R W (hs.below hW.low) (Kd.C_below hr0 hW.low) hc0 (Kd.C_below hr1 hW.low) hc1 (Kd.C_below hr3 hW.low) hc3).mono fun e w' ⟨⟨v, he, hv⟩, hb⟩ => by
   obtain rfl := (ErrW.of hv).nil hp
   exact ⟨he, ⟨hW.more hb⟩⟩⟩
 have KG : Aside0 (∀ W, Below w.heap.size w W → W.cell? ⟨0, 0, none⟩ = some (.iface 114 (.pointer (some (ad 4))))) := ⟨fun W hW => sent_op (hs.below hW)⟩
 have ST := Aside0.mk st
 have HR3 := Aside0.mk hr3
 have HCS := Lib.hid hcs
 have hok : ∀ x ∈ R, x.f1.length ≤ 32 := fun x hx => (okR_sides (q7 x hx)).1
 clear st hcs hs hr0 hr1 hr3 hp q3 q4 q5 q6 q7
 obtain ⟨br, hbr⟩ : ∃ br : Int × Int, br = (match badR R with | some i => (4, (i : Int)) | none => (0, -1)) := ⟨_, rfl⟩
 rw [← hbr]
 have HBR := Lib.hid hbr
 clear hbr
 refine (callsIn_wide (n := 7)).1 ?_
 refine callsIn_of_wp_marks Tryd.func12 rfl trivial ?_ rfl
 simp only [Tryd.ntmps12, List.size_toArray, List.length_cons, List.length_nil, Nat.reduceAdd, Nat.reduceSub, Array.replicate_succ, Array.replicate_zero, List.push_toArray, List.append_toArray, List.nil_append, List.cons_append]
 gi_wp2_with (first
  | (refine ⟨trivial, ?_⟩; gi_at_call 26; refine (callsIn_wide.2 (KC.out _ ST.out)).mono ?_; rintro e w2 ⟨rfl, t2⟩; obtain ⟨f0, f1, f2, f3, f4, f5⟩ := CE.out _ _ t2.out))
 refine wpIn_loop (fun a' W => ∃ (k : Nat) (u4 u5 u15 u16 u17 u18 u19 u20 u21 u22 u23 u24 u25 u26 u27 u28 : Value) (Ds : List Nat), a' = { tmps := #[.agg #[.slice A0 l0.length c0, .slice A1 l1.length c1, .int .i64 a2, .slice A3 R.length c3], .pointer (some ⟨w.heap.size, 0, none⟩), .pointer (some ⟨w.heap.size + 1, 0, none⟩), .nilIface, u4, u5, .agg #[.slice A0 l0.length c0, .slice A1 l1.length c1, .int .i64 a2, .slice A3 R.length c3], .nilIface, .nilIface, .bool false, undef, .pointer (some ⟨w.heap.size, 3, none⟩), .slice A3 R.length c3, .int .i64 R.length, .int .i64 k, u15, u16, u17, u18, u19, u20, u21, u22, u23, u24, u25, u26, u27, u28], defers := marks Ds } ∧ k ≤ R.length ∧ Aside0 (OC w cs .nilIface W) ∧ Aside0 (∀ x ∈ R.take k, fsL x.f1 = []) ∧ Aside0 (Ds.Nodup ∧ ∀ D ∈ Ds, w.heap.size + 2 ≤ D ∧ W.heap[D]? = some (.deferred (some []))))
  (fun a' _ => R.length - (intOf (a'.tmps.getD 14 undef)).toNat) ⟨0, _, _, _, _, _, _, _, _, _, _, _, _, _, _, _, _, [], rfl, Nat.zero_le _, t2, ⟨fun x hx => absurd hx (by simp)⟩, ⟨List.nodup_nil, fun D hD => absurd hD List.not_mem_nil⟩⟩ ?_
 clear t2 f0 f1 f2 f3 f4 f5
 rintro a' W ⟨k, u4, u5, u15, u16, u17, u18, u19, u20, u21, u22, u23, u24, u25, u26, u27, u28, Ds, rfl, hk, tr, hno, hds⟩
 by_cases hlt : k < R.length
 · have hmem := List.getElem_mem hlt
   obtain ⟨ad3, A', c', e1, y0, y1, e4, e5⟩ := at_T55 HR3.out (k : Int) (by omega) (by omega)
   have hrd : rd_T55 R (k : Int) = R[k] := by rw [rdR_D, getD_lt R k _ hlt]
   rw [Int.toNat_natCast, hrd] at y0 y1
   rw [hrd] at e4 e5
   have htk := List.take_succ_eq_append_getElem hlt
   have hx32 := hok _ hmem
   have HXK : Aside0 (∀ h : k < R.length, ∀ y, y = R[k] → R[k] = y) := ⟨fun _ _ e => e.symm⟩
   obtain ⟨x, hxk⟩ : ∃ x, x = R[k] := ⟨_, rfl⟩
   rw [← hxk] at y0 y1 e4 e5 hx32
   have HX := Lib.hid hxk
   clear hxk HXK
   subst e1
   have c0' := (tr.out.low.cell (World.block_lt_of_cell? w _ y0)).trans y0
   have c1' := (tr.out.low.cell (World.block_lt_of_cell? w _ y1)).trans y1
   obtain ⟨f0, f1, f2, f3, f4, f5⟩ := CE.out _ _ tr.out
   clear hmem htk hrd
   have hok2 := Aside0.mk hok
   have hx2 := Aside0.mk e5
   clear hok e5
   gi_wp2_with (first
    | (refine ⟨trivial, ?_⟩; gi_at_call 32; refine (callsIn_wide.2 (faults_calls _ _ _ _)).mono ?_; rintro e w3 ⟨rfl, rfl⟩))
   obtain ⟨Wf, hWf⟩ : ∃ Wf, Wf = ((W.alloc (.cells #[.int .i64 k] 3)).alloc (.cells #[.int .i64 x.f0, .slice A' x.f1.length c'] 55)).alloc (.cells #[.slice A' x.f1.length c'] 22) := ⟨_, rfl⟩
   have szf : Wf.heap.size = W.heap.size + 3 := by rw [hWf]; simp
   have bwf : Below W.heap.size W Wf := by rw [hWf]; exact (((Below.refl _ W).alloc (Nat.le_refl _) _).alloc (by simp) _).alloc (by simp; omega) _
   have ocf := tr.out.more bwf
   have ibf : Wf.heap[W.heap.size]? = some (.cells #[.int .i64 (k : Int)] 3 (0, 0)) := by
    rw [hWf]
    exact ((Below.heap_alloc _ _ _ (by simp; omega)).trans (Below.heap_alloc _ _ _ (by simp))).trans (World.alloc_heap_new W _)
   have bsf : Wf.heap[W.heap.size + 1 + 1]? = some (.cells #[.slice A' x.f1.length c'] 22 (0, 0)) := by
    rw [hWf]
    have := World.alloc_heap_new ((W.alloc (.cells #[.int .i64 k] 3)).alloc (.cells #[.int .i64 x.f0, .slice A' x.f1.length c'] 55)) (.cells #[.slice A' x.f1.length c'] 22)
    rwa [World.size_alloc, World.size_alloc] at this
   have cif : CI w cs .nilIface W.heap.size k Ds Wf.heap.size Wf := ⟨ocf, ibf, fun D hD => by
    have h1 := (hds.out.2 D hD).2
    have h2 := (Array.getElem?_eq_some_iff.1 h1).1
    exact ⟨(hds.out.2 D hD).1, by omega, (bwf.block D h2).trans h1⟩⟩
   have hwsz := tr.out.sz
   rw [← hWf]
   refine wpIn_rangeFunc_ownG (F := Fence.wide) rfl (by omega) (gf := 43) (lb := #[.pointer (some ⟨W.heap.size + 1 + 1, 0, none⟩)]) rfl trivial (enters_of Tryd.func43 (by kernel_rfl) rfl)
    (faults_stops Fence.wide 6 trivial rfl (by omega) (W.heap.size + 1 + 1) w.heap.size A' c' x.f1 (by omega) w Wf (Nat.le_refl _) hx2.out ocf.low (by omega) bsf) KB.trans (KB.put (by omega) (by omega)) (Below.refl _ _) (fun _ => rfl)
    (fun pre W' => pre = [] ∧ CI w cs .nilIface W.heap.size k Ds Wf.heap.size W')
    (fun c _ W' => c = .ret ∧ ∃ eb, CI w cs (.iface 66 (.pointer (some ⟨eb, 0, none⟩))) W.heap.size k Ds Wf.heap.size W' ∧ W'.heap[eb]? = some (.cells #[.int .i64 (k : Int), .iface 114 (.pointer (some (ad 4)))] 68 (0, 0)))
    (fun s X Y row hs hg hr => ⟨hs.1, hs.2.grown (by omega) hg hr⟩)
    (fun c s X Y row hs hg hr => ⟨hs.1, hs.2.imp fun eb h => ⟨h.1.grown (by omega) hg hr, grown_cells hg hr h.2⟩⟩)
    ⟨rfl, cif⟩
    (fun y : Nat => { tmps := #[.agg #[.slice A0 l0.length c0, .slice A1 l1.length c1, .int .i64 a2, .slice (some ad3) R.length c3], .pointer (some ⟨w.heap.size, 0, none⟩), .pointer (some ⟨w.heap.size + 1, 0, none⟩), .nilIface, .pointer (some ⟨W.heap.size, 0, none⟩), .pointer (some ⟨W.heap.size + 1, 0, none⟩), .agg #[.slice A0 l0.length c0, .slice A1 l1.length c1, .int .i64 a2, .slice (some ad3) R.length c3], .nilIface, .nilIface, .bool false, undef, .pointer (some ⟨w.heap.size, 3, none⟩), .slice (some ad3) R.length c3, .int .i64 R.length, .int .i64 k, .bool true, .int .i64 k, .pointer (some (ad3.add (k * 2))), .agg #[.int .i64 x.f0, .slice A' x.f1.length c'], .pointer (some ⟨W.heap.size + 1, 1, none⟩), .slice A' x.f1.length c', .func (.func 43) #[] #[.pointer (some ⟨W.heap.size + 1 + 1, 0, none⟩)], .int .i64 (y : Int), u23, u24, u25, u26, u27, u28], defers := [] }) ?assign ?body ?done ?stop
   case assign =>
    intro l y W' K hK
    gi_wp2
    simpa using hK
   case body =>
    rintro l pre y W' ⟨rfl, ci⟩ _
    obtain ⟨f0, f1, f2, f3, f4, f5⟩ := CE.out _ _ ci.oc
    have fi : W'.cell? ⟨W.heap.size, 0, none⟩ = some (.int .i64 (k : Int)) := by rw [Lib.cell_of_heap ci.ibx]; rfl
    have he := KG.out _ ci.oc.low
    have ci2 := ci.alloc (.cells #[.int .i64 (k : Int), .iface 114 (.pointer (some (ad 4)))] 68)
    obtain ⟨_, _, _, _, f6, f7⟩ := CE.out _ _ ci2.oc
    have CIA := Aside0.mk ci
    clear ci ci2
    gi_wp2
    have h1 := CIA.out.oc.sz
    exact ⟨((KeepsOthers.alloc _ _).trans (KeepsOthers.setCell _ _ _)).from _, rfl, W'.heap.size, (CIA.out.alloc _).put (by omega) _, blk_far (World.alloc_heap_new W' _) (by simp; omega) _⟩
   case done =>
    rintro D ys W' hD hS ⟨hpre, ci⟩ hK
    subst hpre
    have CIA := Aside0.mk ci
    have HK := Aside0.mk hK
    clear ci hK
    gi_wp2
    refine ⟨⟨k + 1, _, _, _, _, _, _, _, _, _, _, _, _, _, _, _, _, D :: Ds, rfl, by omega, ⟨CIA.out.oc⟩, ⟨?_⟩, ⟨?_, ?_⟩⟩, by simp [intOf]; omega⟩
    · intro z hz
      rw [List.take_succ_eq_append_getElem hlt, List.mem_append, List.mem_singleton] at hz
      rcases hz with hz | hz
      · exact hno.out z hz
      · rw [hz, ← HX.out]; exact hS.symm
    · exact List.nodup_cons.2 ⟨fun h => by have := (CIA.out.ds D h).2.1; omega, hds.out.1⟩
    · intro D' hD'
      rcases List.mem_cons.1 hD' with rfl | hD'
      · exact ⟨by omega, HK.out⟩
      · exact ⟨(CIA.out.ds D' hD').1, (CIA.out.ds D' hD').2.2⟩
   case stop =>
    rintro D c pre W' hD ⟨hpre, hne⟩ ⟨rfl, eb, ci, hblk⟩ hK
    gi_wp2
    have hfs : fsL x.f1 ≠ [] := fun e => hne (List.prefix_nil.1 (e ▸ hpre))
    have hbr : br = (4, (k : Int)) := by rw [HBR.out, badR_some hlt hno.out (by rw [← HX.out]; exact hfs)]
    refine leaves_marks w.heap.size (D :: Ds) W' (List.nodup_cons.2 ⟨fun h => by have := (ci.ds D h).2.1; omega, hds.out.1⟩) ?_ ?_
    · intro D' hD'
      rcases List.mem_cons.1 hD' with rfl | hD'
      · exact ⟨by omega, hK⟩
      · exact ⟨by have := (ci.ds D' hD').1; omega, (ci.ds D' hD').2.2⟩
    · intro w' hb hk'
      have hnm : ∀ (b : Nat) (cells : Array Value) (t : TypeId), W'.heap[b]? = some (.cells cells t (0, 0)) → w'.heap[b]? = some (.cells cells t (0, 0)) := fun b cells t h => by
       refine (hk' b fun hm => ?_).trans h
       rcases List.mem_cons.1 hm with rfl | hm
       · rw [hK] at h; cases h
       · rw [(ci.ds b hm).2.2] at h; cases h
      have hc : w'.cell? ⟨w.heap.size + 1, 0, none⟩ = some (.iface 66 (.pointer (some ⟨eb, 0, none⟩))) := by rw [Lib.cell_of_heap (hnm _ _ _ ci.oc.eb)]; rfl
      refine ⟨.iface 66 (.pointer (some ⟨eb, 0, none⟩)), by simp [results, Tryd.f12, go_sem, hc], _, rfl, ?_, ci.oc.low.trans hb⟩
      rw [hbr]
      exact .inr (.inr ⟨⟨by show (1 : Int) ≤ 4; decide, by show (4 : Int) ≤ 15; decide⟩, by show (0 : Int) ≤ (k : Int); omega, by show (k : Int) < 1000; omega, eb, rfl, hnm _ _ _ hblk⟩)
 · obtain rfl : k = R.length := by omega
   obtain ⟨f0, f1, f2, f3, f4, f5⟩ := CE.out _ _ tr.out
   gi_wp2
   have o2 := tr.out.put .nilIface
   have hbr : br = (0, -1) := by
    have := hno.out
    rw [List.take_length] at this
    rw [HBR.out, badR_none this]
   refine leaves_marks w.heap.size Ds _ hds.out.1 (fun D' hD' => ⟨by have := (hds.out.2 D' hD').1; omega, (KeepsOthers.setCell W _ _).same D' _ (hds.out.2 D' hD').2 rfl⟩) ?_
   intro w' hb hk'
   have hc : w'.cell? ⟨w.heap.size + 1, 0, none⟩ = some .nilIface := by
    rw [Lib.cell_of_heap ((hk' _ fun hm => by have := (hds.out.2 _ hm).1; omega).trans o2.eb)]; rfl
   refine ⟨.nilIface, by simp [results, Tryd.f12, go_sem, hc], _, rfl, ?_, o2.low.trans hb⟩
   rw [hbr]
   exact .inl ⟨rfl, rfl, rfl⟩
set_option maxRecDepth 100000 in
set_option maxHeartbeats 2000000 in
theorem Check_0 (ad : Int → Addr) (A0 : Option Addr) (c0 : Nat) (l0 : List ByteArray) (A1 : Option Addr) (c1 : Nat) (l1 : List ByteArray) (a2 : Int) (A3 : Option Addr) (c3 : Nat) (R : List S55) (w : World) (hs : SentsK ad w) (hr0 : Kd.C Kd.string w A0 l0.length l0) (hc0 : l0.length ≤ c0) (hr1 : Kd.C Kd.string w A1 l1.length l1) (hc1 : l1.length ≤ c1) (hr3 : Kd.C k55 w A3 R.length R) (hc3 : R.length ≤ c3) (hp : (chk (namesOK l0) (namesOK l1) l0.length l1.length a2 R).1 ≠ 0) :
 Calls Tryd.prog 12 #[.agg #[.slice A0 l0.length c0, .slice A1 l1.length c1, .int .i64 a2, .slice A3 R.length c3]] w fun e w' => ∃ E, e = .returned E ∧ ErrW ad w' E (chk (namesOK l0) (namesOK l1) l0.length l1.length a2 R) ∧ Below w.heap.size w w' := by
 obtain ⟨cs, hcs⟩ : ∃ cs : Array Value, cs = #[.slice A0 l0.length c0, .slice A1 l1.length c1, .int .i64 a2, .slice A3 R.length c3] := ⟨_, rfl⟩
 have st : OC w cs .nilIface ((w.alloc (.cells #[.slice A0 l0.length c0, .slice A1 l1.length c1, .int .i64 a2, .slice A3 R.length c3] 29)).alloc (.cells #[.nilIface] 32)) := by subst hcs; exact OC.start w _ _
 have KC : Aside0 (∀ W, OC w cs .nilIface W → Calls Tryd.prog 26 #[.agg #[.slice A0 l0.length c0, .slice A1 l1.length c1, .int .i64 a2, .slice A3 R.length c3]] W fun e w' => ∃ t u, e = .returned (.iface t u) ∧ Aside0 (ErrW ad w' (.iface t u) (chk (namesOK l0) (namesOK l1) l0.length l1.length a2 R) ∧ OC w cs .nilIface w')) := ⟨fun W hW =>
  (Check_any ad A0 c0 l0 A1 c1 l1 a2 A3 c3 R W (hs.below hW.low) (Kd.C_below hr0 hW.low) hc0 (Kd.C_below hr1 hW.low) hc1 (Kd.C_below hr3 hW.low) hc3).mono fun e w' ⟨⟨v, he, hv⟩, hb⟩ => by
   have hw := ErrW.of hv
   obtain ⟨t, u, rfl⟩ := hw.any hp
   exact ⟨t, u, he, ⟨hw, hW.more hb⟩⟩⟩
 have ST := Aside0.mk st
 have HCS := Lib.hid hcs
 clear st hcs hs hr0 hr1 hr3 hp
 generalize chk (namesOK l0) (namesOK l1) l0.length l1.length a2 R = pr at KC ⊢
 refine (callsIn_wide (n := 7)).1 ?_
 refine callsIn_of_wp_marks Tryd.func12 rfl trivial ?_ rfl
 simp only [Tryd.ntmps12, List.size_toArray, List.length_cons, List.length_nil, Nat.reduceAdd, Nat.reduceSub, Array.replicate_succ, Array.replicate_zero, List.push_toArray, List.append_toArray, List.nil_append, List.cons_append]
 gi_wp2_with (first
  | (refine ⟨trivial, ?_⟩; gi_at_call 26; refine (callsIn_wide.2 (KC.out _ ST.out)).mono ?_; rintro e w2 ⟨t, u, rfl, t2⟩; have f4 : w2.cell? ⟨w.heap.size + 1, 0, none⟩ = some .nilIface := (by rw [Lib.cell_of_heap t2.out.2.eb]; rfl); have f5 := frozen0 t2.out.2.eb))
 have o2 := t2.out.2.put (.iface t u)
 have hc : (w2.setCell ⟨w.heap.size + 1, 0, none⟩ (.iface t u)).cell? ⟨w.heap.size + 1, 0, none⟩ = some (.iface t u) := by rw [Lib.cell_of_heap o2.eb]; rfl
 exact ⟨.iface t u, by simp [results, Tryd.f12, go_sem, hc], _, rfl, errW_put t2.out.1 ⟨_, t2.out.2.eb⟩ _, o2.low⟩
theorem opCheck_calls (ad : Int → Addr) (A0 : Option Addr) (c0 : Nat) (l0 : List ByteArray) (A1 : Option Addr) (c1 : Nat) (l1 : List ByteArray) (a2 : Int) (A3 : Option Addr) (c3 : Nat) (R : List S55) (w : World) (hs : SentsK ad w) (hr0 : Kd.C Kd.string w A0 l0.length l0) (hc0 : l0.length ≤ c0) (hr1 : Kd.C Kd.string w A1 l1.length l1) (hc1 : l1.length ≤ c1) (hr3 : Kd.C k55 w A3 R.length R) (hc3 : R.length ≤ c3) :
 Calls Tryd.prog 12 #[.agg #[.slice A0 l0.length c0, .slice A1 l1.length c1, .int .i64 a2, .slice A3 R.length c3]] w fun e w' => ∃ E, e = .returned E ∧ ErrW ad w' E (opP l0 l1 a2 R) ∧ Below w.heap.size w w' := by
 unfold opP
 by_cases hp : (chk (namesOK l0) (namesOK l1) l0.length l1.length a2 R).1 = 0
 · rw [if_pos hp]; exact Check_1 ad A0 c0 l0 A1 c1 l1 a2 A3 c3 R w hs hr0 hc0 hr1 hc1 hr3 hc3 hp
 · rw [if_neg hp]; exact Check_0 ad A0 c0 l0 A1 c1 l1 a2 A3 c3 R w hs hr0 hc0 hr1 hc1 hr3 hc3 hp
end Go.Proofs.YtaeaookonhaliaaDoor.R6
/- dovetaillaw06.wrong: walked. -/
set_option linter.unusedVariables false
set_option linter.unusedSimpArgs false
namespace Go.Proofs.YtaeaookonhaliaaDoor.R6
open Go.RowKit Go.Proofs.YtaeaookonhaliaaDoorW.PrintWords Go.Proofs.YtaeaookonhaliaaDoorW.PrintLast Go.Proofs.YtaeaookonhaliaaDoorW.PrintMore
open Go.Proofs.YtaeaookonhaliaaDoor.B Go.Proofs.YtaeaookonhaliaaDoor.H Go.Proofs.YtaeaookonhaliaaDoor.F
structure WM (w : World) (cs : Array Value) (W : World) : Prop where
 low : Below w.heap.size w W
 gb : W.heap[w.heap.size]? = some (.cells cs 29 (0, 0))
 rb : W.heap[w.heap.size + 1]? = some (.cells #[.int .i64 0, .int .i64 0] 44 (0, 0))
section
variable {w W W' : World} {cs : Array Value}
theorem WM.start (w : World) (cs : Array Value) : WM w cs ((w.alloc (.cells cs 29)).alloc (.cells #[.int .i64 0, .int .i64 0] 44)) :=
 ⟨((Below.refl _ w).alloc (Nat.le_refl _) _).alloc (by simp) _, heap_alloc2_old w _ _, heap_alloc2_new w _ _⟩
theorem WM.sz (h : WM w cs W) : w.heap.size + 2 ≤ W.heap.size := by
 have h2 := (Array.getElem?_eq_some_iff.1 h.rb).1
 omega
theorem WM.more (h : WM w cs W) (hb : Below W.heap.size W W') : WM w cs W' := by
 have := h.sz
 exact ⟨h.low.trans (hb.mono (by omega)), (hb.block _ (by omega)).trans h.gb, (hb.block _ (by omega)).trans h.rb⟩
theorem WM.cells {v0 v1 v2 v3 : Value} (h : WM w #[v0, v1, v2, v3] W) : W.cell? ⟨w.heap.size, 0, none⟩ = some v0 ∧ W.cell? ⟨w.heap.size, 1, none⟩ = some v1 ∧ W.cell? ⟨w.heap.size, 2, none⟩ = some v2 ∧ W.cell? ⟨w.heap.size, 3, none⟩ = some v3 :=
 ⟨by rw [Lib.cell_of_heap h.gb]; rfl, by rw [Lib.cell_of_heap h.gb]; rfl, by rw [Lib.cell_of_heap h.gb]; rfl, by rw [Lib.cell_of_heap h.gb]; rfl⟩
end
set_option maxRecDepth 100000 in
set_option maxHeartbeats 4000000 in
theorem wrong_calls (ad : Int → Addr) (A0 : Option Addr) (c0 : Nat) (l0 : List ByteArray) (A1 : Option Addr) (c1 : Nat) (l1 : List ByteArray) (a2 : Int) (A3 : Option Addr) (c3 : Nat) (R : List S55) (w : World) (hs : SentsK ad w) (hg : HandleP w) (hr0 : Kd.C Kd.string w A0 l0.length l0) (hc0 : l0.length ≤ c0) (hr1 : Kd.C Kd.string w A1 l1.length l1) (hc1 : l1.length ≤ c1) (hr3 : Kd.C k55 w A3 R.length R) (hc3 : R.length ≤ c3) :
 Calls Tryd.prog 25 #[.agg #[.slice A0 l0.length c0, .slice A1 l1.length c1, .int .i64 a2, .slice A3 R.length c3]] w fun e w' => e = .returned (.agg #[.int .i64 (opP l0 l1 a2 R).1, .int .i64 (opP l0 l1 a2 R).2]) ∧ Below w.heap.size w w' := by
 obtain ⟨cs, hcs⟩ : ∃ cs : Array Value, cs = #[.slice A0 l0.length c0, .slice A1 l1.length c1, .int .i64 a2, .slice A3 R.length c3] := ⟨_, rfl⟩
 have st : WM w cs ((w.alloc (.cells #[.slice A0 l0.length c0, .slice A1 l1.length c1, .int .i64 a2, .slice A3 R.length c3] 29)).alloc (.cells #[.int .i64 0, .int .i64 0] 44)) := by subst hcs; exact WM.start w _
 have KC : Aside0 (∀ W, WM w cs W → Calls Tryd.prog 12 #[.agg #[.slice A0 l0.length c0, .slice A1 l1.length c1, .int .i64 a2, .slice A3 R.length c3]] W fun e w' => ∃ E, e = .returned E ∧ Aside0 (ErrW ad w' E (opP l0 l1 a2 R) ∧ WM w cs w')) := ⟨fun W hW =>
  (opCheck_calls ad A0 c0 l0 A1 c1 l1 a2 A3 c3 R W (hs.below hW.low) (Kd.C_below hr0 hW.low) hc0 (Kd.C_below hr1 hW.low) hc1 (Kd.C_below hr3 hW.low) hc3).mono fun e w' ⟨E, he, hE, hb⟩ => ⟨E, he, ⟨hE, hW.more hb⟩⟩⟩
 have ST := Aside0.mk st
 have HCS := Lib.hid hcs
 obtain ⟨pr, hpr⟩ : ∃ pr, pr = opP l0 l1 a2 R := ⟨_, rfl⟩
 rw [← hpr] at KC ⊢
 obtain ⟨k, r⟩ := pr
 have KD : Aside0 (∀ E W, ErrW ad W E (k, r) ∧ WM w cs W → Calls Tryd.prog 16 #[E] W fun e w' => e = .returned (.int .i64 k) ∧ Aside0 (ErrW ad w' E (k, r) ∧ WM w cs w')) := ⟨fun E W h => (Kind_w (hs.below h.2.low) h.1).mono fun e w' ⟨he, hb⟩ => ⟨he, ⟨h.1.below hb, h.2.more hb⟩⟩⟩
 have KR : Aside0 (∀ E W, ErrW ad W E (k, r) ∧ WM w cs W → Calls Tryd.prog 17 #[E] W fun e w' => e = .returned (.int .i64 r) ∧ Aside0 (WM w cs w')) := ⟨fun E W h => (Rule_w (hg.below h.2.low) h.1).mono fun e w' ⟨he, hb⟩ => ⟨he, ⟨h.2.more hb⟩⟩⟩
 clear st hcs hs hg hr0 hr1 hr3 hpr
 go_enter Tryd.func25, Tryd.ntmps25
 go_wp2_with (first
  | (go_at_call 12; (with_reducible refine (KC.out _ ST.out).mono ?_); rintro e w1 ⟨E, rfl, t1⟩)
  | (go_at_call 16; (with_reducible refine (KD.out _ _ t1.out).mono ?_); rintro e w2 ⟨rfl, t2⟩)
  | (go_at_call 17; (with_reducible refine (KR.out _ _ t2.out).mono ?_); rintro e w3 ⟨rfl, t3⟩; have f0 : w3.cell? ⟨w.heap.size + 1, 0, none⟩ = some (.int .i64 0) := (by rw [Lib.cell_of_heap t3.out.rb]; rfl); have f1 : w3.cell? ⟨w.heap.size + 1, 1, none⟩ = some (.int .i64 0) := (by rw [Lib.cell_of_heap t3.out.rb]; rfl); have g0 := frozen_of_row w3 _ 0 _ _ t3.out.rb; have g1 := frozen_of_row w3 _ 1 _ _ t3.out.rb))
 have hf : ((w3.setCell ⟨w.heap.size + 1, 0, none⟩ (.int .i64 k)).setCell ⟨w.heap.size + 1, 1, none⟩ (.int .i64 r)).heap[w.heap.size + 1]? = some (.cells #[.int .i64 k, .int .i64 r] 44 (0, 0)) := by
  have h1 := heap_setCell_same w3 (w.heap.size + 1) 0 _ _ (.int .i64 k) t3.out.rb
  have h2 := heap_setCell_same _ (w.heap.size + 1) 1 _ _ (.int .i64 r) h1
  simpa using h2
 have hl : Below w.heap.size w ((w3.setCell ⟨w.heap.size + 1, 0, none⟩ (.int .i64 k)).setCell ⟨w.heap.size + 1, 1, none⟩ (.int .i64 r)) := (t3.out.low.setCell (p := ⟨w.heap.size + 1, 0, none⟩) (by simp) _).setCell (p := ⟨w.heap.size + 1, 1, none⟩) (by simp) _
 refine bodyPost_ret (results_cell_row rfl _ _ (w.heap.size + 1) 44 #[.int .i64 k, .int .i64 r] (0, 0) _ rfl hf Tryd.underlying44 rfl (by kernel_rfl)) rfl ?_
 exact ⟨rfl, hl⟩
end Go.Proofs.YtaeaookonhaliaaDoor.R6
/- dovetaillaw06.awake: walked. -/
set_option linter.unusedVariables false
set_option linter.unusedSimpArgs false
namespace Go.Proofs.YtaeaookonhaliaaDoor.R6
open Go.RowKit Go.Proofs.YtaeaookonhaliaaDoorW.PrintWords Go.Proofs.YtaeaookonhaliaaDoorW.PrintLast Go.Proofs.YtaeaookonhaliaaDoorW.PrintMore
open Go.Proofs.YtaeaookonhaliaaDoor.B Go.Proofs.YtaeaookonhaliaaDoor.H Go.Proofs.YtaeaookonhaliaaDoor.F

def oT : List ByteArray := [⟨#[97]⟩, ⟨#[98]⟩]
def oN : List ByteArray := [⟨#[83]⟩]
def oR (a b : List Int) : List S55 := [⟨0, a⟩, ⟨0, b⟩]
def WO (W : World) (a b : List Int) : World :=
 ((W.alloc (.cells (a.map (Value.int .i64)).toArray 3)).alloc (.cells (b.map (Value.int .i64)).toArray 3)).alloc (.cells #[.slice (some ⟨W.heap.size, 0, none⟩) a.length a.length, .slice (some ⟨W.heap.size + 1, 0, none⟩) b.length b.length] 22)
theorem WO_size (W : World) (a b : List Int) : (WO W a b).heap.size = W.heap.size + 3 := by simp [WO]
theorem WO_below (W : World) (a b : List Int) : Below W.heap.size W (WO W a b) := by
 unfold WO
 exact (((Below.refl _ W).alloc (Nat.le_refl _) _).alloc (by simp) _).alloc (by simp; omega) _
theorem WO_row (W : World) (a b : List Int) (ha : a.length ≤ 100) (hb : b.length ≤ 100) (W' : World) (h : ∀ k, k < (WO W a b).heap.size → W'.heap[k]? = (WO W a b).heap[k]?) : Kd.C (Kd.slice 3 (Kd.int .i64)) W' (some ⟨W.heap.size + 2, 0, none⟩) 2 [a, b] := by
 have h0 : (WO W a b).heap[W.heap.size]? = some (.cells (a.map (Value.int .i64)).toArray 3 (0, 0)) := by simp only [WO, halloc, Array.getElem?_push, Array.size_push] <;> (repeat (first | rw [if_pos trivial] | rw [if_pos (by omega)] | rw [if_neg (by omega)]))
 have h1 : (WO W a b).heap[W.heap.size + 1]? = some (.cells (b.map (Value.int .i64)).toArray 3 (0, 0)) := by simp only [WO, halloc, Array.getElem?_push, Array.size_push] <;> (repeat (first | rw [if_pos trivial] | rw [if_pos (by omega)] | rw [if_neg (by omega)]))
 have h2 : (WO W a b).heap[W.heap.size + 2]? = some (.cells #[.slice (some ⟨W.heap.size, 0, none⟩) a.length a.length, .slice (some ⟨W.heap.size + 1, 0, none⟩) b.length b.length] 22 (0, 0)) := by simp only [WO, halloc, Array.getElem?_push, Array.size_push] <;> (repeat (first | rw [if_pos trivial] | rw [if_pos (by omega)] | rw [if_neg (by omega)]))
 have hs := WO_size W a b
 have h0' := (h _ (by omega)).trans h0
 have h1' := (h _ (by omega)).trans h1
 have h2' := (h _ (by omega)).trans h2
 refine lit_L [(a, (some ⟨W.heap.size, 0, none⟩, a.length)), (b, (some ⟨W.heap.size + 1, 0, none⟩, b.length))] (by simp) h2' ?_
 intro x hx
 simp only [List.mem_cons, List.not_mem_nil, or_false] at hx
 rcases hx with rfl | rfl
 · exact ⟨Nat.le_refl _, lit_I a (by omega) h0'⟩
 · exact ⟨Nat.le_refl _, lit_I b (by omega) h1'⟩
theorem one_f (a b : List Int) : dovetaillaw06_one.f 10 [a, b] = some (oT, oN, 0, oR a b) := by kernel_rfl
theorem one_lit (a b : List Int) (ha : a.length ≤ 100) (hb : b.length ≤ 100) (W : World) : Calls Tryd.prog 24 #[.slice (some ⟨W.heap.size + 2, 0, none⟩) 2 2] (WO W a b) fun e w' => ∃ A0 c0 A1 c1 A3 c3, e = .returned (.agg #[.slice A0 2 c0, .slice A1 1 c1, .int .i64 0, .slice A3 2 c3]) ∧
 Aside0 (Kd.C Kd.string w' A0 2 oT ∧ 2 ≤ c0 ∧ Kd.C Kd.string w' A1 1 oN ∧ 1 ≤ c1 ∧ Kd.C k55 w' A3 2 (oR a b) ∧ 2 ≤ c3 ∧ Below W.heap.size W w') := by
 have hV : Kd.V (Kd.slice 3 (Kd.int .i64)) 22 (WO W a b) (WO W a b).heap.size (fun k => k < (WO W a b).heap.size) (.slice (some ⟨W.heap.size + 2, 0, none⟩) [a, b].length 2) [a, b] := Kd.V_mk (Nat.le_refl 2) (fun W' h' => WO_row W a b ha hb W' (fun k hk => h' k hk hk))
 refine (dovetaillaw06_one.calls 10 (fun k => k < (WO W a b).heap.size) _ 2 [a, b] oT oN 0 (oR a b) (WO W a b) hV (one_f a b)).mono ?_
 rintro e w' ⟨v0, v1, v3, rfl, r0, r1, r3, hbl⟩
 obtain ⟨A0, c0, rfl⟩ := Kd.R_slice r0
 obtain ⟨A1, c1, rfl⟩ := Kd.R_slice r1
 obtain ⟨A3, c3, rfl⟩ := Kd.N_slice r3
 exact ⟨A0, c0, A1, c1, A3, c3, rfl, ⟨(Kd.R_reads' r0).2.2, (Kd.R_reads' r0).2.1, (Kd.R_reads' r1).2.2, (Kd.R_reads' r1).2.1, (Kd.N_reads' r3).2.2, (Kd.N_reads' r3).2.1, (WO_below W a b).trans (hbl.mono (WO_below W a b).size)⟩⟩
theorem eq2 (W : World) (a b : Int) : (Op.equalIn 10000 44 (.agg #[.int .i64 a, .int .i64 b]) (.agg #[.int .i64 a, .int .i64 b])).run Tryd.prog W = .ok true W := by
 obtain ⟨i, hi⟩ : ∃ i, Tryd.prog.info? 3 = some i := by
  have : (Tryd.prog.info? 3).isSome = true := by kernel_rfl
  exact Option.isSome_iff_exists.1 this
 have hr := run_equalIn_array (P := Tryd.prog) (w := W) 9999 #[.int .i64 a, .int .i64 b] #[.int .i64 a, .int .i64 b] Tryd.underlying44 hi
 refine hr.trans ?_
 rw [cells_int]
 exact eqItems_same 9998 W [a, b] (List.range 2) (fun i hi => List.mem_range.1 hi)
def awk : Bool := decide (opP oT oN 0 (oR [0, -1, 1] [-1]) = (0, -1)) && decide (opP oT oN 0 (oR [0] [0, -1, -1]) = (4, 1)) && decide (dovetailkit_Ints.f 50 [-1, 0, -1, 1] [-1, 0, -1, 1] = some true)
theorem awk_true : awk = true := by kernel_rfl
set_option maxRecDepth 100000 in
set_option maxHeartbeats 4000000 in
theorem awake_calls (ad : Int → Addr) (w : World) (hs : SentsK ad w) (hg : HandleP w) : Calls Tryd.prog 10 #[] w fun e w' => e = .returned (.bool true) ∧ Below w.heap.size w w' := by
 obtain ⟨⟨h1, h2⟩, h3⟩ : (opP oT oN 0 (oR [0, -1, 1] [-1]) = (0, -1) ∧ opP oT oN 0 (oR [0] [0, -1, -1]) = (4, 1)) ∧ dovetailkit_Ints.f 50 [-1, 0, -1, 1] [-1, 0, -1, 1] = some true := by
  have h := awk_true
  unfold awk at h
  simpa only [Bool.and_eq_true, decide_eq_true_eq] using h
 have KO1 : Aside0 (∀ (W : World) (q : Nat), q = W.heap.size + 2 → Below w.heap.size w W → Calls Tryd.prog 24 #[.slice (some ⟨q, 0, none⟩) 2 2] (((W.alloc (.cells #[.int .i64 0, .int .i64 (-1), .int .i64 1] 3)).alloc (.cells #[.int .i64 (-1)] 3)).alloc (.cells #[.slice (some ⟨W.heap.size, 0, none⟩) 3 3, .slice (some ⟨W.heap.size + 1, 0, none⟩) 1 1] 22)) fun e w' => ∃ A0 c0 A1 c1 A3 c3, e = .returned (.agg #[.slice A0 2 c0, .slice A1 1 c1, .int .i64 0, .slice A3 2 c3]) ∧
  Aside0 (Kd.C Kd.string w' A0 2 oT ∧ 2 ≤ c0 ∧ Kd.C Kd.string w' A1 1 oN ∧ 1 ≤ c1 ∧ Kd.C k55 w' A3 2 (oR [0, -1, 1] [-1]) ∧ 2 ≤ c3 ∧ Below w.heap.size w w')) := ⟨fun W q hq hW => by
  subst hq
  refine (one_lit [0, -1, 1] [-1] (by simp) (by simp) W).mono ?_
  rintro e w' ⟨A0, c0, A1, c1, A3, c3, he, h⟩
  exact ⟨A0, c0, A1, c1, A3, c3, he, ⟨h.out.1, h.out.2.1, h.out.2.2.1, h.out.2.2.2.1, h.out.2.2.2.2.1, h.out.2.2.2.2.2.1, hW.trans (h.out.2.2.2.2.2.2.mono hW.size)⟩⟩⟩
 have KO2 : Aside0 (∀ (W : World) (q : Nat), q = W.heap.size + 2 → Below w.heap.size w W → Calls Tryd.prog 24 #[.slice (some ⟨q, 0, none⟩) 2 2] (((W.alloc (.cells #[.int .i64 0] 3)).alloc (.cells #[.int .i64 0, .int .i64 (-1), .int .i64 (-1)] 3)).alloc (.cells #[.slice (some ⟨W.heap.size, 0, none⟩) 1 1, .slice (some ⟨W.heap.size + 1, 0, none⟩) 3 3] 22)) fun e w' => ∃ A0 c0 A1 c1 A3 c3, e = .returned (.agg #[.slice A0 2 c0, .slice A1 1 c1, .int .i64 0, .slice A3 2 c3]) ∧
  Aside0 (Kd.C Kd.string w' A0 2 oT ∧ 2 ≤ c0 ∧ Kd.C Kd.string w' A1 1 oN ∧ 1 ≤ c1 ∧ Kd.C k55 w' A3 2 (oR [0] [0, -1, -1]) ∧ 2 ≤ c3 ∧ Below w.heap.size w w')) := ⟨fun W q hq hW => by
  subst hq
  refine (one_lit [0] [0, -1, -1] (by simp) (by simp) W).mono ?_
  rintro e w' ⟨A0, c0, A1, c1, A3, c3, he, h⟩
  exact ⟨A0, c0, A1, c1, A3, c3, he, ⟨h.out.1, h.out.2.1, h.out.2.2.1, h.out.2.2.2.1, h.out.2.2.2.2.1, h.out.2.2.2.2.2.1, hW.trans (h.out.2.2.2.2.2.2.mono hW.size)⟩⟩⟩
 have KW1 : Aside0 (∀ (W : World) A0 c0 A1 c1 A3 c3, (Kd.C Kd.string W A0 2 oT ∧ 2 ≤ c0 ∧ Kd.C Kd.string W A1 1 oN ∧ 1 ≤ c1 ∧ Kd.C k55 W A3 2 (oR [0, -1, 1] [-1]) ∧ 2 ≤ c3 ∧ Below w.heap.size w W) → Calls Tryd.prog 25 #[.agg #[.slice A0 2 c0, .slice A1 1 c1, .int .i64 0, .slice A3 2 c3]] W fun e w' => e = .returned (.agg #[.int .i64 0, .int .i64 (-1)]) ∧ Aside0 (Below w.heap.size w w')) := ⟨fun W A0 c0 A1 c1 A3 c3 h => by
  refine (wrong_calls ad A0 c0 oT A1 c1 oN 0 A3 c3 (oR [0, -1, 1] [-1]) W (hs.below h.2.2.2.2.2.2) (hg.below h.2.2.2.2.2.2) h.1 h.2.1 h.2.2.1 h.2.2.2.1 h.2.2.2.2.1 h.2.2.2.2.2.1).mono ?_
  rw [h1]
  exact fun e w' ⟨he, hb⟩ => ⟨he, ⟨h.2.2.2.2.2.2.trans (hb.mono h.2.2.2.2.2.2.size)⟩⟩⟩
 have KW2 : Aside0 (∀ (W : World) A0 c0 A1 c1 A3 c3, (Kd.C Kd.string W A0 2 oT ∧ 2 ≤ c0 ∧ Kd.C Kd.string W A1 1 oN ∧ 1 ≤ c1 ∧ Kd.C k55 W A3 2 (oR [0] [0, -1, -1]) ∧ 2 ≤ c3 ∧ Below w.heap.size w W) → Calls Tryd.prog 25 #[.agg #[.slice A0 2 c0, .slice A1 1 c1, .int .i64 0, .slice A3 2 c3]] W fun e w' => e = .returned (.agg #[.int .i64 4, .int .i64 1]) ∧ Aside0 (Below w.heap.size w w')) := ⟨fun W A0 c0 A1 c1 A3 c3 h => by
  refine (wrong_calls ad A0 c0 oT A1 c1 oN 0 A3 c3 (oR [0] [0, -1, -1]) W (hs.below h.2.2.2.2.2.2) (hg.below h.2.2.2.2.2.2) h.1 h.2.1 h.2.2.1 h.2.2.2.1 h.2.2.2.2.1 h.2.2.2.2.2.1).mono ?_
  rw [h2]
  exact fun e w' ⟨he, hb⟩ => ⟨he, ⟨h.2.2.2.2.2.2.trans (hb.mono h.2.2.2.2.2.2.size)⟩⟩⟩
 have KS : Aside0 (∀ (W : World) (q : Nat), q = W.heap.size → Below w.heap.size w W → Calls Tryd.prog 8 #[.slice (some ⟨q, 0, none⟩) 4 4] (W.alloc (.cells #[.int .i64 (-3), .int .i64 0, .int .i64 (-1), .int .i64 1] 3)) fun e w' => ∃ B, e = .returned (.slice B 4 4) ∧ Aside0 (Kd.C (Kd.int .i64) w' B 4 [-1, 0, -1, 1] ∧ Below w.heap.size w w')) := ⟨fun W q hq hW => by
  subst hq
  have hb' : Below W.heap.size W (W.alloc (.cells #[.int .i64 (-3), .int .i64 0, .int .i64 (-1), .int .i64 1] 3)) := (Below.refl _ W).alloc (Nat.le_refl _) _
  refine (Skeleton_calls (some ⟨W.heap.size, 0, none⟩) 4 [-3, 0, -1, 1] _ (lit_I [-3, 0, -1, 1] (by simp) (World.alloc_heap_new W _)) (Nat.le_refl 4) (by decide)).mono ?_
  rintro e w' ⟨B, cap, he, hR, hb⟩
  exact ⟨B, he, ⟨(Kd.R_reads' hR).2.2, hW.trans ((hb'.trans (hb.mono hb'.size)).mono hW.size)⟩⟩⟩
 have KI : Aside0 (∀ (W : World) (B : Option Addr) (q : Nat), q = W.heap.size → (Kd.C (Kd.int .i64) W B 4 [-1, 0, -1, 1] ∧ Below w.heap.size w W) → Calls Tryd.prog 9 #[.slice B 4 4, .slice (some ⟨q, 0, none⟩) 4 4] (W.alloc (.cells #[.int .i64 (-1), .int .i64 0, .int .i64 (-1), .int .i64 1] 3)) fun e w' => e = .returned (.bool true) ∧ Aside0 (Below w.heap.size w w')) := ⟨fun W B q hq h => by
  subst hq
  have hb' : Below W.heap.size W (W.alloc (.cells #[.int .i64 (-1), .int .i64 0, .int .i64 (-1), .int .i64 1] 3)) := (Below.refl _ W).alloc (Nat.le_refl _) _
  refine (dovetailkit_Ints.calls 50 B 4 [-1, 0, -1, 1] (some ⟨W.heap.size, 0, none⟩) 4 [-1, 0, -1, 1] true _ (Kd.C_below h.1 hb') (Nat.le_refl 4) (lit_I [-1, 0, -1, 1] (by simp) (World.alloc_heap_new W _)) (Nat.le_refl 4) h3).mono ?_
  exact fun e w' ⟨he, hd⟩ => ⟨he, ⟨h.2.trans ((hb'.trans (hd.below.mono hb'.size)).mono h.2.size)⟩⟩⟩
 have B0 : Aside0 (Below w.heap.size w w) := ⟨Below.refl _ _⟩
 clear h1 h2 h3 hs hg
 go_enter Tryd.func10, Tryd.ntmps10
 go_wp2_with (first
  | (go_at_call 24; (with_reducible refine (KO1.out _ _ ?hq B0.out).mono ?_); (case hq => simp); clear B0; rintro e w1 ⟨A0, c0, A1, c1, A3, c3, rfl, t1⟩)
  | (go_at_call 25; (with_reducible refine (KW1.out _ _ _ _ _ _ _ t1.out).mono ?_); clear t1; rintro e w2 ⟨rfl, t2⟩; have hq1 := eq2 w2 0 (-1))
  | (go_at_call 24; (with_reducible refine (KO2.out _ _ ?hq t2.out).mono ?_); (case hq => simp); clear t2; rintro e w3 ⟨A0, c0, A1, c1, A3, c3, rfl, t3⟩)
  | (go_at_call 25; (with_reducible refine (KW2.out _ _ _ _ _ _ _ t3.out).mono ?_); clear t3; rintro e w4 ⟨rfl, t4⟩; have hq2 := eq2 w4 4 1)
  | (go_at_call 8; (with_reducible refine (KS.out _ _ ?hq t4.out).mono ?_); (case hq => simp); clear t4; rintro e w5 ⟨B, rfl, t5⟩)
  | (go_at_call 9; (with_reducible refine (KI.out _ _ _ ?hq t5.out).mono ?_); (case hq => simp); clear t5; rintro e w6 ⟨rfl, t6⟩))
 go_ret
 exact ⟨rfl, t6.out⟩
end Go.Proofs.YtaeaookonhaliaaDoor.R6
