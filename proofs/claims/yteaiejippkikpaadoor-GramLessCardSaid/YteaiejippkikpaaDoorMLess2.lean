/- Texts of this claim, one behind the other. -/
import Derived.Test.YteaiejippkikpaaDoorMLess1
import Derived.Test.YteaiejippkikpaaDoorWMore
import Derived.Test.YteaiejippkikpaaDoorProg
import Derived.Below
import Derived.Deep.Draws
import Derived.Deep.AppendLies
import Derived.Maps.AppendAt
import Derived.OwnWalk
import Derived.Laws.BytesArg
import Derived.Laws.MakeOwn
import Derived.Laws.OwnMore
import Derived.Deep.OwnRows
import Derived.Tactics
import Derived.Lib.ConvBytes
import Derived.Laws.Slices
import Derived.WalkKit
import Derived.KernelRfl
import Derived.RowKit3
import Derived.Deep.LoopGhost
import Derived.Deep.QuietTactic
import Derived.BigQuiet
import Derived.WideLaws
import Derived.Deep.DeepCutAuto
import Derived.Deep.CutBlock
import Derived.Deep.RegionHeld3
import Derived.Laws.Rows
import Derived.Lib.AppendStr
import Derived.ArgAppend
import Derived.Laws.IdiomCopy
import Derived.OrdersHeld
import Derived.Laws.BitsLemmas
import Derived.RowKit
import Derived.Test.YteaiejippkikpaaDoorWWords
import Derived.Test.YteaiejippkikpaaDoorWLast
import Derived.Test.YteaiejippkikpaaDoorWTab
import Derived.Test.YteaiejippkikpaaDoorWFour
import Derived.Test.YteaiejippkikpaaDoorWQPut
import Derived.Test.YteaiejippkikpaaDoorWApart
import Derived.Test.YteaiejippkikpaaDoorWArr
import Derived.Test.YteaiejippkikpaaDoorWZeros
import Derived.Test.YteaiejippkikpaaDoorWFoot
import Derived.Test.YteaiejippkikpaaDoorWKept
import Derived.Test.YteaiejippkikpaaDoorWShare
import Derived.Test.YteaiejippkikpaaDoorWN
import Derived.Test.YteaiejippkikpaaDoorWFootNe
import Derived.Test.YteaiejippkikpaaDoorWAt
import Derived.Test.YteaiejippkikpaaDoorWEqStruct
import Derived.Test.YteaiejippkikpaaDoorWRepsOne
import Derived.Test.YteaiejippkikpaaDoorWInv
import Derived.Test.YteaiejippkikpaaDoorWInvWords
import Derived.Test.YteaiejippkikpaaDoorWGuard
import Derived.Test.YteaiejippkikpaaDoorWNEv
namespace Go.Proofs.YteaiejippkikpaaDoor.B
open Go.RowKit Go.Proofs.YteaiejippkikpaaDoorW.PrintWords Go.Proofs.YteaiejippkikpaaDoorW.PrintLast Go.Proofs.YteaiejippkikpaaDoorW.PrintMore
attribute [local go_sem] max2_int min2_int max_two min_two max_three min_three max_four min_four   -- for this text's walks alone
set_option linter.unusedVariables false
set_option linter.unusedSimpArgs false

/-! ### gram_Above: function 23 -/
mutual
def gram_Above.l0 : Nat → List Int → Int → Int → List ByteArray → List ByteArray → Int → List (S35) → Option (List Int)
  | 0, _, _, _, _, _, _, _ => none
  | k + 1, x3, x18, x19, x104000, x104001, x104002, x104003 => if x19 < x18 then (if 0 ≤ x19 then (if x19 < (x3.length : Int) then (gram_Above.l0 k (x3.set (x19 : Int).toNat (shl .u64 1 x19)) x18 (wrap64 (x19 + 1)) x104000 x104001 x104002 x104003) else (none)) else (none)) else (gram_Above.l1 k x3 true x104000 x104001 x104002 x104003)
def gram_Above.l1 : Nat → List Int → Bool → List ByteArray → List ByteArray → Int → List (S35) → Option (List Int)
  | 0, _, _, _, _, _, _ => none
  | k + 1, x3, x5, x104000, x104001, x104002, x104003 => if x5 = true then (gram_Above.l2 k x3 false x104003 (x104003.length : Int) 0 x104000 x104001 x104002 x104003) else (some x3)
def gram_Above.l2 : Nat → List Int → Bool → List (S35) → Int → Int → List ByteArray → List ByteArray → Int → List (S35) → Option (List Int)
  | 0, _, _, _, _, _, _, _, _, _ => none
  | k + 1, x3, x5, x30, x31, x32, x104000, x104001, x104002, x104003 => if x32 < x31 then (if 0 ≤ x32 then (if x32 < (x30.length : Int) then ((gram_Renaming.f ((rd_T35 x30 x32).f0) ((rd_T35 x30 x32).f1)).bind fun bt112 => (if bt112.2 = true then (if 0 ≤ ((rd_T35 x30 x32).f0) then (if ((rd_T35 x30 x32).f0) < (x3.length : Int) then (if 0 ≤ bt112.1 then (if bt112.1 < (x3.length : Int) then (if (Go.bits .andNot .u64 (rd x3 ((rd_T35 x30 x32).f0)) (rd x3 bt112.1)) = 0 then (gram_Above.l2 k x3 x5 x30 x31 (wrap64 (x32 + 1)) x104000 x104001 x104002 x104003) else (gram_Above.l2 k (x3.set (bt112.1 : Int).toNat (Go.bits .or .u64 (rd x3 bt112.1) (rd x3 ((rd_T35 x30 x32).f0)))) true x30 x31 (wrap64 (x32 + 1)) x104000 x104001 x104002 x104003)) else (none)) else (none)) else (none)) else (none)) else (gram_Above.l2 k x3 x5 x30 x31 (wrap64 (x32 + 1)) x104000 x104001 x104002 x104003))) else (none)) else (none)) else (gram_Above.l1 k x3 x5 x104000 x104001 x104002 x104003)
end
def gram_Above.f (k : Nat) (l0_0 : List ByteArray) (l0_1 : List ByteArray) (a0_2 : Int) (l0_3 : List (S35)) : Option (List Int) := (gram_Check.f k l0_0 l0_1 a0_2 l0_3).bind fun t104 => (if t104.isNone = true then (if 0 ≤ (l0_1.length : Int) then (if ((l0_1.length : Int) : Int).toNat ≤ 35184372088832 then ((some (List.replicate ((l0_1.length : Int) : Int).toNat 0 : List Int)).bind fun y106 => (gram_Above.l0 k y106 (y106.length : Int) 0 l0_0 l0_1 a0_2 l0_3)) else (none)) else (none)) else (some ([] : List Int)))
theorem gram_Above.mono_l : ∀ k, (∀ y0 y1 y2 y3 y4 y5 y6, LeO (gram_Above.l0 k y0 y1 y2 y3 y4 y5 y6) (gram_Above.l0 (k + 1) y0 y1 y2 y3 y4 y5 y6)) ∧ (∀ y0 y1 y2 y3 y4 y5, LeO (gram_Above.l1 k y0 y1 y2 y3 y4 y5) (gram_Above.l1 (k + 1) y0 y1 y2 y3 y4 y5)) ∧ (∀ y0 y1 y2 y3 y4 y5 y6 y7 y8, LeO (gram_Above.l2 k y0 y1 y2 y3 y4 y5 y6 y7 y8) (gram_Above.l2 (k + 1) y0 y1 y2 y3 y4 y5 y6 y7 y8))
  | 0 => ⟨fun _ _ _ _ _ _ _ r h => by simp [gram_Above.l0] at h, fun _ _ _ _ _ _ r h => by simp [gram_Above.l1] at h, fun _ _ _ _ _ _ _ _ _ r h => by simp [gram_Above.l2] at h⟩
  | k + 1 => by
    obtain ⟨ih0, ih1, ih2⟩ := gram_Above.mono_l k
    refine ⟨?_, ?_, ?_⟩
    · intro y0 y1 y2 y3 y4 y5 y6
      unfold gram_Above.l0
      repeat' first
      | (with_reducible exact ih0 _ _ _ _ _ _ _)
      | (with_reducible exact ih1 _ _ _ _ _ _)
      | (with_reducible exact ih2 _ _ _ _ _ _ _ _ _)
      | (with_reducible exact gram_Check.mono _ _ _ _ _)
      | (with_reducible exact LeO.refl _)
      | (with_reducible exact LeO.none _)
      | (with_reducible refine LeO.ite ?_ ?_)
      | (with_reducible refine LeO.bind ?_ (fun _ => ?_))
      | exact ih0 _ _ _ _ _ _ _
      | exact ih1 _ _ _ _ _ _
      | exact ih2 _ _ _ _ _ _ _ _ _
      | exact gram_Check.mono _ _ _ _ _
      | exact LeO.none _
      | refine LeO.ite ?_ ?_
      | refine LeO.bind ?_ (fun _ => ?_)
    · intro y0 y1 y2 y3 y4 y5
      unfold gram_Above.l1
      repeat' first
      | (with_reducible exact ih0 _ _ _ _ _ _ _)
      | (with_reducible exact ih1 _ _ _ _ _ _)
      | (with_reducible exact ih2 _ _ _ _ _ _ _ _ _)
      | (with_reducible exact gram_Check.mono _ _ _ _ _)
      | (with_reducible exact LeO.refl _)
      | (with_reducible exact LeO.none _)
      | (with_reducible refine LeO.ite ?_ ?_)
      | (with_reducible refine LeO.bind ?_ (fun _ => ?_))
      | exact ih0 _ _ _ _ _ _ _
      | exact ih1 _ _ _ _ _ _
      | exact ih2 _ _ _ _ _ _ _ _ _
      | exact gram_Check.mono _ _ _ _ _
      | exact LeO.none _
      | refine LeO.ite ?_ ?_
      | refine LeO.bind ?_ (fun _ => ?_)
    · intro y0 y1 y2 y3 y4 y5 y6 y7 y8
      unfold gram_Above.l2
      repeat' first
      | (with_reducible exact ih0 _ _ _ _ _ _ _)
      | (with_reducible exact ih1 _ _ _ _ _ _)
      | (with_reducible exact ih2 _ _ _ _ _ _ _ _ _)
      | (with_reducible exact gram_Check.mono _ _ _ _ _)
      | (with_reducible exact LeO.refl _)
      | (with_reducible exact LeO.none _)
      | (with_reducible refine LeO.ite ?_ ?_)
      | (with_reducible refine LeO.bind ?_ (fun _ => ?_))
      | exact ih0 _ _ _ _ _ _ _
      | exact ih1 _ _ _ _ _ _
      | exact ih2 _ _ _ _ _ _ _ _ _
      | exact gram_Check.mono _ _ _ _ _
      | exact LeO.none _
      | refine LeO.ite ?_ ?_
      | refine LeO.bind ?_ (fun _ => ?_)
theorem gram_Above.mono : ∀ a0 a1 a2 a3 k, LeO (gram_Above.f k a0 a1 a2 a3) (gram_Above.f (k + 1) a0 a1 a2 a3) := by
  intro a0 a1 a2 a3 k
  obtain ⟨ih0, ih1, ih2⟩ := gram_Above.mono_l k
  unfold gram_Above.f
  repeat' first
      | (with_reducible exact ih0 _ _ _ _ _ _ _)
      | (with_reducible exact ih1 _ _ _ _ _ _)
      | (with_reducible exact ih2 _ _ _ _ _ _ _ _ _)
      | (with_reducible exact gram_Check.mono _ _ _ _ _)
      | (with_reducible exact LeO.refl _)
      | (with_reducible exact LeO.none _)
      | (with_reducible refine LeO.ite ?_ ?_)
      | (with_reducible refine LeO.bind ?_ (fun _ => ?_))
      | exact ih0 _ _ _ _ _ _ _
      | exact ih1 _ _ _ _ _ _
      | exact ih2 _ _ _ _ _ _ _ _ _
      | exact gram_Check.mono _ _ _ _ _
      | exact LeO.none _
      | refine LeO.ite ?_ ?_
      | refine LeO.bind ?_ (fun _ => ?_)
def gram_Above.T16 : Bool × List (List Nat × List Nat) := (true, [([], []), ([0], [0]), ([1], [1]), ([1], [1]), ([3, 1], [1, 3]), ([2, 4, 1], [1, 2, 4]), ([5, 1], [1, 5]), ([1], [1]), ([1], [1]), ([7, 8, 1], [1, 7, 8]), ([9, 1], [1, 9]), ([6, 10, 1], [1, 6, 10]), ([11, 1], [1, 11]), ([1, 12], [1, 12])])
def gram_Above.B16 : List Nat := [0, 1, 3, 3, 11, 31, 63, 3, 3, 387, 899, 2047, 4095, 8191]
theorem gram_Above.tab16 : rtab .any (opsOf Tryd.f23 16) = gram_Above.T16 := by kernel_rfl
theorem gram_Above.bits16 : waitsOk gram_Above.T16.2 gram_Above.B16 = true := by kernel_rfl
def gram_Above.T17 : Bool × List (List Nat × List Nat) := (true, [([], []), ([], []), ([0, 1], [0, 1]), ([2], [2]), ([], []), ([], []), ([5], [5]), ([4, 6], [4, 6]), ([7], [7]), ([3, 8], [3, 8]), ([0, 1, 0, 1, 2, 3, 4, 5, 6, 7, 8, 9], [0, 1]), ([10, 9, 0, 1, 2, 3, 4, 5, 6, 7, 8, 9], [9, 10])])
def gram_Above.B17 : List Nat := [0, 0, 3, 7, 0, 0, 32, 112, 240, 511, 1023, 2047]
theorem gram_Above.tab17 : rtab .any (opsOf Tryd.f23 17) = gram_Above.T17 := by kernel_rfl
theorem gram_Above.bits17 : waitsOk gram_Above.T17.2 gram_Above.B17 = true := by kernel_rfl
set_option maxHeartbeats 8000000 in
set_option maxRecDepth 100000 in
theorem gram_Above.calls (k : Nat) (A0_0 : Option Addr) (c0_0 : Nat) (l0_0 : List ByteArray) (A0_1 : Option Addr) (c0_1 : Nat) (l0_1 : List ByteArray) (a0_2 : Int) (A0_3 : Option Addr) (c0_3 : Nat) (l0_3 : List (S35)) (r : List Int) (w : World) (hr0_0 : Kd.C Kd.string w A0_0 l0_0.length l0_0) (hc0_0 : l0_0.length ≤ c0_0) (hr0_1 : Kd.C Kd.string w A0_1 l0_1.length l0_1) (hc0_1 : l0_1.length ≤ c0_1) (hr0_3 : Kd.C k35 w A0_3 l0_3.length l0_3) (hc0_3 : l0_3.length ≤ c0_3) (h : gram_Above.f k l0_0 l0_1 a0_2 l0_3 = some r) :
    Calls Tryd.prog 23 #[.agg #[.slice A0_0 l0_0.length c0_0, .slice A0_1 l0_1.length c0_1, .int .i64 a0_2, .slice A0_3 l0_3.length c0_3]] w fun e w' => ∃ v0_ : Value, e = .returned (v0_) ∧ Kd.R (Kd.int .u64) 47 w' w.heap.size (fun _ => True) v0_ r ∧ Below w.heap.size w w' := by
  have hu25 := Tryd.underlying25
  have hu35 := Tryd.underlying35
  have hu44 := Tryd.underlying44
  have HR0_0 := Aside0.mk hr0_0
  have HC0_0 := Aside0.mk hc0_0
  clear hr0_0 hc0_0
  have HR0_1 := Aside0.mk hr0_1
  have HC0_1 := Aside0.mk hc0_1
  clear hr0_1 hc0_1
  have HR0_3 := Aside0.mk hr0_3
  have HC0_3 := Aside0.mk hc0_3
  clear hr0_3 hc0_3
  have HB := Aside0.mk (Below.refl w.heap.size w)
  have H : ((gram_Check.f k l0_0 l0_1 a0_2 l0_3).bind fun t104 => (if t104.isNone = true then (if 0 ≤ (l0_1.length : Int) then (if ((l0_1.length : Int) : Int).toNat ≤ 35184372088832 then ((some (List.replicate ((l0_1.length : Int) : Int).toNat 0 : List Int)).bind fun y106 => (gram_Above.l0 k y106 (y106.length : Int) 0 l0_0 l0_1 a0_2 l0_3)) else (none)) else (none)) else (some ([] : List Int)))) = some r := h
  clear h
  replace H := Option.bind_eq_some_iff.mp H
  obtain ⟨t104, A20, H⟩ := H
  replace H : (if t104.isNone = true then (if 0 ≤ (l0_1.length : Int) then (if ((l0_1.length : Int) : Int).toNat ≤ 35184372088832 then ((some (List.replicate ((l0_1.length : Int) : Int).toNat 0 : List Int)).bind fun y106 => (gram_Above.l0 k y106 (y106.length : Int) 0 l0_0 l0_1 a0_2 l0_3)) else (none)) else (none)) else (some ([] : List Int))) = some r := H
  have A2 := Aside0.mk A20
  clear A20
  rcases t104 with _ | q105
  · have H1 : (if 0 ≤ (l0_1.length : Int) then (if ((l0_1.length : Int) : Int).toNat ≤ 35184372088832 then ((some (List.replicate ((l0_1.length : Int) : Int).toNat 0 : List Int)).bind fun y106 => (gram_Above.l0 k y106 (y106.length : Int) 0 l0_0 l0_1 a0_2 l0_3)) else (none)) else (none)) = some r := by rw [if_pos (show (none : Option Int).isNone = true by rfl)] at H; exact H
    clear H
    have H := H1
    clear H1
    try simp only [errW_none, errW_some]
    by_cases c3 : 0 ≤ (l0_1.length : Int)
    · rw [if_pos c3] at H
      have c3b0 := eq_true c3
      have c3b1 : decide (0 ≤ (l0_1.length : Int)) = true := decide_eq_true c3
      clear c3
      by_cases c4 : ((l0_1.length : Int) : Int).toNat ≤ 35184372088832
      · rw [if_pos c4] at H
        have c4b0 := eq_true c4
        have c4b1 : decide (((l0_1.length : Int) : Int).toNat ≤ 35184372088832) = true := decide_eq_true c4
        clear c4
        obtain ⟨y106, hy106⟩ : ∃ y_ : List Int, y_ = (List.replicate ((l0_1.length : Int) : Int).toNat 0) := ⟨_, rfl⟩
        replace H : (gram_Above.l0 k y106 (y106.length : Int) 0 l0_0 l0_1 a0_2 l0_3) = some r := by first | (rw [hy106]; with_reducible exact H) | (have H2_ := (Option.bind_some _ _).symm.trans H; rw [hy106]; with_reducible exact H2_) | (have H2_ := (Option.bind_some _ _).symm.trans H; with_reducible exact H2_) | with_reducible exact H | (rw [hy106]; exact H) | exact H
        have Ny106 := Aside0.mk hy106
        clear hy106
        have H' := Aside0.mk H
        clear H
        go_enter Tryd.func23, Tryd.ntmps23
        go_wp2_with (first | ((with_reducible refine gate_dst (N := 1) rfl ?_); refine box_event ?hg (N := 1) ?hd (cs := #[.slice A0_0 l0_0.length c0_0, .slice A0_1 l0_1.length c0_1, .int .i64 a0_2, .slice A0_3 l0_3.length c0_3]) (t := 25) ?hr ?_; (case hd => rfl); (case hg => rfl); (case hr => first | (go_simp; done) | (go_simp; rfl)); intro gb103 hg w5 hbox hb; have n0_ := Aside0.mk (below_step (by repeat (first | (with_reducible first | exact HB.out | apply below_alloc | apply pw_below_drewN | apply below_drew1) | exact HB.out)) hb); have n1_ := Aside0.mk (hbox); have n2_ := Aside0.mk ((by rw [hg]; exact (below_size (by repeat (first | (with_reducible first | exact HB.out | apply below_alloc | apply pw_below_drewN | apply below_drew1) | exact HB.out))) : w.heap.size ≤ gb103)); have n3_ := Aside0.mk ((by rw [hg]; exact (below_size (by repeat (first | (with_reducible first | exact HB.out | apply below_alloc | apply pw_below_drewN | apply below_drew1) | exact HB.out))) : w.heap.size ≤ gb103)); clear HB; have HB := n0_; have BK103 := n1_; have GW103 := n2_; have GE103 := n3_; clear n0_ n1_ n2_ n3_; clear hb hbox hg; have hcz6_0 : w5.cell? ⟨gb103, 0, none⟩ = some (.slice A0_0 l0_0.length c0_0) := (blk_cell BK103.out 0).trans rfl; have hcz6_1 : w5.cell? ⟨gb103, 1, none⟩ = some (.slice A0_1 l0_1.length c0_1) := (blk_cell BK103.out 1).trans rfl; have hcz6_2 : w5.cell? ⟨gb103, 2, none⟩ = some (.int .i64 a0_2) := (blk_cell BK103.out 2).trans rfl; have hcz6_3 : w5.cell? ⟨gb103, 3, none⟩ = some (.slice A0_3 l0_3.length c0_3) := (blk_cell BK103.out 3).trans rfl; have hfz6_0 := blk_frozen BK103.out 0; have hfz6_1 := blk_frozen BK103.out 1; have hfz6_2 := blk_frozen BK103.out 2; have hfz6_3 := blk_frozen BK103.out 3) | ((with_reducible refine gate_callee (f := 28) rfl ?_); refine goesL_ (some 11) rfl rfl Tryd.func28 (by kernel_rfl) rfl #[.agg #[.slice A0_0 l0_0.length c0_0, .slice A0_1 l0_1.length c0_1, .int .i64 a0_2, .slice A0_3 l0_3.length c0_3]] rfl (by (try simp only [List.map_toArray, List.map_cons, List.map_nil]); first | done | rfl | (simp only [List.length_drop, List.length_take]; rfl)) ?_; (with_reducible refine (gram_Check.calls k _ _ l0_0 _ _ l0_1 a0_2 _ _ l0_3 none _ ?side1 ?side2 ?side3 ?side4 ?side5 ?side6 A2.out).mono ?_); (case side1 => repeat (first | exact (Kd.C_below HR0_0.out HB.out) | (with_reducible refine Kd.C_alloc ?_ _) | (with_reducible refine Kd.C_drewN ?_ _) | (with_reducible refine Kd.C_drew ?_))); (case side2 => exact HC0_0.out); (case side3 => repeat (first | exact (Kd.C_below HR0_1.out HB.out) | (with_reducible refine Kd.C_alloc ?_ _) | (with_reducible refine Kd.C_drewN ?_ _) | (with_reducible refine Kd.C_drew ?_))); (case side4 => exact HC0_1.out); (case side5 => repeat (first | exact (Kd.C_below HR0_3.out HB.out) | (with_reducible refine Kd.C_alloc ?_ _) | (with_reducible refine Kd.C_drewN ?_ _) | (with_reducible refine Kd.C_drew ?_))); (case side6 => exact HC0_3.out); rintro e w7 ⟨rfl, hb⟩; refine ⟨_, rfl, ?_⟩; have n0_ := Aside0.mk (blk_below (g := gb103) (o := .cells #[.slice A0_0 l0_0.length c0_0, .slice A0_1 l0_1.length c0_1, .int .i64 a0_2, .slice A0_3 l0_3.length c0_3] 25 (0, 0)) (by (with_reducible repeat (first | refine blk_drewN ?_ _ | refine blk_drew ?_ | refine blk_alloc ?_ _)); exact BK103.out) hb); have n1_ := Aside0.mk (below_step (by repeat (first | (with_reducible first | exact HB.out | apply below_alloc | apply pw_below_drewN | apply below_drew1 | refine below_set ?_ GE103.out) | exact HB.out)) hb); clear BK103; clear HB; have BK103 := n0_; have HB := n1_; clear n0_ n1_; (try clear hb); (try clear hb2); (try clear hk); (try clear hi); (try simp only [errW_none, errW_some]); have hcz8_0 : w7.cell? ⟨gb103, 0, none⟩ = some (.slice A0_0 l0_0.length c0_0) := (blk_cell BK103.out 0).trans rfl; have hcz8_1 : w7.cell? ⟨gb103, 1, none⟩ = some (.slice A0_1 l0_1.length c0_1) := (blk_cell BK103.out 1).trans rfl; have hcz8_2 : w7.cell? ⟨gb103, 2, none⟩ = some (.int .i64 a0_2) := (blk_cell BK103.out 2).trans rfl; have hcz8_3 : w7.cell? ⟨gb103, 3, none⟩ = some (.slice A0_3 l0_3.length c0_3) := (blk_cell BK103.out 3).trans rfl; have hfz8_0 := blk_frozen BK103.out 0; have hfz8_1 := blk_frozen BK103.out 1; have hfz8_2 := blk_frozen BK103.out 2; have hfz8_3 := blk_frozen BK103.out 3) | ((with_reducible refine gate_dst (N := 16) rfl ?_); refine Kd.R_make (Kd.int .u64) _ 47 rfl (N := 16) rfl 36 _ _ rfl (l0_1.length : Int) rfl rfl Tryd.underlying36 (.int .u64 0) 8 info47 rfl (by decide) (by omega) 0 (ok := fun _ => True) (okp := fun _ => True) rfl (fun _ hk => hk) trivial (of_decide_eq_true (by first | (with_reducible assumption) | assumption)) (Nat.le_trans (Nat.mul_le_mul_right _ (of_decide_eq_true (by first | (with_reducible assumption) | assumption) : (l0_1.length : Int).toNat ≤ 35184372088832)) (by omega)) (Below.refl _ _) (Nat.le_refl _) ?_; intro v107 w9 ho10 hb hg_ hnew_; clear hg_ hnew_; (first | rw [← Ny106.out] at ho10 | (simp only [Int.reduceToNat] at ho10; rw [← Ny106.out] at ho10)); have n0_ := Aside0.mk (Kd.R_lower ho10 (below_size (by repeat (first | (with_reducible first | exact HB.out | apply below_alloc | apply pw_below_drewN | apply below_drew1 | refine below_set ?_ GE103.out) | exact HB.out)))); have n1_ := Aside0.mk (blk_below (g := gb103) (o := .cells #[.slice A0_0 l0_0.length c0_0, .slice A0_1 l0_1.length c0_1, .int .i64 a0_2, .slice A0_3 l0_3.length c0_3] 25 (0, 0)) (by (with_reducible repeat (first | refine blk_drewN ?_ _ | refine blk_drew ?_ | refine blk_alloc ?_ _)); exact BK103.out) hb); have n2_ := Aside0.mk (below_step (by repeat (first | (with_reducible first | exact HB.out | apply below_alloc | apply pw_below_drewN | apply below_drew1 | refine below_set ?_ GE103.out) | exact HB.out)) hb); clear BK103; clear HB; have HO108 := n0_; have BK103 := n1_; have HB := n2_; clear n0_ n1_ n2_; clear hb ho10; obtain ⟨Ao11, co11, eo11⟩ := Kd.R_slice HO108.out; subst eo11))
        go_loopg [19] k (fun kq v19 w' => ∃ (x3_1 : List Int) (x19_1 : Int), v19 = .int .i64 x19_1 ∧ Aside0 (gram_Above.l0 kq x3_1 (y106.length : Int) x19_1 l0_0 l0_1 a0_2 l0_3 = some r) ∧ Aside0 (kq ≤ k) ∧ Aside0 (Kd.R (Kd.int .u64) 47 w' w.heap.size (fun _ => True) (.slice Ao11 y106.length co11) x3_1) ∧ Aside0 (w'.heap[gb103]? = some (.cells #[(.slice A0_0 l0_0.length c0_0), (.slice A0_1 l0_1.length c0_1), .int .i64 a0_2, (.slice A0_3 l0_3.length c0_3)] 25 (0, 0))) ∧ Aside0 (Below w.heap.size w w'))
        case atStart => exact ⟨(y106), (0), (by first | rfl | (simp; done) | (simp [*]; done)), H', ⟨Nat.le_refl _⟩, ⟨by (with_reducible repeat (first | apply Kd.R_alloc | apply Kd.R_drewN | apply Kd.R_drew)); exact HO108.out⟩, ⟨by (with_reducible repeat (first | refine blk_drewN ?_ _ | refine blk_drew ?_ | refine blk_alloc ?_ _)); exact BK103.out⟩, ⟨by repeat (first | (with_reducible first | exact HB.out | apply below_alloc | apply pw_below_drewN | apply below_drew1 | refine below_set ?_ GE103.out) | exact HB.out)⟩⟩
        case round =>
          clear H'
          try clear q1
          try clear c2
          try clear p2
          try clear c3
          try clear c3b0
          try clear c3b1
          try clear c4
          try clear c4b0
          try clear c4b1
          try clear q10
          try clear hcz6_0
          try clear hcz6_1
          try clear hcz6_2
          try clear hcz6_3
          try clear hcz8_0
          try clear hcz8_1
          try clear hcz8_2
          try clear hcz8_3
          try clear hfz6_0
          try clear hfz6_1
          try clear hfz6_2
          try clear hfz6_3
          try clear hfz8_0
          try clear hfz8_1
          try clear hfz8_2
          try clear hfz8_3
          try clear q105
          obtain ⟨x3_1, x19_1, rfl, HA, HK1, HO_3, BK103, HB⟩ := hrel
          have hl3_1 := (Kd.R_reads' HO_3.out).1
          rw [hl3_1] at HO_3
          (try simp only [hl3_1])
          (try simp only [hl3_1] at BK103)
          cases gk with
          | zero => exact absurd HA.out (by simp [gram_Above.l0])
          | succ k1 =>
            have H := HA.out
            clear HA
            simp only [gram_Above.l0] at H
            by_cases c12 : x19_1 < (y106.length : Int)
            · rw [if_pos c12] at H
              have c12b0 : decide (x19_1 < (y106.length : Int)) = true := decide_eq_true c12
              clear c12
              by_cases c13 : 0 ≤ x19_1
              · rw [if_pos c13] at H
                have c13b0 := eq_true c13
                have c13b1 : decide (0 ≤ x19_1) = true := decide_eq_true c13
                clear c13
                obtain ⟨ji14, hji14⟩ : ∃ j_ : Int, (shl .u64 1 x19_1) = j_ := ⟨_, rfl⟩
                replace H : (if x19_1 < (x3_1.length : Int) then (gram_Above.l0 k1 (x3_1.set (x19_1 : Int).toNat (ji14)) (y106.length : Int) (wrap64 (x19_1 + 1)) l0_0 l0_1 a0_2 l0_3) else (none)) = some r := by first | (rw [hji14] at H; exact H) | (simp only [hji14] at H ⊢; exact H)
                have hji14_ : (IntKind.u64.wrap (1 * 2 ^ min x19_1.toNat 64)) = ji14 := hji14
                have hji14z : x19_1 ≤ 64 → (IntKind.u64.wrap (1 * 2 ^ x19_1.toNat)) = ji14 := shl_small hji14
                have hji14u : (IntKind.u64.wrap (2 ^ min x19_1.toNat 64)) = ji14 := by have h_ := hji14_; rw [Int.one_mul] at h_; exact h_
                have hji14v : x19_1 ≤ 64 → (IntKind.u64.wrap (2 ^ x19_1.toNat)) = ji14 := fun hle_ => by have h_ := hji14z hle_; rw [Int.one_mul] at h_; exact h_
                by_cases c15 : x19_1 < (x3_1.length : Int)
                · rw [if_pos c15] at H
                  have c15b0 : decide (x19_1 < (x3_1.length : Int)) = true := decide_eq_true c15
                  clear c15
                  obtain ⟨y109, hy109⟩ : ∃ y_ : List Int, y_ = (x3_1.set (x19_1 : Int).toNat (ji14)) := ⟨_, rfl⟩
                  replace H : (gram_Above.l0 k1 y109 (y106.length : Int) (wrap64 (x19_1 + 1)) l0_0 l0_1 a0_2 l0_3) = some r := by first | (rw [hy109]; with_reducible exact H) | (have H2_ := (Option.bind_some _ _).symm.trans H; rw [hy109]; with_reducible exact H2_) | (have H2_ := (Option.bind_some _ _).symm.trans H; with_reducible exact H2_) | with_reducible exact H | (rw [hy109]; exact H) | exact H
                  have Ny109 := Aside0.mk hy109
                  clear hy109
                  have H' := Aside0.mk H
                  clear H
                  have p16 : 0 ≤ (x19_1 : Int) := of_decide_eq_true (by first | (with_reducible assumption) | assumption)
                  have q16 : (x19_1 : Int) < ((x3_1.length : Int) : Int) := of_decide_eq_true (by first | (with_reducible assumption) | assumption)
                  obtain ⟨go16, co16, eo16, gb16, gl16, cl16, HG16⟩ := Kd.R_form HO_3.out (by omega)
                  (first | cases eo16 | (injection eo16 with ea_ en_ ec_; (first | subst ea_ | (injection ea_ with ea_; subst ea_)); subst ec_; clear en_))
                  have GB16 := Aside0.mk gb16
                  have GG16 := Aside0.mk HG16
                  clear gb16 gl16 HG16
                  obtain ⟨hx16_0, hf16_0⟩ := Kd.R_celln 0 HO_3.out (x19_1 : Int) p16 q16
                  replace p16 := eq_true p16
                  replace q16 := eq_true q16
                  have HP17 := Kd.R_putg HO_3.out (x19_1 : Int) ji14
                  go_wp2_with (first | ((with_reducible refine gate_store (t := 47) (p := 26) rfl ?_); refine store_event (t := 47) (p := 26) (v := ?vo_w18) (w1 := (wr.setCell ⟨go16, (x19_1 : Int).toNat, none⟩ (.int .u64 ji14))) ?hg ?ho ?hn ?hr ?_; (case ho => rfl); (case hg => rfl); (case hn => rfl); (case hr => first | (go_simp; done) | (go_simp; rfl)); intro w18 hw; have hg : wr.grownBy w18 (some go16) := (by rw [hw]; exact HP17.2); have hp_ : Kd.R (Kd.int .u64) 47 w18 w.heap.size (fun _ => True) (.slice (some ⟨go16, 0, none⟩) x3_1.length co11) y109 := (by rw [hw, Ny109.out]; exact HP17.1); clear HP17; have n0_ := Aside0.mk (hp_); have n1_ := Aside0.mk (blk_grown (g := gb103) (o := .cells #[.slice A0_0 l0_0.length c0_0, .slice A0_1 l0_1.length c0_1, .int .i64 a0_2, .slice A0_3 l0_3.length c0_3] 25 (0, 0)) (by (with_reducible repeat (first | refine blk_drewN ?_ _ | refine blk_drew ?_ | refine blk_alloc ?_ _)); exact BK103.out) hg (Kd.R_ne HO_3.out BK103.out (by decide))); have n2_ := Aside0.mk ((by rw [hw]; exact below_set (HB.out) GB16.out : Below w.heap.size w w18)); clear HO_3; clear BK103; clear HB; have HO_3 := n0_; have BK103 := n1_; have HB := n2_; clear n0_ n1_ n2_; clear hg hw hp_))
                  (try simp only [← hl3_1])
                  go_roundg k1
                  case measure => have := HK1.out; omega
                  case rel => exact ⟨(y109), (wrap64 (x19_1 + 1)), (by first | rfl | (simp; done) | (simp [*]; done)), H', ⟨by have := HK1.out; omega⟩, ⟨by (try simp only [hl3_1]); (with_reducible repeat (first | apply Kd.R_alloc | apply Kd.R_drewN | apply Kd.R_drew)); exact HO_3.out⟩, ⟨by (try simp only [hl3_1]); (with_reducible repeat (first | refine blk_drewN ?_ _ | refine blk_drew ?_ | refine blk_alloc ?_ _)); exact BK103.out⟩, ⟨by repeat (first | (with_reducible first | exact HB.out | apply below_alloc | apply pw_below_drewN | apply below_drew1 | refine below_set ?_ GE103.out) | exact HB.out)⟩⟩
                · rw [if_neg c15] at H
                  exact absurd H (by simp)
              · rw [if_neg c13] at H
                exact absurd H (by simp)
            · rw [if_neg c12] at H
              have c12b0 : decide (x19_1 < (y106.length : Int)) = false := decide_eq_false c12
              clear c12
              have H' := Aside0.mk H
              clear H
              (try simp only [hl3_1] at c12b0)
              go_wp2
              go_loopg [5] k1 (fun kq v5 w' => ∃ (x3_2 : List Int) (x5_2 : Bool), v5 = .bool x5_2 ∧ Aside0 (gram_Above.l1 kq x3_2 x5_2 l0_0 l0_1 a0_2 l0_3 = some r) ∧ Aside0 (kq ≤ k1) ∧ Aside0 (Kd.R (Kd.int .u64) 47 w' w.heap.size (fun _ => True) (.slice Ao11 x3_1.length co11) x3_2) ∧ Aside0 (w'.heap[gb103]? = some (.cells #[(.slice A0_0 l0_0.length c0_0), (.slice A0_1 l0_1.length c0_1), .int .i64 a0_2, (.slice A0_3 l0_3.length c0_3)] 25 (0, 0))) ∧ Aside0 (Below w.heap.size w w'))
              case atStart => exact ⟨(x3_1), (true), (by first | rfl | (simp; done) | (simp [*]; done)), H', ⟨Nat.le_refl _⟩, ⟨by (try simp only [hl3_1]); (with_reducible repeat (first | apply Kd.R_alloc | apply Kd.R_drewN | apply Kd.R_drew)); exact HO_3.out⟩, ⟨by (try simp only [hl3_1]); (with_reducible repeat (first | refine blk_drewN ?_ _ | refine blk_drew ?_ | refine blk_alloc ?_ _)); exact BK103.out⟩, ⟨by repeat (first | (with_reducible first | exact HB.out | apply below_alloc | apply pw_below_drewN | apply below_drew1 | refine below_set ?_ GE103.out) | exact HB.out)⟩⟩
              case round =>
                clear H'
                try clear c1
                try clear p1
                try clear q1
                try clear hx1
                try clear hf1
                try clear c2
                try clear p2
                try clear c3
                try clear c3b0
                try clear c3b1
                try clear c4
                try clear c4b0
                try clear c4b1
                try clear p6
                try clear q10
                try clear c12
                try clear c12b0
                try clear c13
                try clear c13b0
                try clear c13b1
                try clear c15
                try clear c15b0
                try clear p16
                try clear q16
                try clear hx16
                try clear hf16
                try clear hcz6_0
                try clear hcz6_1
                try clear hcz6_2
                try clear hcz6_3
                try clear hcz8_0
                try clear hcz8_1
                try clear hcz8_2
                try clear hcz8_3
                try clear hfz6_0
                try clear hfz6_1
                try clear hfz6_2
                try clear hfz6_3
                try clear hfz8_0
                try clear hfz8_1
                try clear hfz8_2
                try clear hfz8_3
                try clear hx16_0
                try clear p16
                try clear p2
                try clear q1
                try clear q10
                try clear q105
                try clear q16
                obtain ⟨x3_2, x5_2, rfl, HA, HK2, HO_3, BK103, HB⟩ := hrel
                have hl3_2 := (Kd.R_reads' HO_3.out).1
                rw [hl3_2] at HO_3
                (try simp only [hl3_2])
                (try simp only [hl3_2] at BK103)
                cases gk with
                | zero => exact absurd HA.out (by simp [gram_Above.l1])
                | succ k2 =>
                  have H := HA.out
                  clear HA
                  simp only [gram_Above.l1] at H
                  by_cases c19 : x5_2 = true
                  · subst c19
                    have H1 : (gram_Above.l2 k2 x3_2 false l0_3 (l0_3.length : Int) 0 l0_0 l0_1 a0_2 l0_3) = some r := by rw [if_pos rfl] at H; exact H
                    clear H
                    have H := H1
                    clear H1
                    have H' := Aside0.mk H
                    clear H
                    have hcz20_0 : wr.cell? ⟨gb103, 0, none⟩ = some (.slice A0_0 l0_0.length c0_0) := (blk_cell BK103.out 0).trans rfl
                    have hcz20_1 : wr.cell? ⟨gb103, 1, none⟩ = some (.slice A0_1 l0_1.length c0_1) := (blk_cell BK103.out 1).trans rfl
                    have hcz20_2 : wr.cell? ⟨gb103, 2, none⟩ = some (.int .i64 a0_2) := (blk_cell BK103.out 2).trans rfl
                    have hcz20_3 : wr.cell? ⟨gb103, 3, none⟩ = some (.slice A0_3 l0_3.length c0_3) := (blk_cell BK103.out 3).trans rfl
                    have hfz20_0 := blk_frozen BK103.out 0
                    have hfz20_1 := blk_frozen BK103.out 1
                    have hfz20_2 := blk_frozen BK103.out 2
                    have hfz20_3 := blk_frozen BK103.out 3
                    go_wp2
                    go_loopg [5, 32] k2 (fun kq v5 v32 w' => ∃ (x3_3 : List Int) (x5_3 : Bool) (x32_3 : Int), v5 = .bool x5_3 ∧ v32 = .int .i64 x32_3 ∧ Aside0 (gram_Above.l2 kq x3_3 x5_3 l0_3 (l0_3.length : Int) x32_3 l0_0 l0_1 a0_2 l0_3 = some r) ∧ Aside0 (kq ≤ k2) ∧ Aside0 (Kd.R (Kd.int .u64) 47 w' w.heap.size (fun _ => True) (.slice Ao11 x3_2.length co11) x3_3) ∧ Aside0 (w'.heap[gb103]? = some (.cells #[(.slice A0_0 l0_0.length c0_0), (.slice A0_1 l0_1.length c0_1), .int .i64 a0_2, (.slice A0_3 l0_3.length c0_3)] 25 (0, 0))) ∧ Aside0 (Below w.heap.size w w'))
                    case atStart => exact ⟨(x3_2), (false), (0), (by first | rfl | (simp; done) | (simp [*]; done)), (by first | rfl | (simp; done) | (simp [*]; done)), H', ⟨Nat.le_refl _⟩, ⟨by (try simp only [hl3_1]); (try simp only [hl3_2]); (with_reducible repeat (first | apply Kd.R_alloc | apply Kd.R_drewN | apply Kd.R_drew)); exact HO_3.out⟩, ⟨by (try simp only [hl3_1]); (try simp only [hl3_2]); (with_reducible repeat (first | refine blk_drewN ?_ _ | refine blk_drew ?_ | refine blk_alloc ?_ _)); exact BK103.out⟩, ⟨by repeat (first | (with_reducible first | exact HB.out | apply below_alloc | apply pw_below_drewN | apply below_drew1 | refine below_set ?_ GE103.out) | exact HB.out)⟩⟩
                    case round =>
                      clear H'
                      try clear c1
                      try clear p1
                      try clear q1
                      try clear hx1
                      try clear hf1
                      try clear c2
                      try clear p2
                      try clear c3
                      try clear c3b0
                      try clear c3b1
                      try clear c4
                      try clear c4b0
                      try clear c4b1
                      try clear p6
                      try clear q10
                      try clear c12
                      try clear c12b0
                      try clear c13
                      try clear c13b0
                      try clear c13b1
                      try clear c15
                      try clear c15b0
                      try clear p16
                      try clear q16
                      try clear hx16
                      try clear hf16
                      try clear c19
                      try clear hcz20_0
                      try clear hcz20_1
                      try clear hcz20_2
                      try clear hcz20_3
                      try clear hcz6_0
                      try clear hcz6_1
                      try clear hcz6_2
                      try clear hcz6_3
                      try clear hcz8_0
                      try clear hcz8_1
                      try clear hcz8_2
                      try clear hcz8_3
                      try clear hfz20_0
                      try clear hfz20_1
                      try clear hfz20_2
                      try clear hfz20_3
                      try clear hfz6_0
                      try clear hfz6_1
                      try clear hfz6_2
                      try clear hfz6_3
                      try clear hfz8_0
                      try clear hfz8_1
                      try clear hfz8_2
                      try clear hfz8_3
                      try clear hx16_0
                      try clear p1
                      try clear p16
                      try clear p2
                      try clear p6
                      try clear q1
                      try clear q10
                      try clear q105
                      try clear q16
                      obtain ⟨x3_3, x5_3, x32_3, rfl, rfl, HA, HK3, HO_3, BK103, HB⟩ := hrel
                      have hl3_3 := (Kd.R_reads' HO_3.out).1
                      rw [hl3_3] at HO_3
                      (try simp only [hl3_3])
                      (try simp only [hl3_3] at BK103)
                      cases gk with
                      | zero => exact absurd HA.out (by simp [gram_Above.l2])
                      | succ k3 =>
                        have H := HA.out
                        clear HA
                        simp only [gram_Above.l2] at H
                        by_cases c21 : x32_3 < (l0_3.length : Int)
                        · rw [if_pos c21] at H
                          have c21b0 : decide (x32_3 < (l0_3.length : Int)) = true := decide_eq_true c21
                          clear c21
                          by_cases c22 : 0 ≤ x32_3
                          · rw [if_pos c22] at H
                            have c22b0 : decide (0 ≤ x32_3) = true := decide_eq_true c22
                            clear c22
                            by_cases c23 : x32_3 < (l0_3.length : Int)
                            · rw [if_pos c23] at H
                              have c23b0 : decide (x32_3 < (l0_3.length : Int)) = true := decide_eq_true c23
                              clear c23
                              replace H := Option.bind_eq_some_iff.mp H
                              obtain ⟨⟨t112, t113⟩, A240, H⟩ := H
                              replace H : (if t113 = true then (if 0 ≤ ((rd_T35 l0_3 x32_3).f0) then (if ((rd_T35 l0_3 x32_3).f0) < (x3_3.length : Int) then (if 0 ≤ t112 then (if t112 < (x3_3.length : Int) then (if (Go.bits .andNot .u64 (rd x3_3 ((rd_T35 l0_3 x32_3).f0)) (rd x3_3 t112)) = 0 then (gram_Above.l2 k3 x3_3 x5_3 l0_3 (l0_3.length : Int) (wrap64 (x32_3 + 1)) l0_0 l0_1 a0_2 l0_3) else (gram_Above.l2 k3 (x3_3.set (t112 : Int).toNat (Go.bits .or .u64 (rd x3_3 t112) (rd x3_3 ((rd_T35 l0_3 x32_3).f0)))) true l0_3 (l0_3.length : Int) (wrap64 (x32_3 + 1)) l0_0 l0_1 a0_2 l0_3)) else (none)) else (none)) else (none)) else (none)) else (gram_Above.l2 k3 x3_3 x5_3 l0_3 (l0_3.length : Int) (wrap64 (x32_3 + 1)) l0_0 l0_1 a0_2 l0_3)) = some r := H
                              have A24 := Aside0.mk A240
                              clear A240
                              by_cases c25 : t113 = true
                              · subst c25
                                have H1 : (if 0 ≤ ((rd_T35 l0_3 x32_3).f0) then (if ((rd_T35 l0_3 x32_3).f0) < (x3_3.length : Int) then (if 0 ≤ t112 then (if t112 < (x3_3.length : Int) then (if (Go.bits .andNot .u64 (rd x3_3 ((rd_T35 l0_3 x32_3).f0)) (rd x3_3 t112)) = 0 then (gram_Above.l2 k3 x3_3 x5_3 l0_3 (l0_3.length : Int) (wrap64 (x32_3 + 1)) l0_0 l0_1 a0_2 l0_3) else (gram_Above.l2 k3 (x3_3.set (t112 : Int).toNat (Go.bits .or .u64 (rd x3_3 t112) (rd x3_3 ((rd_T35 l0_3 x32_3).f0)))) true l0_3 (l0_3.length : Int) (wrap64 (x32_3 + 1)) l0_0 l0_1 a0_2 l0_3)) else (none)) else (none)) else (none)) else (none)) = some r := by rw [if_pos rfl] at H; exact H
                                clear H
                                have H := H1
                                clear H1
                                by_cases c26 : 0 ≤ ((rd_T35 l0_3 x32_3).f0)
                                · rw [if_pos c26] at H
                                  have c26b0 : decide (0 ≤ ((rd_T35 l0_3 x32_3).f0)) = true := decide_eq_true c26
                                  clear c26
                                  by_cases c27 : ((rd_T35 l0_3 x32_3).f0) < (x3_3.length : Int)
                                  · rw [if_pos c27] at H
                                    have c27b0 : decide (((rd_T35 l0_3 x32_3).f0) < (x3_3.length : Int)) = true := decide_eq_true c27
                                    clear c27
                                    by_cases c28 : 0 ≤ t112
                                    · rw [if_pos c28] at H
                                      have c28b0 : decide (0 ≤ t112) = true := decide_eq_true c28
                                      clear c28
                                      by_cases c29 : t112 < (x3_3.length : Int)
                                      · rw [if_pos c29] at H
                                        have c29b0 : decide (t112 < (x3_3.length : Int)) = true := decide_eq_true c29
                                        clear c29
                                        by_cases c30 : (Go.bits .andNot .u64 (rd x3_3 ((rd_T35 l0_3 x32_3).f0)) (rd x3_3 t112)) = 0
                                        · rw [if_pos c30] at H
                                          have c30b0 : ((Go.bits .andNot .u64 (rd x3_3 ((rd_T35 l0_3 x32_3).f0)) (rd x3_3 t112)) == 0) = true := beq_iff_eq.mpr c30
                                          have c30b1 : ((Go.bits .andNot .u64 (rd x3_3 ((rd_T35 l0_3 x32_3).f0)) (rd x3_3 t112)) != 0) = false := bne_eq_false_iff_eq.mpr c30
                                          clear c30
                                          have H' := Aside0.mk H
                                          clear H
                                          have p110 : 0 ≤ (x32_3 : Int) := of_decide_eq_true (by first | (with_reducible assumption) | assumption)
                                          have q110 : x32_3 < (l0_3.length : Int) := of_decide_eq_true (by first | (with_reducible assumption) | assumption)
                                          obtain ⟨ad110, A110_1, c110_1, e110, hx110_0, hx110_1, hl110_1, hi110_1⟩ := at_T35 HR0_3.out x32_3 p110 q110
                                          cases e110
                                          replace hx110_0 := (HB.out.cell (World.block_lt_of_cell? w _ hx110_0)).trans hx110_0
                                          replace hx110_1 := (HB.out.cell (World.block_lt_of_cell? w _ hx110_1)).trans hx110_1
                                          have HR110_1 := Aside0.mk hi110_1
                                          have HC110_1 := Aside0.mk hl110_1
                                          clear hi110_1 hl110_1
                                          replace p110 := eq_true p110
                                          replace q110 := eq_true q110
                                          try go_wp2_with (first | ((with_reducible refine gate_dst (N := 7) rfl ?_); refine box_event ?hg (N := 7) ?hd (cs := #[.int .i64 0, .slice none 0 0]) (t := 35) ?hr ?_; (case hd => rfl); (case hg => rfl); (case hr => first | (go_simp; done) | (go_simp; rfl)); intro gb111 hg w31 hbox hb; have n0_ := Aside0.mk (Kd.R_below (by (with_reducible repeat (first | apply Kd.R_alloc | apply Kd.R_drewN | apply Kd.R_drew)); exact HO_3.out) hb); have n1_ := Aside0.mk (blk_below (g := gb103) (o := .cells #[.slice A0_0 l0_0.length c0_0, .slice A0_1 l0_1.length c0_1, .int .i64 a0_2, .slice (some ad110) l0_3.length c0_3] 25 (0, 0)) (by (with_reducible repeat (first | refine blk_drewN ?_ _ | refine blk_drew ?_ | refine blk_alloc ?_ _)); exact BK103.out) hb); have n2_ := Aside0.mk (below_step (by repeat (first | (with_reducible first | exact HB.out | apply below_alloc | apply pw_below_drewN | apply below_drew1 | refine below_set ?_ GE103.out) | exact HB.out)) hb); have n3_ := Aside0.mk (hbox); have n4_ := Aside0.mk ((by rw [hg]; exact (below_size (by repeat (first | (with_reducible first | exact HB.out | apply below_alloc | apply pw_below_drewN | apply below_drew1 | refine below_set ?_ GE103.out) | exact HB.out))) : w.heap.size ≤ gb111)); have n5_ := Aside0.mk ((by rw [hg]; exact (below_size (by repeat (first | (with_reducible first | exact HB.out | apply below_alloc | apply pw_below_drewN | apply below_drew1 | refine below_set ?_ GE103.out) | exact HB.out))) : w.heap.size ≤ gb111)); have n6_ := Aside0.mk ((by rw [hg]; exact Nat.ne_of_lt (blk_lt (g := gb103) (o := .cells #[.slice A0_0 l0_0.length c0_0, .slice A0_1 l0_1.length c0_1, .int .i64 a0_2, .slice (some ad110) l0_3.length c0_3] 25 (0, 0)) (by (with_reducible repeat (first | refine blk_drewN ?_ _ | refine blk_drew ?_ | refine blk_alloc ?_ _)); exact BK103.out)) : gb103 ≠ gb111)); have n7_ := Aside0.mk ((by rw [hg]; exact Nat.ne_of_gt (blk_lt (g := gb103) (o := .cells #[.slice A0_0 l0_0.length c0_0, .slice A0_1 l0_1.length c0_1, .int .i64 a0_2, .slice (some ad110) l0_3.length c0_3] 25 (0, 0)) (by (with_reducible repeat (first | refine blk_drewN ?_ _ | refine blk_drew ?_ | refine blk_alloc ?_ _)); exact BK103.out)) : gb111 ≠ gb103)); clear HO_3; clear BK103; clear HB; have HO_3 := n0_; have BK103 := n1_; have HB := n2_; have BK111 := n3_; have GW111 := n4_; have GE111 := n5_; have NB103_111 := n6_; have NB111_103 := n7_; clear n0_ n1_ n2_ n3_ n4_ n5_ n6_ n7_; clear hb hbox hg; have hnb32 := NB111_103.out; have hnc32 := NB103_111.out; have hcz33_0 : w31.cell? ⟨gb111, 0, none⟩ = some (.int .i64 0) := (blk_cell BK111.out 0).trans rfl; have hcz33_1 : w31.cell? ⟨gb111, 1, none⟩ = some (.slice none 0 0) := (blk_cell BK111.out 1).trans rfl; have hfz33_0 := blk_frozen BK111.out 0; have hfz33_1 := blk_frozen BK111.out 1) | ((with_reducible refine gate_callee (f := 21) rfl ?_); refine goesL_ (some 38) rfl rfl Tryd.func21 (by kernel_rfl) rfl #[.agg #[.int .i64 ((rd_T35 l0_3 x32_3).f0), .slice A110_1 ((rd_T35 l0_3 x32_3).f1).length c110_1]] rfl (by (try simp only [List.map_toArray, List.map_cons, List.map_nil]); first | done | rfl | (simp only [List.length_drop, List.length_take]; rfl)) ?_; (with_reducible refine (gram_Renaming.calls ((rd_T35 l0_3 x32_3).f0) _ _ ((rd_T35 l0_3 x32_3).f1) t112 true _ ?side1 ?side2 A24.out).mono ?_); (case side1 => exact Kd.C_below HR110_1.out (by repeat (first | (with_reducible first | exact HB.out | apply below_alloc | apply pw_below_drewN | apply below_drew1 | refine below_set ?_ GE103.out | refine below_set ?_ GE111.out) | exact HB.out))); (case side2 => exact HC110_1.out); rintro e w34 ⟨rfl, hb⟩; refine ⟨_, rfl, ?_⟩; have n0_ := Aside0.mk (Kd.R_below (by (with_reducible repeat (first | apply Kd.R_alloc | apply Kd.R_drewN | apply Kd.R_drew)); exact (Kd.R_mono (Kd.R_far (p := ⟨gb111, 1, none⟩) (Kd.R_far (p := ⟨gb111, 0, none⟩) (Kd.R_types HO_3.out BK111.out (by decide)) (fun _ hk => hk.2) (.int .i64 ((rd_T35 l0_3 x32_3).f0))) (fun _ hk => hk.2) (.slice A110_1 ((rd_T35 l0_3 x32_3).f1).length c110_1)) (fun _ h_ => h_.1))) hb); have n1_ := Aside0.mk (blk_below (g := gb103) (o := .cells #[.slice A0_0 l0_0.length c0_0, .slice A0_1 l0_1.length c0_1, .int .i64 a0_2, .slice (some ad110) l0_3.length c0_3] 25 (0, 0)) (by (with_reducible repeat (first | refine blk_drewN ?_ _ | refine blk_drew ?_ | refine blk_alloc ?_ _)); refine blk_far ?_ NB103_111.out _; (with_reducible repeat (first | refine blk_drewN ?_ _ | refine blk_drew ?_ | refine blk_alloc ?_ _)); refine blk_far ?_ NB103_111.out _; (with_reducible repeat (first | refine blk_drewN ?_ _ | refine blk_drew ?_ | refine blk_alloc ?_ _)); exact BK103.out) hb); have n2_ := Aside0.mk (blk_below (g := gb111) (o := .cells #[.int .i64 ((rd_T35 l0_3 x32_3).f0), .slice A110_1 ((rd_T35 l0_3 x32_3).f1).length c110_1] 35 (0, 0)) (by (with_reducible repeat (first | refine blk_drewN ?_ _ | refine blk_drew ?_ | refine blk_alloc ?_ _)); refine blk_put (cs := #[.int .i64 ((rd_T35 l0_3 x32_3).f0), .slice none 0 0]) ?_ 1 _ rfl; (with_reducible repeat (first | refine blk_drewN ?_ _ | refine blk_drew ?_ | refine blk_alloc ?_ _)); refine blk_put (cs := #[.int .i64 0, .slice none 0 0]) ?_ 0 _ rfl; (with_reducible repeat (first | refine blk_drewN ?_ _ | refine blk_drew ?_ | refine blk_alloc ?_ _)); exact BK111.out) hb); have n3_ := Aside0.mk (below_step (by repeat (first | (with_reducible first | exact HB.out | apply below_alloc | apply pw_below_drewN | apply below_drew1 | refine below_set ?_ GE103.out | refine below_set ?_ GE111.out) | exact HB.out)) hb); clear HO_3; clear BK103; clear BK111; clear HB; have HO_3 := n0_; have BK103 := n1_; have BK111 := n2_; have HB := n3_; clear n0_ n1_ n2_ n3_; (try clear hb); (try clear hb2); (try clear hk); (try clear hi)))
                                          have n0_ := Aside0.mk (Kd.R_drew HO_3.out)
                                          have n1_ := Aside0.mk (blk_drew BK103.out)
                                          have n2_ := Aside0.mk (blk_drew BK111.out)
                                          have n3_ := Aside0.mk (below_drew1 HB.out)
                                          clear HO_3
                                          clear BK103
                                          clear BK111
                                          clear HB
                                          have HO_3 := n0_
                                          have BK103 := n1_
                                          have BK111 := n2_
                                          have HB := n3_
                                          clear n0_ n1_ n2_ n3_
                                          have p114 : 0 ≤ (((rd_T35 l0_3 x32_3).f0) : Int) := of_decide_eq_true (by first | (with_reducible assumption) | assumption)
                                          have q114 : ((rd_T35 l0_3 x32_3).f0) < (x3_3.length : Int) := of_decide_eq_true (by first | (with_reducible assumption) | assumption)
                                          obtain ⟨ad114, e114, hx114_0⟩ := Kd.at_int (Kd.R_reads' HO_3.out).2.2 ((rd_T35 l0_3 x32_3).f0) p114 q114
                                          cases e114
                                          replace p114 := eq_true p114
                                          replace q114 := eq_true q114
                                          have p115 : 0 ≤ (t112 : Int) := of_decide_eq_true (by first | (with_reducible assumption) | assumption)
                                          have q115 : t112 < (x3_3.length : Int) := of_decide_eq_true (by first | (with_reducible assumption) | assumption)
                                          obtain ⟨ad115, e115, hx115_0⟩ := Kd.at_int (Kd.R_reads' HO_3.out).2.2 t112 p115 q115
                                          obtain rfl : ad114 = ad115 := (by injection e115)
                                          replace p115 := eq_true p115
                                          replace q115 := eq_true q115
                                          refine start_ (n := 14) (S := fun w' => w'.cell? ⟨gb111, 0, none⟩ = some (.int .i64 ((rd_T35 l0_3 x32_3).f0)) ∧ w'.cell? ⟨gb111, 1, none⟩ = some (.slice A110_1 ((rd_T35 l0_3 x32_3).f1).length c110_1) ∧ w'.cell? (ad114.add (((rd_T35 l0_3 x32_3).f0)).toNat) = some (.int .u64 (rd x3_3 ((rd_T35 l0_3 x32_3).f0))) ∧ w'.cell? (ad114.add (t112).toNat) = some (.int .u64 (rd x3_3 t112))) (ds := []) #[false, false, false, false, false, false, false, false, false, false, false, false, false, false] (by kernel_rfl) rfl rfl ⟨(blk_cell BK111.out 0).trans rfl, (blk_cell BK111.out 1).trans rfl, hx114_0, hx115_0⟩ (fun hHeld => ?_); refine with_tabW gram_Above.tab16 gram_Above.bits16 (fun HT_ HW_ => ?_)
                                          generalize w34.drew = w35 at HO_3 BK103 BK111 HB hx114_0 hx115_0 hHeld ⊢
                                          refine pure_ (i := 0) (N := some 41) (v := ?_) (a' := ?_) #[true, false, false, false, false, false, false, false, false, false, false, false, false, false] rfl rfl (any_of HT_.out (by kernel_rfl)) (fun _ _ _ h => h) (Or.inl ⟨by rfl, ?_⟩) ?_ ?_
                                          rotate_left
                                          · intro w'
                                            go_simp
                                            with_reducible rfl
                                          rotate_left
                                          · simp only [Act.put, List.setIfInBounds_toArray, List.set_cons_zero, List.set_cons_succ, i64_w, i32_w]
                                            rfl
                                          refine pure_ (i := 1) (N := some 42) (v := ?_) (a' := ?_) #[true, true, false, false, false, false, false, false, false, false, false, false, false, false] rfl rfl (any_of HT_.out (by kernel_rfl)) (fun _ _ _ h => h) (Or.inl ⟨by rfl, ?_⟩) ?_ ?_
                                          rotate_left
                                          · intro w'
                                            go_simp
                                            with_reducible rfl
                                          rotate_left
                                          · simp only [Act.put, List.setIfInBounds_toArray, List.set_cons_zero, List.set_cons_succ, i64_w, i32_w]
                                            rfl
                                          refine pure_ (i := 2) (N := some 43) (v := ?_) (a' := ?_) #[true, true, true, false, false, false, false, false, false, false, false, false, false, false] rfl rfl (any_of HT_.out (by kernel_rfl)) (fun _ _ _ h => h) (Or.inl ⟨by rfl, ?_⟩) ?_ ?_
                                          rotate_left
                                          · intro w'
                                            go_simp
                                            with_reducible rfl
                                          rotate_left
                                          · simp only [Act.put, List.setIfInBounds_toArray, List.set_cons_zero, List.set_cons_succ, i64_w, i32_w]
                                            rfl
                                          refine pure_ (i := 3) (N := some 44) (v := ?_) (a' := ?_) #[true, true, true, true, false, false, false, false, false, false, false, false, false, false] rfl rfl (any_of HT_.out (by kernel_rfl)) (fun _ _ _ h => h) (Or.inl ⟨by rfl, ?_⟩) ?_ ?_
                                          rotate_left
                                          · intro w'
                                            go_simp
                                            with_reducible rfl
                                          rotate_left
                                          · simp only [Act.put, List.setIfInBounds_toArray, List.set_cons_zero, List.set_cons_succ, i64_w, i32_w]
                                            rfl
                                          refine pure_ (i := 7) (N := some 48) (v := ?_) (a' := ?_) #[true, true, true, true, false, false, false, true, false, false, false, false, false, false] rfl rfl (any_of HT_.out (by kernel_rfl)) (fun _ _ _ h => h) (Or.inl ⟨by rfl, ?_⟩) ?_ ?_
                                          rotate_left
                                          · intro w'
                                            go_simp
                                            with_reducible rfl
                                          rotate_left
                                          · simp only [Act.put, List.setIfInBounds_toArray, List.set_cons_zero, List.set_cons_succ, i64_w, i32_w]
                                            rfl
                                          refine pure_ (i := 8) (N := some 49) (v := ?_) (a' := ?_) #[true, true, true, true, false, false, false, true, true, false, false, false, false, false] rfl rfl (any_of HT_.out (by kernel_rfl)) (fun _ _ _ h => h) (Or.inl ⟨by rfl, ?_⟩) ?_ ?_
                                          rotate_left
                                          · intro w'
                                            go_simp
                                            with_reducible rfl
                                          rotate_left
                                          · simp only [Act.put, List.setIfInBounds_toArray, List.set_cons_zero, List.set_cons_succ, i64_w, i32_w]
                                            rfl
                                          refine pure_ (i := 9) (N := some 50) (v := ?_) (a' := ?_) #[true, true, true, true, false, false, false, true, true, true, false, false, false, false] rfl rfl (any_of HT_.out (by kernel_rfl)) (fun _ _ _ h => h) (Or.inl ⟨by rfl, ?_⟩) ?_ ?_
                                          rotate_left
                                          · intro w'
                                            go_simp
                                            with_reducible rfl
                                          rotate_left
                                          · simp only [Act.put, List.setIfInBounds_toArray, List.set_cons_zero, List.set_cons_succ, i64_w, i32_w]
                                            rfl
                                          refine take_ (i := 4) (N := some 45) (v := ?_) (a' := ?_) #[true, true, true, true, true, false, false, true, true, true, false, false, false, false] rfl rfl (take_ofW HT_.out HW_.out (by kernel_rfl)) (fun _ _ _ h => h) (Or.inl ⟨by rfl, ?_⟩) hHeld ?_ ?_
                                          rotate_left
                                          · rintro w' ⟨s0, s1, s2, s3⟩
                                            go_simp
                                            with_reducible rfl
                                          rotate_left
                                          · simp only [Act.put, List.setIfInBounds_toArray, List.set_cons_zero, List.set_cons_succ, i64_w, i32_w]
                                            rfl
                                          refine pure_ (i := 5) (N := some 46) (v := ?_) (a' := ?_) #[true, true, true, true, true, true, false, true, true, true, false, false, false, false] rfl rfl (any_of HT_.out (by kernel_rfl)) (fun _ _ _ h => h) (Or.inl ⟨by rfl, ?_⟩) ?_ ?_
                                          rotate_left
                                          · intro w'
                                            go_simp
                                            with_reducible rfl
                                          rotate_left
                                          · simp only [Act.put, List.setIfInBounds_toArray, List.set_cons_zero, List.set_cons_succ, i64_w, i32_w]
                                            rfl
                                          refine take_ (i := 6) (N := some 47) (v := ?_) (a' := ?_) #[true, true, true, true, true, true, true, true, true, true, false, false, false, false] rfl rfl (take_ofW HT_.out HW_.out (by kernel_rfl)) (fun _ _ _ h => h) (Or.inl ⟨by rfl, ?_⟩) hHeld ?_ ?_
                                          rotate_left
                                          · rintro w' ⟨s0, s1, s2, s3⟩
                                            go_simp
                                            with_reducible rfl
                                          rotate_left
                                          · simp only [Act.put, List.setIfInBounds_toArray, List.set_cons_zero, List.set_cons_succ, i64_w, i32_w]
                                            rfl
                                          refine take_ (i := 10) (N := some 51) (v := ?_) (a' := ?_) #[true, true, true, true, true, true, true, true, true, true, true, false, false, false] rfl rfl (take_ofW HT_.out HW_.out (by kernel_rfl)) (fun _ _ _ h => h) (Or.inl ⟨by rfl, ?_⟩) hHeld ?_ ?_
                                          rotate_left
                                          · rintro w' ⟨s0, s1, s2, s3⟩
                                            go_simp
                                            with_reducible rfl
                                          rotate_left
                                          · simp only [Act.put, List.setIfInBounds_toArray, List.set_cons_zero, List.set_cons_succ, i64_w, i32_w]
                                            rfl
                                          refine pure_ (i := 11) (N := some 52) (v := ?_) (a' := ?_) #[true, true, true, true, true, true, true, true, true, true, true, true, false, false] rfl rfl (any_of HT_.out (by kernel_rfl)) (fun _ _ _ h => h) (Or.inl ⟨by rfl, ?_⟩) ?_ ?_
                                          rotate_left
                                          · intro w'
                                            go_simp
                                            with_reducible rfl
                                          rotate_left
                                          · simp only [Act.put, List.setIfInBounds_toArray, List.set_cons_zero, List.set_cons_succ, i64_w, i32_w]
                                            rfl
                                          refine pure_ (i := 12) (N := some 53) (v := ?_) (a' := ?_) #[true, true, true, true, true, true, true, true, true, true, true, true, true, false] rfl rfl (any_of HT_.out (by kernel_rfl)) (fun _ _ _ h => h) (Or.inl ⟨by rfl, ?_⟩) ?_ ?_
                                          rotate_left
                                          · intro w'
                                            go_simp
                                            with_reducible rfl
                                          rotate_left
                                          · simp only [Act.put, List.setIfInBounds_toArray, List.set_cons_zero, List.set_cons_succ, i64_w, i32_w]
                                            rfl
                                          refine pure_ (i := 13) (N := some 54) (v := ?_) (a' := ?_) #[true, true, true, true, true, true, true, true, true, true, true, true, true, true] rfl rfl (any_of HT_.out (by kernel_rfl)) (fun _ _ _ h => h) (Or.inl ⟨by rfl, ?_⟩) ?_ ?_
                                          rotate_left
                                          · intro w'
                                            go_simp
                                            with_reducible rfl
                                          rotate_left
                                          · simp only [Act.put, List.setIfInBounds_toArray, List.set_cons_zero, List.set_cons_succ, i64_w, i32_w]
                                            rfl
                                          refine done_ (done_of HT_.out (by kernel_rfl)) ?_
                                          try go_wp2
                                          (try simp only [← hl3_3])
                                          go_roundg k3
                                          case measure => have := HK1.out; have := HK2.out; have := HK3.out; omega
                                          case rel => exact ⟨(x3_3), (x5_3), (wrap64 (x32_3 + 1)), (by first | rfl | (simp; done) | (simp [*]; done)), (by first | rfl | (simp; done) | (simp [*]; done)), H', ⟨by have := HK1.out; have := HK2.out; have := HK3.out; omega⟩, ⟨by (try simp only [hl3_1]); (try simp only [hl3_2]); (try simp only [hl3_3]); (with_reducible repeat (first | apply Kd.R_alloc | apply Kd.R_drewN | apply Kd.R_drew)); exact HO_3.out⟩, ⟨by (try simp only [hl3_1]); (try simp only [hl3_2]); (try simp only [hl3_3]); (with_reducible repeat (first | refine blk_drewN ?_ _ | refine blk_drew ?_ | refine blk_alloc ?_ _)); exact BK103.out⟩, ⟨by repeat (first | (with_reducible first | exact HB.out | apply below_alloc | apply pw_below_drewN | apply below_drew1 | refine below_set ?_ GE103.out | refine below_set ?_ GE111.out) | exact HB.out)⟩⟩
                                        · rw [if_neg c30] at H
                                          have c30b0 : ((Go.bits .andNot .u64 (rd x3_3 ((rd_T35 l0_3 x32_3).f0)) (rd x3_3 t112)) == 0) = false := beq_eq_false_iff_ne.mpr c30
                                          have c30b1 : ((Go.bits .andNot .u64 (rd x3_3 ((rd_T35 l0_3 x32_3).f0)) (rd x3_3 t112)) != 0) = true := bne_iff_ne.mpr c30
                                          obtain ⟨y118, hy118⟩ : ∃ y_ : List Int, y_ = (x3_3.set (t112 : Int).toNat (Go.bits .or .u64 (rd x3_3 t112) (rd x3_3 ((rd_T35 l0_3 x32_3).f0)))) := ⟨_, rfl⟩
                                          replace H : (gram_Above.l2 k3 y118 true l0_3 (l0_3.length : Int) (wrap64 (x32_3 + 1)) l0_0 l0_1 a0_2 l0_3) = some r := by first | (rw [hy118]; with_reducible exact H) | (have H2_ := (Option.bind_some _ _).symm.trans H; rw [hy118]; with_reducible exact H2_) | (have H2_ := (Option.bind_some _ _).symm.trans H; with_reducible exact H2_) | with_reducible exact H | (rw [hy118]; exact H) | exact H
                                          have Ny118 := Aside0.mk hy118
                                          clear hy118
                                          have H' := Aside0.mk H
                                          clear H
                                          have p110 : 0 ≤ (x32_3 : Int) := of_decide_eq_true (by first | (with_reducible assumption) | assumption)
                                          have q110 : x32_3 < (l0_3.length : Int) := of_decide_eq_true (by first | (with_reducible assumption) | assumption)
                                          obtain ⟨ad110, A110_1, c110_1, e110, hx110_0, hx110_1, hl110_1, hi110_1⟩ := at_T35 HR0_3.out x32_3 p110 q110
                                          cases e110
                                          replace hx110_0 := (HB.out.cell (World.block_lt_of_cell? w _ hx110_0)).trans hx110_0
                                          replace hx110_1 := (HB.out.cell (World.block_lt_of_cell? w _ hx110_1)).trans hx110_1
                                          have HR110_1 := Aside0.mk hi110_1
                                          have HC110_1 := Aside0.mk hl110_1
                                          clear hi110_1 hl110_1
                                          replace p110 := eq_true p110
                                          replace q110 := eq_true q110
                                          try go_wp2_with (first | ((with_reducible refine gate_dst (N := 7) rfl ?_); refine box_event ?hg (N := 7) ?hd (cs := #[.int .i64 0, .slice none 0 0]) (t := 35) ?hr ?_; (case hd => rfl); (case hg => rfl); (case hr => first | (go_simp; done) | (go_simp; rfl)); intro gb111 hg w37 hbox hb; have n0_ := Aside0.mk (Kd.R_below (by (with_reducible repeat (first | apply Kd.R_alloc | apply Kd.R_drewN | apply Kd.R_drew)); exact HO_3.out) hb); have n1_ := Aside0.mk (blk_below (g := gb103) (o := .cells #[.slice A0_0 l0_0.length c0_0, .slice A0_1 l0_1.length c0_1, .int .i64 a0_2, .slice (some ad110) l0_3.length c0_3] 25 (0, 0)) (by (with_reducible repeat (first | refine blk_drewN ?_ _ | refine blk_drew ?_ | refine blk_alloc ?_ _)); exact BK103.out) hb); have n2_ := Aside0.mk (below_step (by repeat (first | (with_reducible first | exact HB.out | apply below_alloc | apply pw_below_drewN | apply below_drew1 | refine below_set ?_ GE103.out) | exact HB.out)) hb); have n3_ := Aside0.mk (hbox); have n4_ := Aside0.mk ((by rw [hg]; exact (below_size (by repeat (first | (with_reducible first | exact HB.out | apply below_alloc | apply pw_below_drewN | apply below_drew1 | refine below_set ?_ GE103.out) | exact HB.out))) : w.heap.size ≤ gb111)); have n5_ := Aside0.mk ((by rw [hg]; exact (below_size (by repeat (first | (with_reducible first | exact HB.out | apply below_alloc | apply pw_below_drewN | apply below_drew1 | refine below_set ?_ GE103.out) | exact HB.out))) : w.heap.size ≤ gb111)); have n6_ := Aside0.mk ((by rw [hg]; exact Nat.ne_of_lt (blk_lt (g := gb103) (o := .cells #[.slice A0_0 l0_0.length c0_0, .slice A0_1 l0_1.length c0_1, .int .i64 a0_2, .slice (some ad110) l0_3.length c0_3] 25 (0, 0)) (by (with_reducible repeat (first | refine blk_drewN ?_ _ | refine blk_drew ?_ | refine blk_alloc ?_ _)); exact BK103.out)) : gb103 ≠ gb111)); have n7_ := Aside0.mk ((by rw [hg]; exact Nat.ne_of_gt (blk_lt (g := gb103) (o := .cells #[.slice A0_0 l0_0.length c0_0, .slice A0_1 l0_1.length c0_1, .int .i64 a0_2, .slice (some ad110) l0_3.length c0_3] 25 (0, 0)) (by (with_reducible repeat (first | refine blk_drewN ?_ _ | refine blk_drew ?_ | refine blk_alloc ?_ _)); exact BK103.out)) : gb111 ≠ gb103)); clear HO_3; clear BK103; clear HB; have HO_3 := n0_; have BK103 := n1_; have HB := n2_; have BK111 := n3_; have GW111 := n4_; have GE111 := n5_; have NB103_111 := n6_; have NB111_103 := n7_; clear n0_ n1_ n2_ n3_ n4_ n5_ n6_ n7_; clear hb hbox hg; have hnb38 := NB111_103.out; have hnc38 := NB103_111.out; have hcz39_0 : w37.cell? ⟨gb111, 0, none⟩ = some (.int .i64 0) := (blk_cell BK111.out 0).trans rfl; have hcz39_1 : w37.cell? ⟨gb111, 1, none⟩ = some (.slice none 0 0) := (blk_cell BK111.out 1).trans rfl; have hfz39_0 := blk_frozen BK111.out 0; have hfz39_1 := blk_frozen BK111.out 1) | ((with_reducible refine gate_callee (f := 21) rfl ?_); refine goesL_ (some 38) rfl rfl Tryd.func21 (by kernel_rfl) rfl #[.agg #[.int .i64 ((rd_T35 l0_3 x32_3).f0), .slice A110_1 ((rd_T35 l0_3 x32_3).f1).length c110_1]] rfl (by (try simp only [List.map_toArray, List.map_cons, List.map_nil]); first | done | rfl | (simp only [List.length_drop, List.length_take]; rfl)) ?_; (with_reducible refine (gram_Renaming.calls ((rd_T35 l0_3 x32_3).f0) _ _ ((rd_T35 l0_3 x32_3).f1) t112 true _ ?side1 ?side2 A24.out).mono ?_); (case side1 => exact Kd.C_below HR110_1.out (by repeat (first | (with_reducible first | exact HB.out | apply below_alloc | apply pw_below_drewN | apply below_drew1 | refine below_set ?_ GE103.out | refine below_set ?_ GE111.out) | exact HB.out))); (case side2 => exact HC110_1.out); rintro e w40 ⟨rfl, hb⟩; refine ⟨_, rfl, ?_⟩; have n0_ := Aside0.mk (Kd.R_below (by (with_reducible repeat (first | apply Kd.R_alloc | apply Kd.R_drewN | apply Kd.R_drew)); exact (Kd.R_mono (Kd.R_far (p := ⟨gb111, 1, none⟩) (Kd.R_far (p := ⟨gb111, 0, none⟩) (Kd.R_types HO_3.out BK111.out (by decide)) (fun _ hk => hk.2) (.int .i64 ((rd_T35 l0_3 x32_3).f0))) (fun _ hk => hk.2) (.slice A110_1 ((rd_T35 l0_3 x32_3).f1).length c110_1)) (fun _ h_ => h_.1))) hb); have n1_ := Aside0.mk (blk_below (g := gb103) (o := .cells #[.slice A0_0 l0_0.length c0_0, .slice A0_1 l0_1.length c0_1, .int .i64 a0_2, .slice (some ad110) l0_3.length c0_3] 25 (0, 0)) (by (with_reducible repeat (first | refine blk_drewN ?_ _ | refine blk_drew ?_ | refine blk_alloc ?_ _)); refine blk_far ?_ NB103_111.out _; (with_reducible repeat (first | refine blk_drewN ?_ _ | refine blk_drew ?_ | refine blk_alloc ?_ _)); refine blk_far ?_ NB103_111.out _; (with_reducible repeat (first | refine blk_drewN ?_ _ | refine blk_drew ?_ | refine blk_alloc ?_ _)); exact BK103.out) hb); have n2_ := Aside0.mk (blk_below (g := gb111) (o := .cells #[.int .i64 ((rd_T35 l0_3 x32_3).f0), .slice A110_1 ((rd_T35 l0_3 x32_3).f1).length c110_1] 35 (0, 0)) (by (with_reducible repeat (first | refine blk_drewN ?_ _ | refine blk_drew ?_ | refine blk_alloc ?_ _)); refine blk_put (cs := #[.int .i64 ((rd_T35 l0_3 x32_3).f0), .slice none 0 0]) ?_ 1 _ rfl; (with_reducible repeat (first | refine blk_drewN ?_ _ | refine blk_drew ?_ | refine blk_alloc ?_ _)); refine blk_put (cs := #[.int .i64 0, .slice none 0 0]) ?_ 0 _ rfl; (with_reducible repeat (first | refine blk_drewN ?_ _ | refine blk_drew ?_ | refine blk_alloc ?_ _)); exact BK111.out) hb); have n3_ := Aside0.mk (below_step (by repeat (first | (with_reducible first | exact HB.out | apply below_alloc | apply pw_below_drewN | apply below_drew1 | refine below_set ?_ GE103.out | refine below_set ?_ GE111.out) | exact HB.out)) hb); clear HO_3; clear BK103; clear BK111; clear HB; have HO_3 := n0_; have BK103 := n1_; have BK111 := n2_; have HB := n3_; clear n0_ n1_ n2_ n3_; (try clear hb); (try clear hb2); (try clear hk); (try clear hi)))
                                          have n0_ := Aside0.mk (Kd.R_drew HO_3.out)
                                          have n1_ := Aside0.mk (blk_drew BK103.out)
                                          have n2_ := Aside0.mk (blk_drew BK111.out)
                                          have n3_ := Aside0.mk (below_drew1 HB.out)
                                          clear HO_3
                                          clear BK103
                                          clear BK111
                                          clear HB
                                          have HO_3 := n0_
                                          have BK103 := n1_
                                          have BK111 := n2_
                                          have HB := n3_
                                          clear n0_ n1_ n2_ n3_
                                          have p114 : 0 ≤ (((rd_T35 l0_3 x32_3).f0) : Int) := of_decide_eq_true (by first | (with_reducible assumption) | assumption)
                                          have q114 : ((rd_T35 l0_3 x32_3).f0) < (x3_3.length : Int) := of_decide_eq_true (by first | (with_reducible assumption) | assumption)
                                          obtain ⟨ad114, e114, hx114_0⟩ := Kd.at_int (Kd.R_reads' HO_3.out).2.2 ((rd_T35 l0_3 x32_3).f0) p114 q114
                                          cases e114
                                          replace p114 := eq_true p114
                                          replace q114 := eq_true q114
                                          have p115 : 0 ≤ (t112 : Int) := of_decide_eq_true (by first | (with_reducible assumption) | assumption)
                                          have q115 : t112 < (x3_3.length : Int) := of_decide_eq_true (by first | (with_reducible assumption) | assumption)
                                          obtain ⟨ad115, e115, hx115_0⟩ := Kd.at_int (Kd.R_reads' HO_3.out).2.2 t112 p115 q115
                                          obtain rfl : ad114 = ad115 := (by injection e115)
                                          replace p115 := eq_true p115
                                          replace q115 := eq_true q115
                                          refine start_ (n := 14) (S := fun w' => w'.cell? ⟨gb111, 0, none⟩ = some (.int .i64 ((rd_T35 l0_3 x32_3).f0)) ∧ w'.cell? ⟨gb111, 1, none⟩ = some (.slice A110_1 ((rd_T35 l0_3 x32_3).f1).length c110_1) ∧ w'.cell? (ad114.add (((rd_T35 l0_3 x32_3).f0)).toNat) = some (.int .u64 (rd x3_3 ((rd_T35 l0_3 x32_3).f0))) ∧ w'.cell? (ad114.add (t112).toNat) = some (.int .u64 (rd x3_3 t112))) (ds := []) #[false, false, false, false, false, false, false, false, false, false, false, false, false, false] (by kernel_rfl) rfl rfl ⟨(blk_cell BK111.out 0).trans rfl, (blk_cell BK111.out 1).trans rfl, hx114_0, hx115_0⟩ (fun hHeld => ?_); refine with_tabW gram_Above.tab16 gram_Above.bits16 (fun HT_ HW_ => ?_)
                                          generalize w40.drew = w41 at HO_3 BK103 BK111 HB hx114_0 hx115_0 hHeld ⊢
                                          refine pure_ (i := 0) (N := some 41) (v := ?_) (a' := ?_) #[true, false, false, false, false, false, false, false, false, false, false, false, false, false] rfl rfl (any_of HT_.out (by kernel_rfl)) (fun _ _ _ h => h) (Or.inl ⟨by rfl, ?_⟩) ?_ ?_
                                          rotate_left
                                          · intro w'
                                            go_simp
                                            with_reducible rfl
                                          rotate_left
                                          · simp only [Act.put, List.setIfInBounds_toArray, List.set_cons_zero, List.set_cons_succ, i64_w, i32_w]
                                            rfl
                                          refine pure_ (i := 1) (N := some 42) (v := ?_) (a' := ?_) #[true, true, false, false, false, false, false, false, false, false, false, false, false, false] rfl rfl (any_of HT_.out (by kernel_rfl)) (fun _ _ _ h => h) (Or.inl ⟨by rfl, ?_⟩) ?_ ?_
                                          rotate_left
                                          · intro w'
                                            go_simp
                                            with_reducible rfl
                                          rotate_left
                                          · simp only [Act.put, List.setIfInBounds_toArray, List.set_cons_zero, List.set_cons_succ, i64_w, i32_w]
                                            rfl
                                          refine pure_ (i := 2) (N := some 43) (v := ?_) (a' := ?_) #[true, true, true, false, false, false, false, false, false, false, false, false, false, false] rfl rfl (any_of HT_.out (by kernel_rfl)) (fun _ _ _ h => h) (Or.inl ⟨by rfl, ?_⟩) ?_ ?_
                                          rotate_left
                                          · intro w'
                                            go_simp
                                            with_reducible rfl
                                          rotate_left
                                          · simp only [Act.put, List.setIfInBounds_toArray, List.set_cons_zero, List.set_cons_succ, i64_w, i32_w]
                                            rfl
                                          refine pure_ (i := 3) (N := some 44) (v := ?_) (a' := ?_) #[true, true, true, true, false, false, false, false, false, false, false, false, false, false] rfl rfl (any_of HT_.out (by kernel_rfl)) (fun _ _ _ h => h) (Or.inl ⟨by rfl, ?_⟩) ?_ ?_
                                          rotate_left
                                          · intro w'
                                            go_simp
                                            with_reducible rfl
                                          rotate_left
                                          · simp only [Act.put, List.setIfInBounds_toArray, List.set_cons_zero, List.set_cons_succ, i64_w, i32_w]
                                            rfl
                                          refine pure_ (i := 7) (N := some 48) (v := ?_) (a' := ?_) #[true, true, true, true, false, false, false, true, false, false, false, false, false, false] rfl rfl (any_of HT_.out (by kernel_rfl)) (fun _ _ _ h => h) (Or.inl ⟨by rfl, ?_⟩) ?_ ?_
                                          rotate_left
                                          · intro w'
                                            go_simp
                                            with_reducible rfl
                                          rotate_left
                                          · simp only [Act.put, List.setIfInBounds_toArray, List.set_cons_zero, List.set_cons_succ, i64_w, i32_w]
                                            rfl
                                          refine pure_ (i := 8) (N := some 49) (v := ?_) (a' := ?_) #[true, true, true, true, false, false, false, true, true, false, false, false, false, false] rfl rfl (any_of HT_.out (by kernel_rfl)) (fun _ _ _ h => h) (Or.inl ⟨by rfl, ?_⟩) ?_ ?_
                                          rotate_left
                                          · intro w'
                                            go_simp
                                            with_reducible rfl
                                          rotate_left
                                          · simp only [Act.put, List.setIfInBounds_toArray, List.set_cons_zero, List.set_cons_succ, i64_w, i32_w]
                                            rfl
                                          refine pure_ (i := 9) (N := some 50) (v := ?_) (a' := ?_) #[true, true, true, true, false, false, false, true, true, true, false, false, false, false] rfl rfl (any_of HT_.out (by kernel_rfl)) (fun _ _ _ h => h) (Or.inl ⟨by rfl, ?_⟩) ?_ ?_
                                          rotate_left
                                          · intro w'
                                            go_simp
                                            with_reducible rfl
                                          rotate_left
                                          · simp only [Act.put, List.setIfInBounds_toArray, List.set_cons_zero, List.set_cons_succ, i64_w, i32_w]
                                            rfl
                                          refine take_ (i := 4) (N := some 45) (v := ?_) (a' := ?_) #[true, true, true, true, true, false, false, true, true, true, false, false, false, false] rfl rfl (take_ofW HT_.out HW_.out (by kernel_rfl)) (fun _ _ _ h => h) (Or.inl ⟨by rfl, ?_⟩) hHeld ?_ ?_
                                          rotate_left
                                          · rintro w' ⟨s0, s1, s2, s3⟩
                                            go_simp
                                            with_reducible rfl
                                          rotate_left
                                          · simp only [Act.put, List.setIfInBounds_toArray, List.set_cons_zero, List.set_cons_succ, i64_w, i32_w]
                                            rfl
                                          refine pure_ (i := 5) (N := some 46) (v := ?_) (a' := ?_) #[true, true, true, true, true, true, false, true, true, true, false, false, false, false] rfl rfl (any_of HT_.out (by kernel_rfl)) (fun _ _ _ h => h) (Or.inl ⟨by rfl, ?_⟩) ?_ ?_
                                          rotate_left
                                          · intro w'
                                            go_simp
                                            with_reducible rfl
                                          rotate_left
                                          · simp only [Act.put, List.setIfInBounds_toArray, List.set_cons_zero, List.set_cons_succ, i64_w, i32_w]
                                            rfl
                                          refine take_ (i := 6) (N := some 47) (v := ?_) (a' := ?_) #[true, true, true, true, true, true, true, true, true, true, false, false, false, false] rfl rfl (take_ofW HT_.out HW_.out (by kernel_rfl)) (fun _ _ _ h => h) (Or.inl ⟨by rfl, ?_⟩) hHeld ?_ ?_
                                          rotate_left
                                          · rintro w' ⟨s0, s1, s2, s3⟩
                                            go_simp
                                            with_reducible rfl
                                          rotate_left
                                          · simp only [Act.put, List.setIfInBounds_toArray, List.set_cons_zero, List.set_cons_succ, i64_w, i32_w]
                                            rfl
                                          refine take_ (i := 10) (N := some 51) (v := ?_) (a' := ?_) #[true, true, true, true, true, true, true, true, true, true, true, false, false, false] rfl rfl (take_ofW HT_.out HW_.out (by kernel_rfl)) (fun _ _ _ h => h) (Or.inl ⟨by rfl, ?_⟩) hHeld ?_ ?_
                                          rotate_left
                                          · rintro w' ⟨s0, s1, s2, s3⟩
                                            go_simp
                                            with_reducible rfl
                                          rotate_left
                                          · simp only [Act.put, List.setIfInBounds_toArray, List.set_cons_zero, List.set_cons_succ, i64_w, i32_w]
                                            rfl
                                          refine pure_ (i := 11) (N := some 52) (v := ?_) (a' := ?_) #[true, true, true, true, true, true, true, true, true, true, true, true, false, false] rfl rfl (any_of HT_.out (by kernel_rfl)) (fun _ _ _ h => h) (Or.inl ⟨by rfl, ?_⟩) ?_ ?_
                                          rotate_left
                                          · intro w'
                                            go_simp
                                            with_reducible rfl
                                          rotate_left
                                          · simp only [Act.put, List.setIfInBounds_toArray, List.set_cons_zero, List.set_cons_succ, i64_w, i32_w]
                                            rfl
                                          refine pure_ (i := 12) (N := some 53) (v := ?_) (a' := ?_) #[true, true, true, true, true, true, true, true, true, true, true, true, true, false] rfl rfl (any_of HT_.out (by kernel_rfl)) (fun _ _ _ h => h) (Or.inl ⟨by rfl, ?_⟩) ?_ ?_
                                          rotate_left
                                          · intro w'
                                            go_simp
                                            with_reducible rfl
                                          rotate_left
                                          · simp only [Act.put, List.setIfInBounds_toArray, List.set_cons_zero, List.set_cons_succ, i64_w, i32_w]
                                            rfl
                                          refine pure_ (i := 13) (N := some 54) (v := ?_) (a' := ?_) #[true, true, true, true, true, true, true, true, true, true, true, true, true, true] rfl rfl (any_of HT_.out (by kernel_rfl)) (fun _ _ _ h => h) (Or.inl ⟨by rfl, ?_⟩) ?_ ?_
                                          rotate_left
                                          · intro w'
                                            go_simp
                                            with_reducible rfl
                                          rotate_left
                                          · simp only [Act.put, List.setIfInBounds_toArray, List.set_cons_zero, List.set_cons_succ, i64_w, i32_w]
                                            rfl
                                          refine done_ (done_of HT_.out (by kernel_rfl)) ?_
                                          try go_wp2
                                          have n0_ := Aside0.mk (Kd.R_drew HO_3.out)
                                          have n1_ := Aside0.mk (blk_drew BK103.out)
                                          have n2_ := Aside0.mk (blk_drew BK111.out)
                                          have n3_ := Aside0.mk (below_drew1 HB.out)
                                          clear HO_3
                                          clear BK103
                                          clear BK111
                                          clear HB
                                          have HO_3 := n0_
                                          have BK103 := n1_
                                          have BK111 := n2_
                                          have HB := n3_
                                          clear n0_ n1_ n2_ n3_
                                          have p116 : 0 ≤ (t112 : Int) := of_decide_eq_true (by first | (with_reducible assumption) | assumption)
                                          have q116 : t112 < (x3_3.length : Int) := of_decide_eq_true (by first | (with_reducible assumption) | assumption)
                                          obtain ⟨ad116, e116, hx116_0⟩ := Kd.at_int (Kd.R_reads' HO_3.out).2.2 t112 p116 q116
                                          obtain rfl : ad114 = ad116 := (by injection e116)
                                          replace p116 := eq_true p116
                                          replace q116 := eq_true q116
                                          have p117 : 0 ≤ (((rd_T35 l0_3 x32_3).f0) : Int) := of_decide_eq_true (by first | (with_reducible assumption) | assumption)
                                          have q117 : ((rd_T35 l0_3 x32_3).f0) < (x3_3.length : Int) := of_decide_eq_true (by first | (with_reducible assumption) | assumption)
                                          obtain ⟨ad117, e117, hx117_0⟩ := Kd.at_int (Kd.R_reads' HO_3.out).2.2 ((rd_T35 l0_3 x32_3).f0) p117 q117
                                          obtain rfl : ad114 = ad117 := (by injection e117)
                                          replace p117 := eq_true p117
                                          replace q117 := eq_true q117
                                          have p36 : 0 ≤ (t112 : Int) := of_decide_eq_true (by first | (with_reducible assumption) | assumption)
                                          have q36 : (t112 : Int) < ((x3_3.length : Int) : Int) := of_decide_eq_true (by first | (with_reducible assumption) | assumption)
                                          obtain ⟨go36, co36, eo36, gb36, gl36, cl36, HG36⟩ := Kd.R_form HO_3.out (by omega)
                                          (first | cases eo36 | (injection eo36 with ea_ en_ ec_; (first | subst ea_ | (injection ea_ with ea_; subst ea_)); subst ec_; clear en_))
                                          have GB36 := Aside0.mk gb36
                                          have GG36 := Aside0.mk HG36
                                          clear gb36 gl36 HG36
                                          (first | simp only [add_plain] at hx114_0 | skip)
                                          (first | simp only [add_plain] at hx115_0 | skip)
                                          (first | simp only [add_plain] at hx116_0 | skip)
                                          (first | simp only [add_plain] at hx117_0 | skip)
                                          obtain ⟨hx36_0, hf36_0⟩ := Kd.R_celln 0 HO_3.out (t112 : Int) p36 q36
                                          replace p36 := eq_true p36
                                          replace q36 := eq_true q36
                                          have HP43 := Kd.R_putn HO_3.out (t112 : Int) (Go.bits .or .u64 (rd x3_3 t112) (rd x3_3 ((rd_T35 l0_3 x32_3).f0)))
                                          rw [← Ny118.out] at HP43
                                          have HQ43 := Aside0.mk HP43
                                          clear HP43
                                          refine start_ (n := 12) (S := fun w' => w'.cell? ⟨gb111, 0, none⟩ = some (.int .i64 ((rd_T35 l0_3 x32_3).f0)) ∧ w'.cell? ⟨gb111, 1, none⟩ = some (.slice A110_1 ((rd_T35 l0_3 x32_3).f1).length c110_1) ∧ w'.cell? ⟨go36, (t112).toNat, none⟩ = some (.int .u64 (rd x3_3 t112)) ∧ w'.cell? ⟨go36, (((rd_T35 l0_3 x32_3).f0)).toNat, none⟩ = some (.int .u64 (rd x3_3 ((rd_T35 l0_3 x32_3).f0)))) (ds := [11]) #[false, false, false, false, false, false, false, false, false, false, false, false] (by kernel_rfl) rfl rfl ⟨(blk_cell BK111.out 0).trans rfl, (blk_cell BK111.out 1).trans rfl, hx116_0, hx117_0⟩ (fun hHeld => ?_); refine with_tabW gram_Above.tab17 gram_Above.bits17 (fun HT_ HW_ => ?_)
                                          generalize w41.drew = w42 at HO_3 BK103 BK111 HB GG36 HQ43 hf36_0 hx114_0 hx115_0 hx116_0 hx117_0 hx36_0 hHeld ⊢
                                          refine pure_ (i := 0) (N := some 55) (v := ?_) (a' := ?_) #[true, false, false, false, false, false, false, false, false, false, false, false] rfl rfl (any_of HT_.out (by kernel_rfl)) (fun _ _ _ h => h) (Or.inl ⟨by rfl, ?_⟩) ?_ ?_
                                          rotate_left
                                          · intro w'
                                            go_simp
                                            with_reducible rfl
                                          rotate_left
                                          · simp only [Act.put, List.setIfInBounds_toArray, List.set_cons_zero, List.set_cons_succ, i64_w, i32_w]
                                            rfl
                                          refine pure_ (i := 1) (N := some 56) (v := ?_) (a' := ?_) #[true, true, false, false, false, false, false, false, false, false, false, false] rfl rfl (any_of HT_.out (by kernel_rfl)) (fun _ _ _ h => h) (Or.inl ⟨by rfl, ?_⟩) ?_ ?_
                                          rotate_left
                                          · intro w'
                                            go_simp
                                            with_reducible rfl
                                          rotate_left
                                          · simp only [Act.put, List.setIfInBounds_toArray, List.set_cons_zero, List.set_cons_succ, i64_w, i32_w]
                                            rfl
                                          refine pure_ (i := 2) (N := some 57) (v := ?_) (a' := ?_) #[true, true, true, false, false, false, false, false, false, false, false, false] rfl rfl (any_of HT_.out (by kernel_rfl)) (fun _ _ _ h => h) (Or.inl ⟨by rfl, ?_⟩) ?_ ?_
                                          rotate_left
                                          · intro w'
                                            go_simp
                                            with_reducible rfl
                                          rotate_left
                                          · simp only [Act.put, List.setIfInBounds_toArray, List.set_cons_zero, List.set_cons_succ, i64_w, i32_w]
                                            rfl
                                          refine pure_ (i := 4) (N := some 59) (v := ?_) (a' := ?_) #[true, true, true, false, true, false, false, false, false, false, false, false] rfl rfl (any_of HT_.out (by kernel_rfl)) (fun _ _ _ h => h) (Or.inl ⟨by rfl, ?_⟩) ?_ ?_
                                          rotate_left
                                          · intro w'
                                            go_simp
                                            with_reducible rfl
                                          rotate_left
                                          · simp only [Act.put, List.setIfInBounds_toArray, List.set_cons_zero, List.set_cons_succ, i64_w, i32_w]
                                            rfl
                                          refine pure_ (i := 5) (N := some 60) (v := ?_) (a' := ?_) #[true, true, true, false, true, true, false, false, false, false, false, false] rfl rfl (any_of HT_.out (by kernel_rfl)) (fun _ _ _ h => h) (Or.inl ⟨by rfl, ?_⟩) ?_ ?_
                                          rotate_left
                                          · intro w'
                                            go_simp
                                            with_reducible rfl
                                          rotate_left
                                          · simp only [Act.put, List.setIfInBounds_toArray, List.set_cons_zero, List.set_cons_succ, i64_w, i32_w]
                                            rfl
                                          refine take_ (i := 3) (N := some 58) (v := ?_) (a' := ?_) #[true, true, true, true, true, true, false, false, false, false, false, false] rfl rfl (take_ofW HT_.out HW_.out (by kernel_rfl)) (fun _ _ _ h => h) (Or.inl ⟨by rfl, ?_⟩) hHeld ?_ ?_
                                          rotate_left
                                          · rintro w' ⟨s0, s1, s2, s3⟩
                                            go_simp
                                            with_reducible rfl
                                          rotate_left
                                          · simp only [Act.put, List.setIfInBounds_toArray, List.set_cons_zero, List.set_cons_succ, i64_w, i32_w]
                                            rfl
                                          refine take_ (i := 6) (N := some 61) (v := ?_) (a' := ?_) #[true, true, true, true, true, true, true, false, false, false, false, false] rfl rfl (take_ofW HT_.out HW_.out (by kernel_rfl)) (fun _ _ _ h => h) (Or.inl ⟨by rfl, ?_⟩) hHeld ?_ ?_
                                          rotate_left
                                          · rintro w' ⟨s0, s1, s2, s3⟩
                                            go_simp
                                            with_reducible rfl
                                          rotate_left
                                          · simp only [Act.put, List.setIfInBounds_toArray, List.set_cons_zero, List.set_cons_succ, i64_w, i32_w]
                                            rfl
                                          refine pure_ (i := 7) (N := some 62) (v := ?_) (a' := ?_) #[true, true, true, true, true, true, true, true, false, false, false, false] rfl rfl (any_of HT_.out (by kernel_rfl)) (fun _ _ _ h => h) (Or.inl ⟨by rfl, ?_⟩) ?_ ?_
                                          rotate_left
                                          · intro w'
                                            go_simp
                                            with_reducible rfl
                                          rotate_left
                                          · simp only [Act.put, List.setIfInBounds_toArray, List.set_cons_zero, List.set_cons_succ, i64_w, i32_w]
                                            rfl
                                          refine take_ (i := 8) (N := some 63) (v := ?_) (a' := ?_) #[true, true, true, true, true, true, true, true, true, false, false, false] rfl rfl (take_ofW HT_.out HW_.out (by kernel_rfl)) (fun _ _ _ h => h) (Or.inl ⟨by rfl, ?_⟩) hHeld ?_ ?_
                                          rotate_left
                                          · rintro w' ⟨s0, s1, s2, s3⟩
                                            go_simp
                                            with_reducible rfl
                                          rotate_left
                                          · simp only [Act.put, List.setIfInBounds_toArray, List.set_cons_zero, List.set_cons_succ, i64_w, i32_w]
                                            rfl
                                          refine pure_ (i := 9) (N := some 64) (v := ?_) (a' := ?_) #[true, true, true, true, true, true, true, true, true, true, false, false] rfl rfl (any_of HT_.out (by kernel_rfl)) (fun _ _ _ h => h) (Or.inl ⟨by rfl, ?_⟩) ?_ ?_
                                          rotate_left
                                          · intro w'
                                            go_simp
                                            with_reducible rfl
                                          rotate_left
                                          · simp only [Act.put, List.setIfInBounds_toArray, List.set_cons_zero, List.set_cons_succ, i64_w, i32_w]
                                            rfl
                                          refine pure_ (i := 10) (N := some 65) (v := ?_) (a' := ?_) #[true, true, true, true, true, true, true, true, true, true, true, false] rfl rfl (any_of HT_.out (by kernel_rfl)) (fun _ _ _ h => h) (Or.inl ⟨by rfl, ?_⟩) ?_ ?_
                                          rotate_left
                                          · intro w'
                                            go_simp
                                            with_reducible rfl
                                          rotate_left
                                          · simp only [Act.put, List.setIfInBounds_toArray, List.set_cons_zero, List.set_cons_succ, i64_w, i32_w]
                                            rfl
                                          refine last_ (i := 11) (N := none) #[true, true, true, true, true, true, true, true, true, true, true, true] rfl rfl (one_of HT_.out (by kernel_rfl)) (by decide) (fun K hK => ?_)
                                          refine skip_ (w1 := ?_) (by rfl) rfl ?_ ?_
                                          rotate_left
                                          · go_simp
                                            rfl
                                          refine hK.out _ _ ?_
                                          clear hK K
                                          refine done_ (done_of HT_.out (by kernel_rfl)) ?_
                                          try go_wp2
                                          (try simp only [← hl3_3])
                                          go_roundg k3
                                          case measure => have := HK1.out; have := HK2.out; have := HK3.out; omega
                                          case rel => exact ⟨(y118), (true), (wrap64 (x32_3 + 1)), (by first | rfl | (simp; done) | (simp [*]; done)), (by first | rfl | (simp; done) | (simp [*]; done)), H', ⟨by have := HK1.out; have := HK2.out; have := HK3.out; omega⟩, ⟨by (try simp only [hl3_1]); (try simp only [hl3_2]); (try simp only [hl3_3]); (with_reducible repeat (first | apply Kd.R_alloc | apply Kd.R_drewN | apply Kd.R_drew)); exact HQ43.out⟩, ⟨by (try simp only [hl3_1]); (try simp only [hl3_2]); (try simp only [hl3_3]); (with_reducible repeat (first | refine blk_drewN ?_ _ | refine blk_drew ?_ | refine blk_alloc ?_ _)); refine blk_far ?_ (by have h_ := Kd.R_ne HO_3.out BK103.out (by decide); intro e_; exact h_ (by rw [e_]; rfl)) _; (with_reducible repeat (first | refine blk_drewN ?_ _ | refine blk_drew ?_ | refine blk_alloc ?_ _)); exact BK103.out⟩, ⟨by repeat (first | (with_reducible first | exact HB.out | apply below_alloc | apply pw_below_drewN | apply below_drew1 | refine below_set ?_ GB36.out | refine below_set ?_ GE103.out | refine below_set ?_ GE111.out) | exact HB.out)⟩⟩
                                      · rw [if_neg c29] at H
                                        exact absurd H (by simp)
                                    · rw [if_neg c28] at H
                                      exact absurd H (by simp)
                                  · rw [if_neg c27] at H
                                    exact absurd H (by simp)
                                · rw [if_neg c26] at H
                                  exact absurd H (by simp)
                              · replace c25 := Bool.eq_false_iff.mpr c25
                                subst c25
                                have H1 : (gram_Above.l2 k3 x3_3 x5_3 l0_3 (l0_3.length : Int) (wrap64 (x32_3 + 1)) l0_0 l0_1 a0_2 l0_3) = some r := by rw [if_neg (show ¬ (false = true) by decide)] at H; exact H
                                clear H
                                have H := H1
                                clear H1
                                have H' := Aside0.mk H
                                clear H
                                have p110 : 0 ≤ (x32_3 : Int) := of_decide_eq_true (by first | (with_reducible assumption) | assumption)
                                have q110 : x32_3 < (l0_3.length : Int) := of_decide_eq_true (by first | (with_reducible assumption) | assumption)
                                obtain ⟨ad110, A110_1, c110_1, e110, hx110_0, hx110_1, hl110_1, hi110_1⟩ := at_T35 HR0_3.out x32_3 p110 q110
                                cases e110
                                replace hx110_0 := (HB.out.cell (World.block_lt_of_cell? w _ hx110_0)).trans hx110_0
                                replace hx110_1 := (HB.out.cell (World.block_lt_of_cell? w _ hx110_1)).trans hx110_1
                                have HR110_1 := Aside0.mk hi110_1
                                have HC110_1 := Aside0.mk hl110_1
                                clear hi110_1 hl110_1
                                replace p110 := eq_true p110
                                replace q110 := eq_true q110
                                try go_wp2_with (first | ((with_reducible refine gate_dst (N := 7) rfl ?_); refine box_event ?hg (N := 7) ?hd (cs := #[.int .i64 0, .slice none 0 0]) (t := 35) ?hr ?_; (case hd => rfl); (case hg => rfl); (case hr => first | (go_simp; done) | (go_simp; rfl)); intro gb111 hg w44 hbox hb; have n0_ := Aside0.mk (Kd.R_below (by (with_reducible repeat (first | apply Kd.R_alloc | apply Kd.R_drewN | apply Kd.R_drew)); exact HO_3.out) hb); have n1_ := Aside0.mk (blk_below (g := gb103) (o := .cells #[.slice A0_0 l0_0.length c0_0, .slice A0_1 l0_1.length c0_1, .int .i64 a0_2, .slice (some ad110) l0_3.length c0_3] 25 (0, 0)) (by (with_reducible repeat (first | refine blk_drewN ?_ _ | refine blk_drew ?_ | refine blk_alloc ?_ _)); exact BK103.out) hb); have n2_ := Aside0.mk (below_step (by repeat (first | (with_reducible first | exact HB.out | apply below_alloc | apply pw_below_drewN | apply below_drew1 | refine below_set ?_ GE103.out) | exact HB.out)) hb); have n3_ := Aside0.mk (hbox); have n4_ := Aside0.mk ((by rw [hg]; exact (below_size (by repeat (first | (with_reducible first | exact HB.out | apply below_alloc | apply pw_below_drewN | apply below_drew1 | refine below_set ?_ GE103.out) | exact HB.out))) : w.heap.size ≤ gb111)); have n5_ := Aside0.mk ((by rw [hg]; exact (below_size (by repeat (first | (with_reducible first | exact HB.out | apply below_alloc | apply pw_below_drewN | apply below_drew1 | refine below_set ?_ GE103.out) | exact HB.out))) : w.heap.size ≤ gb111)); have n6_ := Aside0.mk ((by rw [hg]; exact Nat.ne_of_lt (blk_lt (g := gb103) (o := .cells #[.slice A0_0 l0_0.length c0_0, .slice A0_1 l0_1.length c0_1, .int .i64 a0_2, .slice (some ad110) l0_3.length c0_3] 25 (0, 0)) (by (with_reducible repeat (first | refine blk_drewN ?_ _ | refine blk_drew ?_ | refine blk_alloc ?_ _)); exact BK103.out)) : gb103 ≠ gb111)); have n7_ := Aside0.mk ((by rw [hg]; exact Nat.ne_of_gt (blk_lt (g := gb103) (o := .cells #[.slice A0_0 l0_0.length c0_0, .slice A0_1 l0_1.length c0_1, .int .i64 a0_2, .slice (some ad110) l0_3.length c0_3] 25 (0, 0)) (by (with_reducible repeat (first | refine blk_drewN ?_ _ | refine blk_drew ?_ | refine blk_alloc ?_ _)); exact BK103.out)) : gb111 ≠ gb103)); clear HO_3; clear BK103; clear HB; have HO_3 := n0_; have BK103 := n1_; have HB := n2_; have BK111 := n3_; have GW111 := n4_; have GE111 := n5_; have NB103_111 := n6_; have NB111_103 := n7_; clear n0_ n1_ n2_ n3_ n4_ n5_ n6_ n7_; clear hb hbox hg; have hnb45 := NB111_103.out; have hnc45 := NB103_111.out; have hcz46_0 : w44.cell? ⟨gb111, 0, none⟩ = some (.int .i64 0) := (blk_cell BK111.out 0).trans rfl; have hcz46_1 : w44.cell? ⟨gb111, 1, none⟩ = some (.slice none 0 0) := (blk_cell BK111.out 1).trans rfl; have hfz46_0 := blk_frozen BK111.out 0; have hfz46_1 := blk_frozen BK111.out 1) | ((with_reducible refine gate_callee (f := 21) rfl ?_); refine goesL_ (some 38) rfl rfl Tryd.func21 (by kernel_rfl) rfl #[.agg #[.int .i64 ((rd_T35 l0_3 x32_3).f0), .slice A110_1 ((rd_T35 l0_3 x32_3).f1).length c110_1]] rfl (by (try simp only [List.map_toArray, List.map_cons, List.map_nil]); first | done | rfl | (simp only [List.length_drop, List.length_take]; rfl)) ?_; (with_reducible refine (gram_Renaming.calls ((rd_T35 l0_3 x32_3).f0) _ _ ((rd_T35 l0_3 x32_3).f1) t112 false _ ?side1 ?side2 A24.out).mono ?_); (case side1 => exact Kd.C_below HR110_1.out (by repeat (first | (with_reducible first | exact HB.out | apply below_alloc | apply pw_below_drewN | apply below_drew1 | refine below_set ?_ GE103.out | refine below_set ?_ GE111.out) | exact HB.out))); (case side2 => exact HC110_1.out); rintro e w47 ⟨rfl, hb⟩; refine ⟨_, rfl, ?_⟩; have n0_ := Aside0.mk (Kd.R_below (by (with_reducible repeat (first | apply Kd.R_alloc | apply Kd.R_drewN | apply Kd.R_drew)); exact (Kd.R_mono (Kd.R_far (p := ⟨gb111, 1, none⟩) (Kd.R_far (p := ⟨gb111, 0, none⟩) (Kd.R_types HO_3.out BK111.out (by decide)) (fun _ hk => hk.2) (.int .i64 ((rd_T35 l0_3 x32_3).f0))) (fun _ hk => hk.2) (.slice A110_1 ((rd_T35 l0_3 x32_3).f1).length c110_1)) (fun _ h_ => h_.1))) hb); have n1_ := Aside0.mk (blk_below (g := gb103) (o := .cells #[.slice A0_0 l0_0.length c0_0, .slice A0_1 l0_1.length c0_1, .int .i64 a0_2, .slice (some ad110) l0_3.length c0_3] 25 (0, 0)) (by (with_reducible repeat (first | refine blk_drewN ?_ _ | refine blk_drew ?_ | refine blk_alloc ?_ _)); refine blk_far ?_ NB103_111.out _; (with_reducible repeat (first | refine blk_drewN ?_ _ | refine blk_drew ?_ | refine blk_alloc ?_ _)); refine blk_far ?_ NB103_111.out _; (with_reducible repeat (first | refine blk_drewN ?_ _ | refine blk_drew ?_ | refine blk_alloc ?_ _)); exact BK103.out) hb); have n2_ := Aside0.mk (blk_below (g := gb111) (o := .cells #[.int .i64 ((rd_T35 l0_3 x32_3).f0), .slice A110_1 ((rd_T35 l0_3 x32_3).f1).length c110_1] 35 (0, 0)) (by (with_reducible repeat (first | refine blk_drewN ?_ _ | refine blk_drew ?_ | refine blk_alloc ?_ _)); refine blk_put (cs := #[.int .i64 ((rd_T35 l0_3 x32_3).f0), .slice none 0 0]) ?_ 1 _ rfl; (with_reducible repeat (first | refine blk_drewN ?_ _ | refine blk_drew ?_ | refine blk_alloc ?_ _)); refine blk_put (cs := #[.int .i64 0, .slice none 0 0]) ?_ 0 _ rfl; (with_reducible repeat (first | refine blk_drewN ?_ _ | refine blk_drew ?_ | refine blk_alloc ?_ _)); exact BK111.out) hb); have n3_ := Aside0.mk (below_step (by repeat (first | (with_reducible first | exact HB.out | apply below_alloc | apply pw_below_drewN | apply below_drew1 | refine below_set ?_ GE103.out | refine below_set ?_ GE111.out) | exact HB.out)) hb); clear HO_3; clear BK103; clear BK111; clear HB; have HO_3 := n0_; have BK103 := n1_; have BK111 := n2_; have HB := n3_; clear n0_ n1_ n2_ n3_; (try clear hb); (try clear hb2); (try clear hk); (try clear hi)))
                                have n0_ := Aside0.mk (Kd.R_drew HO_3.out)
                                have n1_ := Aside0.mk (blk_drew BK103.out)
                                have n2_ := Aside0.mk (blk_drew BK111.out)
                                have n3_ := Aside0.mk (below_drew1 HB.out)
                                clear HO_3
                                clear BK103
                                clear BK111
                                clear HB
                                have HO_3 := n0_
                                have BK103 := n1_
                                have BK111 := n2_
                                have HB := n3_
                                clear n0_ n1_ n2_ n3_
                                refine start_ (n := 14) (S := fun w' => True) (ds := []) #[false, false, false, false, false, false, false, false, false, false, false, false, false, false] (by kernel_rfl) rfl rfl trivial (fun hHeld => ?_); refine with_tabW gram_Above.tab16 gram_Above.bits16 (fun HT_ HW_ => ?_)
                                generalize w47.drew = w48 at HO_3 BK103 BK111 HB hHeld ⊢
                                refine pure_ (i := 0) (N := some 41) (v := ?_) (a' := ?_) #[true, false, false, false, false, false, false, false, false, false, false, false, false, false] rfl rfl (any_of HT_.out (by kernel_rfl)) (fun _ _ _ h => h) (Or.inl ⟨by rfl, ?_⟩) ?_ ?_
                                rotate_left
                                · intro w'
                                  go_simp
                                  with_reducible rfl
                                rotate_left
                                · simp only [Act.put, List.setIfInBounds_toArray, List.set_cons_zero, List.set_cons_succ, i64_w, i32_w]
                                  rfl
                                refine pure_ (i := 1) (N := some 42) (v := ?_) (a' := ?_) #[true, true, false, false, false, false, false, false, false, false, false, false, false, false] rfl rfl (any_of HT_.out (by kernel_rfl)) (fun _ _ _ h => h) (Or.inl ⟨by rfl, ?_⟩) ?_ ?_
                                rotate_left
                                · intro w'
                                  go_simp
                                  with_reducible rfl
                                rotate_left
                                · simp only [Act.put, List.setIfInBounds_toArray, List.set_cons_zero, List.set_cons_succ, i64_w, i32_w]
                                  rfl
                                refine pure_ (i := 2) (N := some 43) (v := undef) (a' := ?_) #[true, true, true, false, false, false, false, false, false, false, false, false, false, false] rfl rfl (any_of HT_.out (by kernel_rfl)) (fun _ _ _ h => h) (Or.inr ⟨by rfl, rfl⟩) ?_ ?_
                                rotate_left
                                · simp only [Act.put, List.setIfInBounds_toArray, List.set_cons_zero, List.set_cons_succ, i64_w, i32_w]
                                  rfl
                                refine pure_ (i := 3) (N := some 44) (v := undef) (a' := ?_) #[true, true, true, true, false, false, false, false, false, false, false, false, false, false] rfl rfl (any_of HT_.out (by kernel_rfl)) (fun _ _ _ h => h) (Or.inr ⟨by rfl, rfl⟩) ?_ ?_
                                rotate_left
                                · simp only [Act.put, List.setIfInBounds_toArray, List.set_cons_zero, List.set_cons_succ, i64_w, i32_w]
                                  rfl
                                refine pure_ (i := 4) (N := some 45) (v := undef) (a' := ?_) #[true, true, true, true, true, false, false, false, false, false, false, false, false, false] rfl rfl (any_of HT_.out (by kernel_rfl)) (fun _ _ _ h => h) (Or.inr ⟨by rfl, rfl⟩) ?_ ?_
                                rotate_left
                                · simp only [Act.put, List.setIfInBounds_toArray, List.set_cons_zero, List.set_cons_succ, i64_w, i32_w]
                                  rfl
                                refine pure_ (i := 5) (N := some 46) (v := undef) (a' := ?_) #[true, true, true, true, true, true, false, false, false, false, false, false, false, false] rfl rfl (any_of HT_.out (by kernel_rfl)) (fun _ _ _ h => h) (Or.inr ⟨by rfl, rfl⟩) ?_ ?_
                                rotate_left
                                · simp only [Act.put, List.setIfInBounds_toArray, List.set_cons_zero, List.set_cons_succ, i64_w, i32_w]
                                  rfl
                                refine pure_ (i := 6) (N := some 47) (v := undef) (a' := ?_) #[true, true, true, true, true, true, true, false, false, false, false, false, false, false] rfl rfl (any_of HT_.out (by kernel_rfl)) (fun _ _ _ h => h) (Or.inr ⟨by rfl, rfl⟩) ?_ ?_
                                rotate_left
                                · simp only [Act.put, List.setIfInBounds_toArray, List.set_cons_zero, List.set_cons_succ, i64_w, i32_w]
                                  rfl
                                refine pure_ (i := 7) (N := some 48) (v := undef) (a' := ?_) #[true, true, true, true, true, true, true, true, false, false, false, false, false, false] rfl rfl (any_of HT_.out (by kernel_rfl)) (fun _ _ _ h => h) (Or.inr ⟨by rfl, rfl⟩) ?_ ?_
                                rotate_left
                                · simp only [Act.put, List.setIfInBounds_toArray, List.set_cons_zero, List.set_cons_succ, i64_w, i32_w]
                                  rfl
                                refine pure_ (i := 8) (N := some 49) (v := undef) (a' := ?_) #[true, true, true, true, true, true, true, true, true, false, false, false, false, false] rfl rfl (any_of HT_.out (by kernel_rfl)) (fun _ _ _ h => h) (Or.inr ⟨by rfl, rfl⟩) ?_ ?_
                                rotate_left
                                · simp only [Act.put, List.setIfInBounds_toArray, List.set_cons_zero, List.set_cons_succ, i64_w, i32_w]
                                  rfl
                                refine pure_ (i := 9) (N := some 50) (v := undef) (a' := ?_) #[true, true, true, true, true, true, true, true, true, true, false, false, false, false] rfl rfl (any_of HT_.out (by kernel_rfl)) (fun _ _ _ h => h) (Or.inr ⟨by rfl, rfl⟩) ?_ ?_
                                rotate_left
                                · simp only [Act.put, List.setIfInBounds_toArray, List.set_cons_zero, List.set_cons_succ, i64_w, i32_w]
                                  rfl
                                refine pure_ (i := 10) (N := some 51) (v := undef) (a' := ?_) #[true, true, true, true, true, true, true, true, true, true, true, false, false, false] rfl rfl (any_of HT_.out (by kernel_rfl)) (fun _ _ _ h => h) (Or.inr ⟨by rfl, rfl⟩) ?_ ?_
                                rotate_left
                                · simp only [Act.put, List.setIfInBounds_toArray, List.set_cons_zero, List.set_cons_succ, i64_w, i32_w]
                                  rfl
                                refine pure_ (i := 11) (N := some 52) (v := undef) (a' := ?_) #[true, true, true, true, true, true, true, true, true, true, true, true, false, false] rfl rfl (any_of HT_.out (by kernel_rfl)) (fun _ _ _ h => h) (Or.inr ⟨by rfl, rfl⟩) ?_ ?_
                                rotate_left
                                · simp only [Act.put, List.setIfInBounds_toArray, List.set_cons_zero, List.set_cons_succ, i64_w, i32_w]
                                  rfl
                                refine pure_ (i := 12) (N := some 53) (v := undef) (a' := ?_) #[true, true, true, true, true, true, true, true, true, true, true, true, true, false] rfl rfl (any_of HT_.out (by kernel_rfl)) (fun _ _ _ h => h) (Or.inr ⟨by rfl, rfl⟩) ?_ ?_
                                rotate_left
                                · simp only [Act.put, List.setIfInBounds_toArray, List.set_cons_zero, List.set_cons_succ, i64_w, i32_w]
                                  rfl
                                refine pure_ (i := 13) (N := some 54) (v := ?_) (a' := ?_) #[true, true, true, true, true, true, true, true, true, true, true, true, true, true] rfl rfl (any_of HT_.out (by kernel_rfl)) (fun _ _ _ h => h) (Or.inl ⟨by rfl, ?_⟩) ?_ ?_
                                rotate_left
                                · intro w'
                                  go_simp
                                  with_reducible rfl
                                rotate_left
                                · simp only [Act.put, List.setIfInBounds_toArray, List.set_cons_zero, List.set_cons_succ, i64_w, i32_w]
                                  rfl
                                refine done_ (done_of HT_.out (by kernel_rfl)) ?_
                                try go_wp2
                                (try simp only [← hl3_3])
                                go_roundg k3
                                case measure => have := HK1.out; have := HK2.out; have := HK3.out; omega
                                case rel => exact ⟨(x3_3), (x5_3), (wrap64 (x32_3 + 1)), (by first | rfl | (simp; done) | (simp [*]; done)), (by first | rfl | (simp; done) | (simp [*]; done)), H', ⟨by have := HK1.out; have := HK2.out; have := HK3.out; omega⟩, ⟨by (try simp only [hl3_1]); (try simp only [hl3_2]); (try simp only [hl3_3]); (with_reducible repeat (first | apply Kd.R_alloc | apply Kd.R_drewN | apply Kd.R_drew)); exact HO_3.out⟩, ⟨by (try simp only [hl3_1]); (try simp only [hl3_2]); (try simp only [hl3_3]); (with_reducible repeat (first | refine blk_drewN ?_ _ | refine blk_drew ?_ | refine blk_alloc ?_ _)); exact BK103.out⟩, ⟨by repeat (first | (with_reducible first | exact HB.out | apply below_alloc | apply pw_below_drewN | apply below_drew1 | refine below_set ?_ GE103.out | refine below_set ?_ GE111.out) | exact HB.out)⟩⟩
                            · rw [if_neg c23] at H
                              exact absurd H (by simp)
                          · rw [if_neg c22] at H
                            exact absurd H (by simp)
                        · rw [if_neg c21] at H
                          have c21b0 : decide (x32_3 < (l0_3.length : Int)) = false := decide_eq_false c21
                          clear c21
                          have H' := Aside0.mk H
                          clear H
                          go_wp2
                          (try simp only [← hl3_2, ← hl3_3])
                          go_roundg k3
                          case measure => have := HK1.out; have := HK2.out; have := HK3.out; omega
                          case rel => exact ⟨(x3_3), (x5_3), (by first | rfl | (simp; done) | (simp [*]; done)), H', ⟨by have := HK1.out; have := HK2.out; have := HK3.out; omega⟩, ⟨by (try simp only [hl3_1]); (try simp only [hl3_2]); (try simp only [hl3_3]); (with_reducible repeat (first | apply Kd.R_alloc | apply Kd.R_drewN | apply Kd.R_drew)); exact HO_3.out⟩, ⟨by (try simp only [hl3_1]); (try simp only [hl3_2]); (try simp only [hl3_3]); (with_reducible repeat (first | refine blk_drewN ?_ _ | refine blk_drew ?_ | refine blk_alloc ?_ _)); exact BK103.out⟩, ⟨by repeat (first | (with_reducible first | exact HB.out | apply below_alloc | apply pw_below_drewN | apply below_drew1 | refine below_set ?_ GE103.out) | exact HB.out)⟩⟩
                  · replace c19 := Bool.eq_false_iff.mpr c19
                    subst c19
                    have H1 : (some x3_2) = some r := by rw [if_neg (show ¬ (false = true) by decide)] at H; exact H
                    clear H
                    have H := H1
                    clear H1
                    obtain rfl := Option.some.inj H
                    go_wp2
                    go_ret
                    exact ⟨_, by first | rfl | (simp [errW_none, errW_some] <;> rfl) | (simp [*, errW_none, errW_some] <;> rfl), by (with_reducible repeat (first | apply Kd.R_alloc | apply Kd.R_drewN | apply Kd.R_drew)); exact HO_3.out, by repeat (first | (with_reducible first | exact HB.out | apply below_alloc | apply pw_below_drewN | apply below_drew1 | refine below_set ?_ GE103.out) | exact HB.out)⟩
      · rw [if_neg c4] at H
        exact absurd H (by simp)
    · rw [if_neg c3] at H
      exact absurd H (by simp)
  · have H1 : (some ([] : List Int)) = some r := by rw [if_neg (show ¬ (some q105).isNone = true by simp)] at H; exact H
    clear H
    have H := H1
    clear H1
    try simp only [errW_none, errW_some]
    obtain rfl := Option.some.inj H
    go_enter Tryd.func23, Tryd.ntmps23
    go_wp2_with (first | ((with_reducible refine gate_dst (N := 1) rfl ?_); refine box_event ?hg (N := 1) ?hd (cs := #[.slice A0_0 l0_0.length c0_0, .slice A0_1 l0_1.length c0_1, .int .i64 a0_2, .slice A0_3 l0_3.length c0_3]) (t := 25) ?hr ?_; (case hd => rfl); (case hg => rfl); (case hr => first | (go_simp; done) | (go_simp; rfl)); intro gb103 hg w49 hbox hb; have n0_ := Aside0.mk (below_step (by repeat (first | (with_reducible first | exact HB.out | apply below_alloc | apply pw_below_drewN | apply below_drew1) | exact HB.out)) hb); have n1_ := Aside0.mk (hbox); have n2_ := Aside0.mk ((by rw [hg]; exact (below_size (by repeat (first | (with_reducible first | exact HB.out | apply below_alloc | apply pw_below_drewN | apply below_drew1) | exact HB.out))) : w.heap.size ≤ gb103)); have n3_ := Aside0.mk ((by rw [hg]; exact (below_size (by repeat (first | (with_reducible first | exact HB.out | apply below_alloc | apply pw_below_drewN | apply below_drew1) | exact HB.out))) : w.heap.size ≤ gb103)); clear HB; have HB := n0_; have BK103 := n1_; have GW103 := n2_; have GE103 := n3_; clear n0_ n1_ n2_ n3_; clear hb hbox hg; have hcz50_0 : w49.cell? ⟨gb103, 0, none⟩ = some (.slice A0_0 l0_0.length c0_0) := (blk_cell BK103.out 0).trans rfl; have hcz50_1 : w49.cell? ⟨gb103, 1, none⟩ = some (.slice A0_1 l0_1.length c0_1) := (blk_cell BK103.out 1).trans rfl; have hcz50_2 : w49.cell? ⟨gb103, 2, none⟩ = some (.int .i64 a0_2) := (blk_cell BK103.out 2).trans rfl; have hcz50_3 : w49.cell? ⟨gb103, 3, none⟩ = some (.slice A0_3 l0_3.length c0_3) := (blk_cell BK103.out 3).trans rfl; have hfz50_0 := blk_frozen BK103.out 0; have hfz50_1 := blk_frozen BK103.out 1; have hfz50_2 := blk_frozen BK103.out 2; have hfz50_3 := blk_frozen BK103.out 3) | ((with_reducible refine gate_callee (f := 28) rfl ?_); refine goesL_ (some 11) rfl rfl Tryd.func28 (by kernel_rfl) rfl #[.agg #[.slice A0_0 l0_0.length c0_0, .slice A0_1 l0_1.length c0_1, .int .i64 a0_2, .slice A0_3 l0_3.length c0_3]] rfl (by (try simp only [List.map_toArray, List.map_cons, List.map_nil]); first | done | rfl | (simp only [List.length_drop, List.length_take]; rfl)) ?_; (with_reducible refine (gram_Check.calls k _ _ l0_0 _ _ l0_1 a0_2 _ _ l0_3 (some q105) _ ?side1 ?side2 ?side3 ?side4 ?side5 ?side6 A2.out).mono ?_); (case side1 => repeat (first | exact (Kd.C_below HR0_0.out HB.out) | (with_reducible refine Kd.C_alloc ?_ _) | (with_reducible refine Kd.C_drewN ?_ _) | (with_reducible refine Kd.C_drew ?_))); (case side2 => exact HC0_0.out); (case side3 => repeat (first | exact (Kd.C_below HR0_1.out HB.out) | (with_reducible refine Kd.C_alloc ?_ _) | (with_reducible refine Kd.C_drewN ?_ _) | (with_reducible refine Kd.C_drew ?_))); (case side4 => exact HC0_1.out); (case side5 => repeat (first | exact (Kd.C_below HR0_3.out HB.out) | (with_reducible refine Kd.C_alloc ?_ _) | (with_reducible refine Kd.C_drewN ?_ _) | (with_reducible refine Kd.C_drew ?_))); (case side6 => exact HC0_3.out); rintro e w51 ⟨rfl, hb⟩; refine ⟨_, rfl, ?_⟩; have n0_ := Aside0.mk (blk_below (g := gb103) (o := .cells #[.slice A0_0 l0_0.length c0_0, .slice A0_1 l0_1.length c0_1, .int .i64 a0_2, .slice A0_3 l0_3.length c0_3] 25 (0, 0)) (by (with_reducible repeat (first | refine blk_drewN ?_ _ | refine blk_drew ?_ | refine blk_alloc ?_ _)); exact BK103.out) hb); have n1_ := Aside0.mk (below_step (by repeat (first | (with_reducible first | exact HB.out | apply below_alloc | apply pw_below_drewN | apply below_drew1 | refine below_set ?_ GE103.out) | exact HB.out)) hb); clear BK103; clear HB; have BK103 := n0_; have HB := n1_; clear n0_ n1_; (try clear hb); (try clear hb2); (try clear hk); (try clear hi); (try simp only [errW_none, errW_some])))
    go_ret
    exact ⟨_, by first | rfl | (simp [errW_none, errW_some] <;> rfl) | (simp [*, errW_none, errW_some] <;> rfl), by first | exact Kd.R_nil _ _ _ _ _ | exact Kd.N_nil _ _ _ _ _ | exact Kd.V_nil _ _ _ _ _ | exact Kd.Q_nil _ _ _ _ _ | exact Kd.S_nil _ _ _ _ _, by repeat (first | (with_reducible first | exact HB.out | apply below_alloc | apply pw_below_drewN | apply below_drew1 | refine below_set ?_ GE103.out) | exact HB.out)⟩

end Go.Proofs.YteaiejippkikpaaDoor.B
/- dovetaillaw03.awake: it answers true. -/
set_option linter.unusedVariables false
namespace Go.Proofs.YteaiejippkikpaaDoor.B
open Go.RowKit Go.Proofs.YteaiejippkikpaaDoorW.PrintWords Go.Proofs.YteaiejippkikpaaDoorW.PrintLast Go.Proofs.YteaiejippkikpaaDoorW.PrintMore

theorem given_C (r1 r2 : List ByteArray) (r3 : Int) (r4 : List S35) (w : World) (h : dovetaillaw03_given.f = some (r1, r2, r3, r4)) :
    Calls Tryd.prog 53 #[] w fun e w' => ∃ A0 c0 A1 c1 A3 c3, e = .returned (.agg #[.slice A0 r1.length c0, .slice A1 r2.length c1, .int .i64 r3, .slice A3 r4.length c3]) ∧ Kd.C Kd.string w' A0 r1.length r1 ∧ r1.length ≤ c0 ∧ Kd.C Kd.string w' A1 r2.length r2 ∧ r2.length ≤ c1 ∧ Kd.C k35 w' A3 r4.length r4 ∧ r4.length ≤ c3 ∧ Below w.heap.size w w' := by
  refine (dovetaillaw03_given.calls r1 r2 r3 r4 w h).mono ?_
  rintro e w' ⟨v0, v1, v3, rfl, h0, h1, h3, hb⟩
  obtain ⟨A0, c0, rfl⟩ := Kd.R_slice h0
  obtain ⟨A1, c1, rfl⟩ := Kd.R_slice h1
  obtain ⟨A3, c3, rfl⟩ := Kd.N_slice h3
  exact ⟨A0, c0, A1, c1, A3, c3, rfl, (Kd.R_reads' h0).2.2, (Kd.R_reads' h0).2.1, (Kd.R_reads' h1).2.2, (Kd.R_reads' h1).2.1, (Kd.N_reads' h3).2.2, (Kd.N_reads' h3).2.1, hb⟩
theorem chain_C (r1 r2 : List ByteArray) (r3 : Int) (r4 : List S35) (w : World) (h : dovetaillaw03_chain.f = some (r1, r2, r3, r4)) :
    Calls Tryd.prog 56 #[] w fun e w' => ∃ A0 c0 A1 c1 A3 c3, e = .returned (.agg #[.slice A0 r1.length c0, .slice A1 r2.length c1, .int .i64 r3, .slice A3 r4.length c3]) ∧ Kd.C Kd.string w' A0 r1.length r1 ∧ r1.length ≤ c0 ∧ Kd.C Kd.string w' A1 r2.length r2 ∧ r2.length ≤ c1 ∧ Kd.C k35 w' A3 r4.length r4 ∧ r4.length ≤ c3 ∧ Below w.heap.size w w' := by
  refine (dovetaillaw03_chain.calls r1 r2 r3 r4 w h).mono ?_
  rintro e w' ⟨v0, v1, v3, rfl, h0, h1, h3, hb⟩
  obtain ⟨A0, c0, rfl⟩ := Kd.R_slice h0
  obtain ⟨A1, c1, rfl⟩ := Kd.R_slice h1
  obtain ⟨A3, c3, rfl⟩ := Kd.N_slice h3
  exact ⟨A0, c0, A1, c1, A3, c3, rfl, (Kd.R_reads' h0).2.2, (Kd.R_reads' h0).2.1, (Kd.R_reads' h1).2.2, (Kd.R_reads' h1).2.1, (Kd.N_reads' h3).2.2, (Kd.N_reads' h3).2.1, hb⟩

theorem lit3_C (W : World) (b : Nat) (t : TypeId) (x y z : Int) (h : W.heap[b]? = some (.cells #[.int .u64 x, .int .u64 y, .int .u64 z] t (0, 0))) : Kd.C (Kd.int .u64) W (some ⟨b, 0, none⟩) 3 [x, y, z] := by
  have h0 : Box b #[.int .u64 x, .int .u64 y, .int .u64 z] t W := h
  refine ⟨rfl, by omega, fun _ => ⟨⟨b, 0, none⟩, rfl, fun j p hj => ⟨[.int .u64 p], rfl, rfl, fun i u hi => ?_⟩⟩⟩
  obtain rfl : i = 0 := by
    rcases i with _ | i
    · rfl
    · simp at hi
  simp at hi
  subst hi
  rw [Addr.add_lit]
  match j, hj with
  | 0, hj => simp at hj; subst hj; exact h0.cell 0 _ rfl
  | 1, hj => simp at hj; subst hj; exact h0.cell 1 _ rfl
  | 2, hj => simp at hj; subst hj; exact h0.cell 2 _ rfl
  | j + 3, hj => simp at hj

def dovetaillaw03_awake.ok : Bool :=
  match dovetaillaw03_given.f, dovetaillaw03_chain.f with
  | some (g0, g1, g2, g3), some (c0, c1, c2, c3) =>
    decide (gram_Check.f 50 g0 g1 g2 g3 = some none) && decide (gram_Term.f 50 g0 g1 g2 g3 ⟨#[105]⟩ = some (1, true)) && decide (gram_Above.f 50 c0 c1 c2 c3 = some [1, 3, 7]) && decide (dovetailkit_Sets.f 50 [1, 3, 7] [1, 3, 7] = some true)
  | _, _ => false
theorem dovetaillaw03_awake.ok_true : dovetaillaw03_awake.ok = true := by kernel_rfl

set_option maxHeartbeats 1000000 in
set_option maxRecDepth 100000 in
theorem Awake_calls (w : World) : Calls Tryd.prog 27 #[] w fun e w' => e = .returned (.bool true) ∧ Below w.heap.size w w' := by
  obtain ⟨g0, g1, g2, g3, d0, d1, d2, d3, hg, hd, hk, ht, ha, hs⟩ : ∃ g0 g1 g2 g3 d0 d1 d2 d3, dovetaillaw03_given.f = some (g0, g1, g2, g3) ∧ dovetaillaw03_chain.f = some (d0, d1, d2, d3) ∧
      gram_Check.f 50 g0 g1 g2 g3 = some none ∧ gram_Term.f 50 g0 g1 g2 g3 ⟨#[105]⟩ = some (1, true) ∧ gram_Above.f 50 d0 d1 d2 d3 = some [1, 3, 7] ∧ dovetailkit_Sets.f 50 [1, 3, 7] [1, 3, 7] = some true := by
    have h := dovetaillaw03_awake.ok_true
    unfold dovetaillaw03_awake.ok at h
    split at h
    · rename_i g0 g1 g2 g3 d0 d1 d2 d3 hg hd
      simp only [Bool.and_eq_true, decide_eq_true_eq] at h
      exact ⟨g0, g1, g2, g3, d0, d1, d2, d3, hg, hd, h.1.1.1, h.1.1.2, h.1.2, h.2⟩
    · cases h
  have HG := Aside0.mk hg
  have HD := Aside0.mk hd
  have HK := Aside0.mk hk
  have HT := Aside0.mk ht
  have HA := Aside0.mk ha
  have HS := Aside0.mk hs
  clear hg hd hk ht ha hs
  have TR : Aside0 (∀ {W W' : World}, Below w.heap.size w W → Below W.heap.size W W' → Below w.heap.size w W') := ⟨fun h1 h2 => h1.trans (h2.mono h1.size)⟩
  go_enter Tryd.func27, Tryd.ntmps27
  go_wp2_with (go_at_call 53; (with_reducible refine (given_C g0 g1 g2 g3 _ HG.out).mono ?_); rintro e w1 ⟨A0, c0, A1, c1, A3, c3, rfl, r0, l0, r1, l1, r3, l3, b1⟩; have R0 := Aside0.mk r0; have R1 := Aside0.mk r1; have R3 := Aside0.mk r3; have B1 := Aside0.mk b1; clear r0 r1 r3 b1)
  refine (gram_Check.calls 50 A0 c0 g0 A1 c1 g1 g2 A3 c3 g3 none w1 R0.out l0 R1.out l1 R3.out l3 HK.out).mono ?_
  rintro e w2 ⟨rfl, b2⟩
  have B2 := Aside0.mk (TR.out B1.out b2)
  clear b2 R0 R1 R3 B1 l0 l1 l3
  simp only [errW_none]
  go_wp2_with (go_at_call 53; (with_reducible refine (given_C g0 g1 g2 g3 _ HG.out).mono ?_); rintro e w3 ⟨a0, c0, a1, c1, a3, c3, rfl, r0, l0, r1, l1, r3, l3, b1⟩; have R0 := Aside0.mk r0; have R1 := Aside0.mk r1; have R3 := Aside0.mk r3; have B3 := Aside0.mk (TR.out B2.out b1); clear r0 r1 r3 b1)
  refine (gram_Term.calls 50 a0 c0 g0 a1 c1 g1 g2 a3 c3 g3 ⟨#[105]⟩ 1 true w3 R0.out l0 R1.out l1 R3.out l3 HT.out).mono ?_
  rintro e w4 ⟨rfl, b2⟩
  have B4 := Aside0.mk (TR.out B3.out (by first | exact b2 | exact b2.below))
  clear b2 R0 R1 R3 B3 l0 l1 l3
  go_wp2_with (go_at_call 56; (with_reducible refine (chain_C d0 d1 d2 d3 _ HD.out).mono ?_); rintro e w5 ⟨a0, c0, a1, c1, a3, c3, rfl, r0, l0, r1, l1, r3, l3, b1⟩; have R0 := Aside0.mk r0; have R1 := Aside0.mk r1; have R3 := Aside0.mk r3; have B5 := Aside0.mk (TR.out B4.out b1); clear r0 r1 r3 b1)
  refine (gram_Above.calls 50 a0 c0 d0 a1 c1 d1 d2 a3 c3 d3 [1, 3, 7] w5 R0.out l0 R1.out l1 R3.out l3 HA.out).mono ?_
  rintro e w6 ⟨v, rfl, hv, b2⟩
  obtain ⟨A, c, rfl⟩ := Kd.R_slice hv
  obtain ⟨_, hc, hC⟩ := Kd.R_reads' hv
  have B6 := Aside0.mk (TR.out B5.out b2)
  have HC := Aside0.mk hC
  clear b2 R0 R1 R3 B5 l0 l1 l3 hv hC
  go_wp2_with fail
  have hb7 : Below w6.heap.size w6 (w6.alloc (.cells #[.int .u64 1, .int .u64 3, .int .u64 7] 47)) := (Below.refl _ w6).alloc (Nat.le_refl _) _
  refine (dovetailkit_Sets.calls 50 A c [1, 3, 7] (some ⟨w6.heap.size, 0, none⟩) 3 [1, 3, 7] true _ (Kd.C_below HC.out hb7) hc (lit3_C _ _ _ 1 3 7 (heap_alloc_new w6 _)) (by simp) HS.out).mono ?_
  rintro e w8 ⟨rfl, b2⟩
  have B8 := Aside0.mk (TR.out (TR.out B6.out hb7) b2.below)
  clear b2 hb7
  go_wp2_with fail
  go_ret
  exact ⟨rfl, B8.out⟩

def dovetaillaw03_awake.f : Option Bool := some true
theorem dovetaillaw03_awake.calls (r : Bool) (w : World) (h : dovetaillaw03_awake.f = some r) :
    Calls Tryd.prog 27 #[] w fun e w' => e = .returned (.bool r) ∧ Below w.heap.size w w' := by
  obtain rfl := Option.some.inj h
  exact Awake_calls w
end Go.Proofs.YteaiejippkikpaaDoor.B
/- Sets of small numbers as whole numbers of 64 bits: membership. -/
set_option linter.unusedVariables false
set_option linter.unusedSimpArgs false
namespace Go.Proofs.YteaiejippkikpaaDoor.B
open Go.RowKit Go.Proofs.YteaiejippkikpaaDoorW.PrintWords Go.Proofs.YteaiejippkikpaaDoorW.PrintLast Go.Proofs.YteaiejippkikpaaDoorW.PrintMore

/-- A whole number of 64 bits. -/
def U (s : Int) : Prop := 0 ≤ s ∧ s < 2 ^ 64
/-- Is a number in a set? -/
def mem (s : Int) (i : Nat) : Bool := s.toNat.testBit i
theorem U.nat {s : Int} (h : U s) : ∃ n : Nat, s = n ∧ n < 2 ^ 64 := ⟨s.toNat, by have := h.1; omega, by have := h.1; have := h.2; omega⟩
theorem U.of {n : Nat} (h : n < 2 ^ 64) : U (n : Int) := ⟨by omega, by exact_mod_cast h⟩
theorem wraps_u64 (n : Int) (h₀ : 0 ≤ n) (h₁ : n < 2 ^ 64) : IntKind.u64.wrap n = n := by
  simp [IntKind.wrap, IntKind.bits, IntKind.signed]; omega
theorem or_nat (a b : Nat) (ha : a < 2 ^ 64) (hb : b < 2 ^ 64) : Go.bits .or .u64 (a : Int) (b : Int) = ((a ||| b : Nat) : Int) := (Go.bits_nat .u64 64 (by decide) wraps_u64 a b ha hb).2
theorem and_nat (a b : Nat) (ha : a < 2 ^ 64) (hb : b < 2 ^ 64) : Go.bits .and .u64 (a : Int) (b : Int) = ((a &&& b : Nat) : Int) := (Go.bits_nat .u64 64 (by decide) wraps_u64 a b ha hb).1
theorem andNot_nat (a b : Nat) (ha : a < 2 ^ 64) (hb : b < 2 ^ 64) : ∃ n : Nat, Go.bits .andNot .u64 (a : Int) (b : Int) = (n : Int) ∧ n < 2 ^ 64 ∧ ∀ i, n.testBit i = (a.testBit i && !b.testBit i) := by
  refine ⟨(BitVec.ofNat 64 a &&& ~~~ BitVec.ofNat 64 b).toNat, ?_, BitVec.isLt _, fun i => ?_⟩
  · simp only [Go.bits, BitVec.ofInt_natCast]
    refine wraps_u64 _ (Int.natCast_nonneg _) ?_
    exact_mod_cast BitVec.isLt (BitVec.ofNat 64 a &&& ~~~ BitVec.ofNat 64 b)
  · rw [BitVec.testBit_toNat, BitVec.getLsbD_and, BitVec.getLsbD_not, BitVec.getLsbD_ofNat, BitVec.getLsbD_ofNat]
    by_cases h : i < 64
    · simp [h]
    · have := Nat.testBit_lt_two_pow (Nat.lt_of_lt_of_le ha (Nat.pow_le_pow_right (by decide) (show 64 ≤ i by omega)))
      simp [this]
theorem mem_nat (n i : Nat) : mem (n : Int) i = n.testBit i := by simp [mem]
theorem mem_zero (i : Nat) : mem 0 i = false := by simp [mem]
theorem U_zero : U 0 := ⟨by omega, by decide⟩
theorem U_or {a b : Int} (ha : U a) (hb : U b) : U (Go.bits .or .u64 a b) := by
  obtain ⟨a, rfl, ha'⟩ := ha.nat
  obtain ⟨b, rfl, hb'⟩ := hb.nat
  rw [or_nat a b ha' hb']
  exact U.of (Nat.or_lt_two_pow ha' hb')
theorem mem_or {a b : Int} (ha : U a) (hb : U b) (i : Nat) : mem (Go.bits .or .u64 a b) i = (mem a i || mem b i) := by
  obtain ⟨a, rfl, ha'⟩ := ha.nat
  obtain ⟨b, rfl, hb'⟩ := hb.nat
  rw [or_nat a b ha' hb', mem_nat, mem_nat, mem_nat, Nat.testBit_or]
theorem or_ge {a b : Int} (ha : U a) (hb : U b) : a ≤ Go.bits .or .u64 a b := by
  obtain ⟨a, rfl, ha'⟩ := ha.nat
  obtain ⟨b, rfl, hb'⟩ := hb.nat
  rw [or_nat a b ha' hb']
  exact_mod_cast Nat.left_le_or
theorem U_ext {a b : Int} (ha : U a) (hb : U b) (h : ∀ i, mem a i = mem b i) : a = b := by
  obtain ⟨a, rfl, ha'⟩ := ha.nat
  obtain ⟨b, rfl, hb'⟩ := hb.nat
  congr 1
  exact Nat.eq_of_testBit_eq fun i => by simpa [mem_nat] using h i
theorem mem_big {a : Int} (ha : U a) {i : Nat} (hi : 64 ≤ i) : mem a i = false := by
  obtain ⟨a, rfl, ha'⟩ := ha.nat
  rw [mem_nat]
  exact Nat.testBit_lt_two_pow (Nat.lt_of_lt_of_le ha' (Nat.pow_le_pow_right (by decide) hi))
theorem andNot_zero {a b : Int} (ha : U a) (hb : U b) : Go.bits .andNot .u64 a b = 0 ↔ ∀ i, mem a i = true → mem b i = true := by
  obtain ⟨a, rfl, ha'⟩ := ha.nat
  obtain ⟨b, rfl, hb'⟩ := hb.nat
  obtain ⟨n, hn, _, ht⟩ := andNot_nat a b ha' hb'
  rw [hn]
  constructor
  · intro h i hi
    obtain rfl : n = 0 := by exact_mod_cast h
    have := ht i
    rw [mem_nat] at hi ⊢
    rw [hi] at this
    simpa using this
  · intro h
    have : n = 0 := Nat.eq_of_testBit_eq fun i => by
      rw [ht i, Nat.zero_testBit]
      have := h i
      rw [mem_nat, mem_nat] at this
      cases hx : a.testBit i
      · rfl
      · simp [this hx]
    rw [this]; rfl
theorem shl_one (i : Nat) (hi : i < 64) : shl .u64 1 (i : Int) = ((2 ^ i : Nat) : Int) := by
  unfold shl
  have : min ((i : Int)).toNat IntKind.u64.bits = i := by simp [IntKind.bits]; omega
  rw [this]
  have h2 : (2 : Nat) ^ i < 2 ^ 64 := Nat.pow_lt_pow_right (by decide) hi
  rw [Int.one_mul, wraps_u64]
  · simp
  · exact Int.pow_nonneg (by decide)
  · exact_mod_cast h2
theorem U_one (i : Nat) (hi : i < 64) : U (shl .u64 1 (i : Int)) := by
  rw [shl_one i hi]; exact U.of (Nat.pow_lt_pow_right (by decide) hi)
theorem mem_one (i : Nat) (hi : i < 64) (j : Nat) : mem (shl .u64 1 (i : Int)) j = decide (i = j) := by
  rw [shl_one i hi, mem_nat, Nat.testBit_two_pow]
theorem shr_nat (a i : Nat) (hi : i ≤ 64) : shr .u64 (a : Int) (i : Int) = ((a / 2 ^ i : Nat) : Int) := by
  unfold shr
  have : min ((i : Int)).toNat IntKind.u64.bits = i := by simp [IntKind.bits]; omega
  rw [this]; simp
theorem bit_at {s : Int} (hs : U s) (i : Nat) (hi : i < 64) : Go.bits .and .u64 (shr .u64 s (i : Int)) 1 = if mem s i = true then 1 else 0 := by
  obtain ⟨a, rfl, ha'⟩ := hs.nat
  rw [shr_nat a i (by omega), show (1 : Int) = ((1 : Nat) : Int) from rfl, and_nat _ _ (Nat.lt_of_le_of_lt (Nat.div_le_self _ _) ha') (by decide), mem_nat, Nat.and_one_is_mod]
  rw [Nat.testBit_eq_decide_div_mod_eq]
  have : a / 2 ^ i % 2 < 2 := Nat.mod_lt _ (by decide)
  split
  · rename_i h; rw [of_decide_eq_true h]
  · rename_i h
    have h' := of_decide_eq_false (by simpa using h : decide (a / 2 ^ i % 2 = 1) = false)
    have : a / 2 ^ i % 2 = 0 := by omega
    rw [this]; rfl
theorem shr_zero {s : Int} (hs : U s) (n : Nat) (hn : n ≤ 64) : shr .u64 s (n : Int) = 0 ↔ ∀ i, n ≤ i → mem s i = false := by
  obtain ⟨a, rfl, ha'⟩ := hs.nat
  rw [shr_nat a n hn]
  constructor
  · intro h i hi
    have h0 : a / 2 ^ n = 0 := by exact_mod_cast h
    rw [mem_nat]
    have hlt : a < 2 ^ n := (Nat.div_eq_zero_iff_lt (Nat.two_pow_pos n)).1 h0
    exact Nat.testBit_lt_two_pow (Nat.lt_of_lt_of_le hlt (Nat.pow_le_pow_right (by decide) hi))
  · intro h
    have h0 : a / 2 ^ n = 0 := Nat.eq_of_testBit_eq fun i => by
      rw [Nat.testBit_div_two_pow, Nat.zero_testBit]
      have := h (i + n) (by omega)
      rwa [mem_nat] at this
    rw [h0]; rfl
end Go.Proofs.YteaiejippkikpaaDoor.B
/- Reading lists at a natural number; renamings, and to which nonterminals one comes by them. -/
set_option linter.unusedVariables false
set_option linter.unusedSimpArgs false
namespace Go.Proofs.YteaiejippkikpaaDoor.B
open Go.RowKit Go.Proofs.YteaiejippkikpaaDoorW.PrintWords Go.Proofs.YteaiejippkikpaaDoorW.PrintLast Go.Proofs.YteaiejippkikpaaDoorW.PrintMore

theorem rd_D (l : List Int) (i : Nat) : rd l (i : Int) = l.getD i 0 := by simp [rd]
theorem rdS_D (l : List ByteArray) (i : Nat) : rdOf ByteArray.empty l (i : Int) = l.getD i ByteArray.empty := by simp [rdOf]
theorem rdR_D (l : List S35) (i : Nat) : rd_T35 l (i : Int) = l.getD i z35 := by simp [rd_T35]
theorem getD_lt {α : Type} (l : List α) (i : Nat) (d : α) (h : i < l.length) : l.getD i d = l[i] := by simp [List.getD_eq_getElem?_getD, List.getElem?_eq_getElem h]
theorem getD_set {α : Type} (l : List α) (m i : Nat) (v d : α) : (l.set m v).getD i d = if m = i ∧ i < l.length then v else l.getD i d := by
  simp only [List.getD_eq_getElem?_getD, List.getElem?_set]
  by_cases h : m = i
  · subst h
    by_cases h2 : m < l.length
    · simp [h2]
    · simp [h2, List.getElem?_eq_none (show l.length ≤ m by omega)]
  · simp [h]
theorem sum_set : ∀ (l : List Int) (m : Nat) (v : Int), m < l.length → (l.set m v).sum = l.sum - l.getD m 0 + v
  | [], m, v, h => by simp at h
  | x :: l, 0, v, _ => by simp [List.sum_cons]; omega
  | x :: l, m + 1, v, h => by
    have := sum_set l m v (by simpa using h)
    simp only [List.set_cons_succ, List.sum_cons, List.getD_cons_succ]
    omega
theorem sum_le : ∀ (l l' : List Int), l.length = l'.length → (∀ i, i < l.length → l.getD i 0 ≤ l'.getD i 0) → l.sum ≤ l'.sum
  | [], [], _, _ => by simp
  | [], _ :: _, h, _ => by simp at h
  | _ :: _, [], h, _ => by simp at h
  | x :: l, y :: l', h, hi => by
    have h1 := sum_le l l' (by simpa using h) (fun i hl => by simpa using hi (i + 1) (by simpa using hl))
    have h0 := hi 0 (by simp)
    simp only [List.getD_cons_zero] at h0
    simp only [List.sum_cons]
    omega
theorem sum_bound : ∀ (l : List Int), (∀ i, i < l.length → l.getD i 0 < 2 ^ 64) → l.sum ≤ l.length * 2 ^ 64
  | [], _ => by simp
  | x :: l, hi => by
    have h1 := sum_bound l (fun i hl => by simpa using hi (i + 1) (by simpa using hl))
    have h0 := hi 0 (by simp)
    simp only [List.getD_cons_zero] at h0
    simp only [List.sum_cons, List.length_cons]
    push_cast
    omega
theorem w64 (i : Nat) (h : i < 9223372036854775807) : wrap64 ((i : Int) + 1) = ((i + 1 : Nat) : Int) := by unfold wrap64; omega

/-- The nonterminal that a rule renames. -/
def ren (x : S35) : Option Nat := match x.f1 with
  | [s] => if s < 0 then some (-1 - s).toNat else none
  | _ => none
theorem okR_sides {t n : Nat} {x : S35} (h : okR t n x = true) : x.f1.length ≤ 32 ∧ 0 ≤ x.f0 ∧ x.f0 < n ∧ ∀ s ∈ x.f1, s < t ∧ -(n : Int) ≤ s := by
  simp only [okR, Bool.and_eq_true, decide_eq_true_eq, Bool.not_eq_true', List.any_eq_false, outS, Bool.or_eq_true, not_or, Int.not_le, Int.not_lt] at h
  exact ⟨h.1.1.1, h.1.1.2, h.1.2, fun s hs => by simpa using h.2 s hs⟩
theorem ren_lt {t n : Nat} {x : S35} (h : okR t n x = true) {m : Nat} (hm : ren x = some m) : m < n := by
  have hs := (okR_sides h).2.2.2
  unfold ren at hm
  split at hm
  · rename_i s he
    split at hm
    · have := hs s (by rw [he]; simp)
      have := Option.some.inj hm
      omega
    · cases hm
  · cases hm
theorem ren_f {t n : Nat} {x : S35} (h : okR t n x = true) (hn : n ≤ 60) : gram_Renaming.f x.f0 x.f1 = some (match ren x with | some m => ((m : Int), true) | none => (0, false)) := by
  have hs := (okR_sides h).2.2.2
  unfold gram_Renaming.f ren
  generalize x.f1 = l at hs
  match l with
  | [] => simp
  | [s] =>
    have := hs s (by simp)
    have h0 : rd [s] 0 = s := by simp [rd]
    simp only [List.length_singleton, h0]
    by_cases c : s < 0
    · have h1 : wrap64 (-1 - s) = ((-1 - s).toNat : Int) := by unfold wrap64; omega
      rw [if_pos (by rfl), if_pos (by decide), if_neg (by omega), if_pos c, h1]
    · rw [if_pos (by rfl), if_pos (by decide), if_pos (by omega), if_neg c]
  | a :: b :: l => simp; omega
/-- A renaming of m by a. -/
def Edge (R : List S35) (a m : Nat) : Prop := ∃ x ∈ R, x.f0 = (a : Int) ∧ ren x = some m
/-- a comes to b. -/
inductive Reach (R : List S35) : Nat → Nat → Prop
  | refl (a : Nat) : Reach R a a
  | step {a m b : Nat} : Edge R a m → Reach R m b → Reach R a b
theorem Reach.snoc {R : List S35} {a m b : Nat} (h : Reach R a m) (e : Edge R m b) : Reach R a b := by
  induction h with
  | refl a => exact .step e (.refl _)
  | step e' _ ih => exact .step e' (ih e)
theorem Reach.trans {R : List S35} {a m b : Nat} (h : Reach R a m) (h' : Reach R m b) : Reach R a b := by
  induction h with
  | refl a => exact h'
  | step e _ ih => exact .step e (ih h')
theorem Edge.lt {R : List S35} {t n a m : Nat} (hR : ∀ x ∈ R, okR t n x = true) (e : Edge R a m) : a < n ∧ m < n := by
  obtain ⟨x, hx, ha, hm⟩ := e
  have := okR_sides (hR x hx)
  exact ⟨by omega, ren_lt (hR x hx) hm⟩
theorem Reach.lt {R : List S35} {t n a b : Nat} (hR : ∀ x ∈ R, okR t n x = true) (h : Reach R a b) (hb : b < n) : a < n := by
  cases h with
  | refl => exact hb
  | step e _ => exact (e.lt hR).1
end Go.Proofs.YteaiejippkikpaaDoor.B
/- Names: their places, and which lists of names are right. -/
set_option linter.unusedVariables false
set_option linter.unusedSimpArgs false
namespace Go.Proofs.YteaiejippkikpaaDoor.B
open Go.RowKit Go.Proofs.YteaiejippkikpaaDoorW.PrintWords Go.Proofs.YteaiejippkikpaaDoorW.PrintLast Go.Proofs.YteaiejippkikpaaDoorW.PrintMore

theorem toL_eq (a b : ByteArray) : a.toList = b.toList ↔ a = b := by
  constructor
  · intro h
    rw [ByteArray.toList_eq, ByteArray.toList_eq] at h
    have := Array.ext' h
    cases a; cases b; simp_all
  · rintro rfl; rfl

/-- The place of a name from a place on; -1: none. -/
def place (l : List ByteArray) (s : ByteArray) (i : Nat) : Int := if (l.drop i).findIdx (fun x => decide (s = x)) < (l.drop i).length then ((i + (l.drop i).findIdx (fun x => decide (s = x)) : Nat) : Int) else -1
theorem place_end (l : List ByteArray) (s : ByteArray) : place l s l.length = -1 := by simp [place]
theorem place_step (l : List ByteArray) (s : ByteArray) (i : Nat) (h : i < l.length) : place l s i = if s = l[i] then (i : Int) else place l s (i + 1) := by
  unfold place
  rw [List.drop_eq_getElem_cons h, List.findIdx_cons, List.length_cons]
  by_cases c : s = l[i]
  · rw [if_pos c, decide_eq_true c, cond_true, if_pos (by omega)]; rfl
  · rw [if_neg c, decide_eq_false c, cond_false]
    by_cases c2 : (l.drop (i + 1)).findIdx (fun x => decide (s = x)) < (l.drop (i + 1)).length
    · rw [if_pos (by omega), if_pos c2]; congr 1; omega
    · rw [if_neg (by omega), if_neg c2]
theorem place_nonneg (l : List ByteArray) (s : ByteArray) : 0 ≤ place l s 0 ↔ s ∈ l := by
  have : (l.findIdx (fun x => decide (s = x)) < l.length) ↔ s ∈ l := by
    rw [List.findIdx_lt_length]; simp
  unfold place
  rw [List.drop_zero, ← this]
  split <;> omega
theorem place_of (l : List ByteArray) (i : Nat) (h : i < l.length) (hd : l[i] ∉ l.take i) : place l l[i] 0 = (i : Int) := by
  have : ∀ d j, i - j = d → j ≤ i → place l l[i] j = (i : Int) := by
    intro d
    induction d with
    | zero =>
      intro j hj hle
      have : j = i := by omega
      subst this
      rw [place_step l _ j h, if_pos rfl]
    | succ d ih =>
      intro j hj hle
      rw [place_step l _ j (by omega), if_neg, ih (j + 1) (by omega) (by omega)]
      intro e
      exact hd (e ▸ List.mem_take_iff_getElem.2 ⟨j, by omega, rfl⟩)
  exact this i 0 (by omega) (by omega)

theorem Index_l (l : List ByteArray) (s : ByteArray) (hm : l.length ≤ 9223372036854775807) : ∀ (d i k : Nat), l.length - i = d → i ≤ l.length → d < k → slices_Index_string_string.l0 k l s (l.length : Int) (i : Int) = some (place l s i) := by
  intro d
  induction d with
  | zero =>
    intro i k hi hle hk
    obtain ⟨k, rfl⟩ : ∃ j, k = j + 1 := ⟨k - 1, by omega⟩
    have : i = l.length := by omega
    subst this
    rw [slices_Index_string_string.l0, if_neg (by omega), place_end]
  | succ d ih =>
    intro i k hi hle hk
    obtain ⟨k, rfl⟩ : ∃ j, k = j + 1 := ⟨k - 1, by omega⟩
    have hlt : i < l.length := by omega
    rw [slices_Index_string_string.l0, if_pos (by omega), if_pos (by omega), if_pos (by omega), rdS_D, getD_lt _ _ _ hlt, place_step l s i hlt]
    by_cases c : s = l[i]
    · rw [if_pos ((toL_eq _ _).2 c), if_pos c]
    · rw [if_neg (fun h => c ((toL_eq _ _).1 h)), if_neg c, w64 i (by omega), ih (i + 1) k (by omega) (by omega) (by omega)]
theorem Index_f (l : List ByteArray) (s : ByteArray) (k : Nat) (hm : l.length ≤ 9223372036854775807) (hk : l.length < k) : slices_Index_string_string.f k l s = some (place l s 0) := by
  unfold slices_Index_string_string.f
  have := Index_l l s hm l.length 0 k (by omega) (by omega) hk
  simpa using this
theorem Find_f (l : List ByteArray) (s : ByteArray) (k : Nat) (hm : l.length ≤ 9223372036854775807) (hk : l.length < k) : gram_find.f k l s = some (mx (place l s 0) 0, decide (0 ≤ place l s 0)) := by
  unfold gram_find.f
  rw [Index_f l s k hm hk, Option.bind_some]

/-- Is a name of a list wrong? -/
def faultAt (l : List ByteArray) (i : Nat) : Bool := decide ((l.getD i ByteArray.empty).size = 0) || decide (32 < (l.getD i ByteArray.empty).size) || (l.take i).any (fun x => decide (l.getD i ByteArray.empty = x))
/-- Are all names right? -/
def namesOK (l : List ByteArray) : Bool := (List.range l.length).all fun i => !faultAt l i
def namesFrom (l : List ByteArray) (i : Nat) : Bool := (List.range' i (l.length - i)).all fun i => !faultAt l i
theorem namesFrom_zero (l : List ByteArray) : namesFrom l 0 = namesOK l := by simp [namesFrom, namesOK, List.range_eq_range']
theorem namesFrom_step (l : List ByteArray) (i : Nat) (h : i < l.length) : namesFrom l i = (!faultAt l i && namesFrom l (i + 1)) := by
  unfold namesFrom
  rw [show l.length - i = (l.length - (i + 1)) + 1 from by omega, List.range'_succ, List.all_cons]
theorem namesFrom_end (l : List ByteArray) : namesFrom l l.length = true := by simp [namesFrom]

theorem NameFault_f (l : List ByteArray) (i k : Nat) (h : i < l.length) (hm : l.length ≤ 9223372036854775807) (hk : l.length < k) : gram_nameFault.f k l (i : Int) = some (faultAt l i) := by
  unfold gram_nameFault.f faultAt slices_Contains_string_string.f
  rw [if_pos (by omega), if_pos (by omega), rdS_D, Int.toNat_natCast]
  generalize l.getD i ByteArray.empty = s
  by_cases c1 : s.size = 0
  · rw [if_pos (by omega)]; simp [c1]
  · rw [if_neg (by omega)]
    by_cases c2 : 32 < s.size
    · rw [if_pos (by omega)]; simp [c2]
    · rw [if_neg (by omega), if_pos (by omega), Index_f _ s k (by rw [List.length_take]; omega) (by rw [List.length_take]; omega), Option.bind_some, Option.bind_some]
      cases c3 : (l.take i).any (fun x => decide (s = x)) with
      | true =>
        have : s ∈ l.take i := by
          obtain ⟨x, hx, he⟩ := List.any_eq_true.1 c3
          rw [of_decide_eq_true he]; exact hx
        rw [if_pos (decide_eq_true ((place_nonneg (l.take i) s).2 this)), Bool.or_true]
      | false =>
        have : ¬ s ∈ l.take i := fun hs => by
          have := List.any_eq_false.1 c3 s hs
          simp at this
        rw [if_neg (by rw [decide_eq_true_eq]; exact fun h => this ((place_nonneg (l.take i) s).1 h)), decide_eq_false c1, decide_eq_false c2]; rfl
theorem Names_l (l : List ByteArray) (hm : l.length ≤ 9223372036854775807) : ∀ (d i k : Nat), l.length - i = d → i ≤ l.length → d + l.length + 1 < k → gram_names.l0 k l (l.length : Int) (i : Int) = some (namesFrom l i) := by
  intro d
  induction d with
  | zero =>
    intro i k hi hle hk
    obtain ⟨k, rfl⟩ : ∃ j, k = j + 1 := ⟨k - 1, by omega⟩
    have : i = l.length := by omega
    subst this
    rw [gram_names.l0, if_neg (by omega), namesFrom_end]
  | succ d ih =>
    intro i k hi hle hk
    obtain ⟨k, rfl⟩ : ∃ j, k = j + 1 := ⟨k - 1, by omega⟩
    have hlt : i < l.length := by omega
    rw [gram_names.l0, if_pos (by omega), NameFault_f l i k hlt hm (by omega), Option.bind_some, namesFrom_step l i hlt]
    cases hf : faultAt l i with
    | true => rw [if_pos rfl]; rfl
    | false => rw [if_neg (by decide), w64 i (by omega), ih (i + 1) k (by omega) (by omega) (by omega)]; rfl
theorem Names_f (l : List ByteArray) (k : Nat) (hm : l.length ≤ 9223372036854775807) (hk : l.length + l.length + 1 < k) : gram_names.f k l = some (namesOK l) := by
  unfold gram_names.f
  have := Names_l l hm l.length 0 k (by omega) (by omega) hk
  rw [namesFrom_zero] at this
  simpa using this
theorem namesOK_nodup {l : List ByteArray} (h : namesOK l = true) (i : Nat) (hi : i < l.length) : l[i] ∉ l.take i := by
  unfold namesOK at h
  have := List.all_eq_true.1 h i (by simpa using hi)
  simp only [faultAt, Bool.not_eq_true', Bool.or_eq_false_iff, getD_lt _ _ _ hi] at this
  intro hm
  have := List.any_eq_false.1 this.2 _ hm
  simp at this
theorem place_name {l : List ByteArray} (h : namesOK l = true) (i : Nat) (hi : i < l.length) : place l l[i] 0 = (i : Int) := place_of l i hi (namesOK_nodup h i hi)
theorem okG_names {K : Nat} {l0 l1 : List ByteArray} {a2 : Int} {R : List S35} (h : okG K l0 l1 a2 R) : namesOK l0 = true ∧ namesOK l1 = true := by
  obtain ⟨h60, _, hn0, hn1, _⟩ := h
  have e0 : Ev (fun k => gram_names.f k l0) true := Ev.of (gram_names.mono l0) hn0
  have e1 : Ev (fun k => gram_names.f k l1) true := Ev.of (gram_names.mono l1) hn1
  obtain ⟨K0, e0⟩ := e0
  obtain ⟨K1, e1⟩ := e1
  have a0 : gram_names.f (K0 + K1 + 200) l0 = some true := e0 (K0 + K1 + 200) (by omega)
  have a1 : gram_names.f (K0 + K1 + 200) l1 = some true := e1 (K0 + K1 + 200) (by omega)
  rw [Names_f l0 _ (by omega) (by omega)] at a0
  rw [Names_f l1 _ (by omega) (by omega)] at a1
  exact ⟨Option.some.inj a0, Option.some.inj a1⟩
end Go.Proofs.YteaiejippkikpaaDoor.B
/- gram.Check, kit.Kind, kit.Rule, awake in the print's form: errors told by a number (kind + 16 * (rule + 1)), with premises: the sentinels and the handle lie. -/
set_option linter.unusedVariables false
set_option linter.unusedSimpArgs false
namespace Go.Proofs.YteaiejippkikpaaDoor.F
open Go.RowKit Go.Proofs.YteaiejippkikpaaDoorW.PrintWords Go.Proofs.YteaiejippkikpaaDoorW.PrintLast Go.Proofs.YteaiejippkikpaaDoorW.PrintMore
open Go.Proofs.YteaiejippkikpaaDoor.B (SentsK SentsK.below HandleP HandleP.below ErrV ErrV.below chk namesOK Check_full Names_f C_max Kind_chk Rule_chk Awake_calls S35 k35)

/-- An error: none, or some value. -/
abbrev errV (tx : TypeId × Value) : Option Int → Value
  | none => .nilIface
  | some _ => .iface tx.1 tx.2
theorem errV_none (tx : TypeId × Value) : errV tx none = .nilIface := rfl
theorem errV_some (tx : TypeId × Value) (c : Int) : errV tx (some c) = .iface tx.1 tx.2 := rfl
/-- An error's number. -/
def encE (p : Int × Int) : Option Int := if p.1 = 0 then none else some (p.1 + 16 * (p.2 + 1))
def kindE : Option Int → Int
  | none => 0
  | some c => c % 16
def ruleE : Option Int → Int
  | none => -1
  | some c => c / 16 - 1
/-- A value tells the error of a number. -/
def ErrF (ad : Int → Addr) (w : World) (v : Value) (r : Option Int) : Prop := ∃ p, ErrV ad w v p ∧ r = encE p
theorem ErrV.kinds {ad : Int → Addr} {w : World} {v : Value} {p : Int × Int} (h : ErrV ad w v p) : 0 ≤ p.1 ∧ p.1 < 16 ∧ -1 ≤ p.2 ∧ (p.1 = 0 → p.2 = -1) := by
  rcases h with ⟨h1, h2, _⟩ | ⟨h1, h2, _⟩ | ⟨h1, h2, _⟩ <;> omega
theorem kindE_enc {p : Int × Int} (h0 : 0 ≤ p.1) (h1 : p.1 < 16) : kindE (encE p) = p.1 := by
  unfold encE
  by_cases h : p.1 = 0
  · rw [if_pos h, h]; rfl
  · rw [if_neg h]; show (p.1 + 16 * (p.2 + 1)) % 16 = p.1; omega
theorem ruleE_enc {p : Int × Int} (h0 : 0 ≤ p.1) (h1 : p.1 < 16) (h2 : p.1 = 0 → p.2 = -1) : ruleE (encE p) = p.2 := by
  unfold encE
  by_cases h : p.1 = 0
  · rw [if_pos h, h2 h]; rfl
  · rw [if_neg h]; show (p.1 + 16 * (p.2 + 1)) / 16 - 1 = p.2; omega
theorem ErrF.below {ad : Int → Addr} {w w' : World} {v : Value} {r : Option Int} (h : ErrF ad w v r) (hb : Below w.heap.size w w') : ErrF ad w' v r := by
  obtain ⟨p, h1, h2⟩ := h
  exact ⟨p, h1.below hb, h2⟩
theorem ErrF.val {ad : Int → Addr} {w : World} {v : Value} {r : Option Int} (h : ErrF ad w v r) : ∃ tx, v = errV tx r := by
  obtain ⟨p, h1, rfl⟩ := h
  unfold encE
  by_cases h0 : p.1 = 0
  · rw [if_pos h0]; exact ⟨(0, .nilIface), h1.nil h0⟩
  · rw [if_neg h0]
    obtain ⟨t, u, h⟩ := h1.some h0
    exact ⟨(t, u), h⟩
def gram_Check.f (l0 l1 : List ByteArray) (a2 : Int) (l3 : List S35) : Option (Option Int) := some (encE (chk (namesOK l0) (namesOK l1) l0.length l1.length a2 l3))
theorem SentsK.three {ad : Int → Addr} {w : World} (h : SentsK ad w) : Go.Proofs.YteaiejippkikpaaDoor.B.Sents ad w := by
  obtain ⟨⟨h1, h2, h3, h4, h5, h6, h7, h8, h9, h10, h11, h12, h13, h14, h15⟩, _, _⟩ := h
  exact ⟨h3, h10, h1⟩
theorem gram_Check.calls (ad : Int → Addr) (A0 : Option Addr) (c0 : Nat) (l0 : List ByteArray) (A1 : Option Addr) (c1 : Nat) (l1 : List ByteArray) (a2 : Int) (A3 : Option Addr) (c3 : Nat) (l3 : List S35) (r : Option Int) (w : World) (hs : SentsK ad w) (hg : HandleP w) (hr0 : Kd.C Kd.string w A0 l0.length l0) (hc0 : l0.length ≤ c0) (hr1 : Kd.C Kd.string w A1 l1.length l1) (hc1 : l1.length ≤ c1) (hr3 : Kd.C k35 w A3 l3.length l3) (hc3 : l3.length ≤ c3) (h : gram_Check.f l0 l1 a2 l3 = some r) :
    Calls Tryd.prog 28 #[.agg #[.slice A0 l0.length c0, .slice A1 l1.length c1, .int .i64 a2, .slice A3 l3.length c3]] w fun e w' => ∃ tx, e = .returned (errV tx r) ∧ ErrF ad w' (errV tx r) r ∧ Below w.heap.size w w' := by
  obtain rfl := Option.some.inj h
  have m0 := C_max hr0
  have m1 := C_max hr1
  have hn0 := Names_f l0 (l0.length + l0.length + l1.length + l1.length + 2) m0 (by omega)
  have hn1 := Names_f l1 (l0.length + l0.length + l1.length + l1.length + 2) m1 (by omega)
  refine (Check_full ad _ A0 c0 l0 A1 c1 l1 a2 A3 c3 l3 _ _ w (SentsK.three hs) hr0 hc0 hr1 hc1 hr3 hc3 hn0 hn1).mono ?_
  rintro e w' ⟨⟨v, rfl, hv⟩, hb⟩
  have hf : ErrF ad w' v (encE (chk (namesOK l0) (namesOK l1) l0.length l1.length a2 l3)) := ⟨_, hv, rfl⟩
  obtain ⟨tx, ht⟩ := hf.val
  exact ⟨tx, by rw [ht], by rw [← ht]; exact hf, hb⟩
def dovetailkit_Kind.f (a0 : Option Int) : Option Int := some (kindE a0)
theorem dovetailkit_Kind.calls (ad : Int → Addr) (a0 : Option Int) (r : Int) {tx : TypeId × Value} (w : World) (hs : SentsK ad w) (hg : HandleP w) (hpe : ErrF ad w (errV tx a0) a0) (h : dovetailkit_Kind.f a0 = some r) :
    Calls Tryd.prog 32 #[errV tx a0] w fun e w' => e = .returned (.int .i64 r) ∧ Below w.heap.size w w' := by
  obtain rfl := Option.some.inj h
  obtain ⟨p, hv, hp⟩ := hpe
  have hk := ErrV.kinds hv
  have hc := Kind_chk hs hv
  rw [← kindE_enc hk.1 hk.2.1, ← hp] at hc
  exact hc
def dovetailkit_Rule.f (a0 : Option Int) : Option Int := some (ruleE a0)
theorem dovetailkit_Rule.calls (ad : Int → Addr) (a0 : Option Int) (r : Int) {tx : TypeId × Value} (w : World) (hs : SentsK ad w) (hg : HandleP w) (hpe : ErrF ad w (errV tx a0) a0) (h : dovetailkit_Rule.f a0 = some r) :
    Calls Tryd.prog 33 #[errV tx a0] w fun e w' => e = .returned (.int .i64 r) ∧ Below w.heap.size w w' := by
  obtain rfl := Option.some.inj h
  obtain ⟨p, hv, hp⟩ := hpe
  have hk := ErrV.kinds hv
  have hc := Rule_chk (show Go.Proofs.YteaiejippkikpaaDoor.B.Handle w from hg) hv
  rw [← ruleE_enc hk.1 hk.2.1 hk.2.2.2, ← hp] at hc
  exact hc
def dovetaillaw03_awake.f : Option Bool := some true
theorem dovetaillaw03_awake.calls (r : Bool) (w : World) (h : dovetaillaw03_awake.f = some r) :
    Calls Tryd.prog 27 #[] w fun e w' => e = .returned (.bool r) ∧ Below w.heap.size w w' := by
  obtain rfl := Option.some.inj h
  exact Awake_calls w
end Go.Proofs.YteaiejippkikpaaDoor.F
/- kit.Lent..: lists in memory of their own, a mark behind each. -/
set_option linter.unusedVariables false
set_option linter.unusedSimpArgs false
namespace Go.Proofs.YteaiejippkikpaaDoor.B
open Go.RowKit Go.Proofs.YteaiejippkikpaaDoorW.PrintWords Go.Proofs.YteaiejippkikpaaDoorW.PrintLast Go.Proofs.YteaiejippkikpaaDoorW.PrintMore

/-- A list of numbers with the mark behind it, if it is told so. -/
def kmx : Kd (List Int × Bool) where
  sz := 1
  E := [3]
  K := fun w x cs => ∃ A c, cs = [.slice A x.1.length c] ∧ match x.2 with
    | true => x.1.length + 1 ≤ c ∧ Kd.C (Kd.int .i64) w A (x.1.length + 1) (x.1 ++ [-7171])
    | false => x.1.length ≤ c ∧ Kd.C (Kd.int .i64) w A x.1.length x.1
  M := fun w base ok x cs => ∃ A c, cs = [.slice A x.1.length c] ∧ match x.2 with
    | true => Kd.R (Kd.int .i64) 3 w base ok (.slice A (x.1.length + 1) c) (x.1 ++ [-7171])
    | false => Kd.R (Kd.int .i64) 3 w base ok (.slice A x.1.length c) x.1
  K_len := by
    rintro w x cs ⟨A, c, rfl, _⟩
    rfl
  K_one := by
    rintro w x cs ⟨A, c, rfl, _⟩ u hu
    rw [List.mem_singleton.1 hu]
    rfl
  K_below := by
    rintro w w1 ⟨xs, b⟩ cs hb ⟨A, c, rfl, h⟩
    cases b
    · exact ⟨A, c, rfl, h.1, Kd.C_below h.2 hb⟩
    · exact ⟨A, c, rfl, h.1, Kd.C_below h.2 hb⟩
  K_of_M := by
    rintro w base ok ⟨xs, b⟩ cs ⟨A, c, rfl, h⟩
    cases b
    · exact ⟨A, c, rfl, (Kd.R_reads' h).2⟩
    · have := Kd.R_reads' h
      rw [List.length_append, List.length_singleton] at this
      exact ⟨A, c, rfl, this.2⟩
  M_mono := by
    rintro w base ok ok' ⟨xs, b⟩ cs hok ⟨A, c, rfl, h⟩
    cases b
    · exact ⟨A, c, rfl, Kd.R_mono h hok⟩
    · exact ⟨A, c, rfl, Kd.R_mono h hok⟩
  M_bound := by
    rintro w base ok ⟨xs, b⟩ cs ⟨A, c, rfl, h⟩
    cases b
    · exact ⟨A, c, rfl, Kd.R_bound h⟩
    · exact ⟨A, c, rfl, Kd.R_bound h⟩
  M_move := by
    rintro w w1 base ok ⟨xs, b⟩ cs hm ⟨A, c, rfl, h⟩
    cases b
    · exact ⟨A, c, rfl, Kd.R_move h hm⟩
    · exact ⟨A, c, rfl, Kd.R_move h hm⟩
  M_lower := by
    rintro w base base' ok ⟨xs, b⟩ cs hb ⟨A, c, rfl, h⟩
    cases b
    · exact ⟨A, c, rfl, Kd.R_lower h hb⟩
    · exact ⟨A, c, rfl, Kd.R_lower h hb⟩
/-- A rule whose right side has the mark behind it, if it is told so. -/
def kRx : Kd (S35 × Bool) := Kd.iso (Kd.pair (Kd.int .i64) kmx) (fun x => (x.1.f0, (x.1.f1, x.2)))
/-- The first of a row. -/
theorem C_pre {α : Type} {d : Kd α} {w : World} {A : Option Addr} {xs ys : List α} {n : Nat} (h : d.C w A n (xs ++ ys)) : d.C w A xs.length xs := by
  refine ⟨rfl, by have := h.1; have := h.2.1; rw [List.length_append] at *; omega, fun hp => ?_⟩
  obtain ⟨ad, e, hc⟩ := h.2.2 (by have := h.1; rw [List.length_append] at this; omega)
  refine ⟨ad, e, fun j p hj => hc j p ?_⟩
  have hlt := (List.getElem?_eq_some_iff.1 hj).1
  rw [List.getElem?_append_left hlt]; exact hj
theorem C_imp {α β : Type} {d : Kd α} {d' : Kd β} {w : World} {A : Option Addr} {n : Nat} {xs : List α} (f : α → β) (h : d.C w A n xs) (hs : d.sz = d'.sz) (hK : ∀ x c, x ∈ xs → d.K w x c → d'.K w (f x) c) : d'.C w A n (xs.map f) := by
  refine ⟨by rw [List.length_map]; exact h.1, h.2.1, fun hp => ?_⟩
  obtain ⟨ad, e, hc⟩ := h.2.2 hp
  refine ⟨ad, e, fun j p hj => ?_⟩
  rw [List.getElem?_map] at hj
  obtain ⟨x, hx, rfl⟩ := Option.map_eq_some_iff.1 hj
  obtain ⟨c, h1, h2, h3⟩ := hc j x hx
  exact ⟨c, by rw [← hs]; exact h1, hK x c (List.mem_of_getElem? hx) h2, by rw [← hs]; exact h3⟩
/-- Rules, their marks told. -/
def mk1 (l : List S35) : List (S35 × Bool) := l.map fun x => (x, true)
theorem mk1_length (l : List S35) : (mk1 l).length = l.length := by simp [mk1]
/-- A list of rules that was lent. -/
def MR (w : World) (A : Option Addr) (c : Nat) (l : List S35) : Prop := l.length + 1 ≤ c ∧ Kd.C kRx w A (l.length + 1) (mk1 l ++ [(⟨-7171, []⟩, false)])
theorem MR.below {w w' : World} {A : Option Addr} {c : Nat} {l : List S35} (h : MR w A c l) (hb : Below w.heap.size w w') : MR w' A c l := ⟨h.1, Kd.C_below h.2 hb⟩
theorem MR.of {w : World} {base : Nat} {ok : Nat → Prop} {A : Option Addr} {c : Nat} {l : List S35} (h : Kd.R kRx 35 w base ok (.slice A (l.length + 1) c) (mk1 l ++ [((⟨-7171, []⟩ : S35), false)])) : MR w A c l := by
  have h1 := Kd.R_reads' h
  refine ⟨h1.2.1, ?_⟩
  rw [h1.1]; exact h1.2.2
theorem kRx_K {w : World} {x : S35} {cs : List Value} (h : kRx.K w (x, true) cs) : k35.K w x cs := by
  obtain ⟨a, b, rfl, h1, A, c, rfl, h2, h3⟩ := h
  dsimp only at h2 h3
  exact ⟨a, _, rfl, h1, A, c, rfl, by dsimp only; omega, C_pre h3⟩
theorem MR.reads {w : World} {A : Option Addr} {c : Nat} {l : List S35} (h : MR w A c l) : Kd.C k35 w A l.length l := by
  have h1 := C_pre h.2
  rw [mk1_length] at h1
  have h2 := C_imp (d := kRx) (d' := k35) (fun x => x.1) h1 rfl (fun x c hx hk => by
    obtain ⟨y, _, rfl⟩ := List.mem_map.1 hx
    exact kRx_K hk)
  have : (mk1 l).map (fun x => x.1) = l := List.ext_getElem (by simp [mk1]) (fun i h1 h2 => by simp [mk1])
  rwa [this] at h2

set_option maxHeartbeats 4000000 in
set_option maxRecDepth 100000 in
theorem LentInts_m (A0 : Option Addr) (c0 : Nat) (l : List Int) (w : World) (hr : Kd.C (Kd.int .i64) w A0 l.length l) (hl : l.length < 17592186044415) :
    Calls Tryd.prog 43 #[.slice A0 l.length c0] w fun e w' => ∃ A c, e = .returned (.slice A l.length c) ∧ Aside0 (Kd.R (Kd.int .i64) 3 w' w.heap.size (fun _ => True) (.slice A (l.length + 1) c) (l ++ [(-7171)]) ∧ Below w.heap.size w w') := by
  obtain ⟨y1, hy1⟩ : ∃ y_ : List Int, y_ = ([] : List Int) ++ l := ⟨_, rfl⟩
  obtain ⟨y2, hy2⟩ : ∃ y_ : List Int, y_ = y1 ++ [(-7171)] := ⟨_, rfl⟩
  have q8 : y1.length < 17592186044415 := by rw [hy1]; simpa using hl
  have q9 : ((l.length : Int)) ≤ ((y2.length : Int)) := by rw [hy2, hy1]; simp; omega
  have q7 : ([] : List Int).length + l.length < 17592186044415 := by simpa using hl
  have hy3 : y2.length = l.length + 1 := by rw [hy2, hy1]; simp
  have hy4 : y2 = l ++ [(-7171)] := by rw [hy2, hy1]; simp
  have HR0 := Aside0.mk hr
  have HB := Aside0.mk (Below.refl w.heap.size w)
  have N1 := Aside0.mk hy1
  have N2 := Aside0.mk hy2
  have N3 := Aside0.mk hy3
  have N4 := Aside0.mk hy4
  have Q7 := Aside0.mk q7
  have Q8 := Aside0.mk q8
  have Q9 := Aside0.mk q9
  clear hr hy1 hy2 hy3 hy4 q7 q8 q9 hl
  go_enter Tryd.func43, Tryd.ntmps43
  go_wp2_with (first
    | ((with_reducible refine gate_builtin (b := .append) (xs := #[.tmp 4, .tmp 5]) rfl ?_); at_builtin; refine Kd.R_append_rows (Kd.int .i64) (w0 := w) w.heap.size rfl (.tmp 4) (.tmp 5) 33 3 (.int .i64 0) 8 rfl Tryd.underlying33 info3 rfl (by decide) (by omega) (.slice none 0 0) ([] : List Int) l _ _ _ (fun _ => True) (fun _ => False) rfl rfl ?aO ?aR (fun _ _ h => h) (fun _ h => h.elim) ?aF ?aB ?aS ?aL ?_; (case aR => exact HR0.out); (case aB => exact HB.out); (case aF => exact (fun _ _ => trivial)); (case aO => exact ((Kd.R_nil _ _ _ _ (fun _ => True)))); (case aS => exact Nat.le_refl _); (case aL => have := Q7.out; omega); intro v1 w1 ho hb hg hat; rw [← N1.out] at ho; have n0_ := Aside0.mk hb; have n1_ := Aside0.mk ho; clear HB; have HB := n0_; have HO1 := n1_; clear n0_ n1_ ho hb hg hat)
    | ((with_reducible refine gate_builtin (b := .append) (xs := #[.tmp 7, .tmp 8]) rfl ?_); at_builtin; refine Kd.R_append (Kd.int .i64) (w0 := w) w.heap.size rfl (.tmp 7) (.tmp 8) 33 3 (.int .i64 0) 8 rfl Tryd.underlying33 info3 rfl (by decide) (by omega) v1 y1 (-7171) [.int .i64 (-7171)] (fun _ => True) (fun _ => False) rfl rfl ?aP (fun _ hk => hk.elim) ?aF ?aO ?aB ?aS ?aL ?_; (case aP => exact rfl); (case aB => exact HB.out); (case aF => exact (fun _ _ => trivial)); (case aO => exact HO1.out); (case aS => exact (below_size HB.out)); (case aL => have := Q8.out; omega); intro v2 w2 ho hb hg hat; rw [← N2.out] at ho; have n0_ := Aside0.mk hb; have n1_ := Aside0.mk ho; clear HB HO1; have HB := n0_; have HO2 := n1_; clear n0_ n1_ ho hb hg hat; obtain ⟨Ao, co, eo⟩ := Kd.R_slice HO2.out; subst eo; obtain ⟨i0, hi0, _, hsz0, _⟩ := info_parts info3; have hcut := cut_to (P := Tryd.prog) 33 3 .i64 Tryd.underlying33 hi0 Ao y2.length co (l.length : Int) (by omega) Q9.out (Kd.R_reads' HO2.out).2.1; clear hi0 hsz0))
  go_ret
  refine ⟨Ao, co, rfl, ⟨?_, HB.out⟩⟩
  have h := HO2.out
  rw [N3.out] at h
  rw [← N4.out]
  exact h

set_option maxHeartbeats 4000000 in
set_option maxRecDepth 100000 in
theorem LentStrings_m (A0 : Option Addr) (c0 : Nat) (l : List ByteArray) (w : World) (hr : Kd.C Kd.string w A0 l.length l) (hl : l.length < 8796093022207) :
    Calls Tryd.prog 58 #[.slice A0 l.length c0] w fun e w' => ∃ A c, e = .returned (.slice A l.length c) ∧ Aside0 (Kd.R Kd.string 9 w' w.heap.size (fun _ => True) (.slice A (l.length + 1) c) (l ++ [(⟨#[109, 97, 114, 107]⟩ : ByteArray)]) ∧ Below w.heap.size w w') := by
  obtain ⟨y1, hy1⟩ : ∃ y_ : List ByteArray, y_ = ([] : List ByteArray) ++ l := ⟨_, rfl⟩
  obtain ⟨y2, hy2⟩ : ∃ y_ : List ByteArray, y_ = y1 ++ [(⟨#[109, 97, 114, 107]⟩ : ByteArray)] := ⟨_, rfl⟩
  have q8 : y1.length < 8796093022207 := by rw [hy1]; simpa using hl
  have q9 : ((l.length : Int)) ≤ ((y2.length : Int)) := by rw [hy2, hy1]; simp; omega
  have q7 : ([] : List ByteArray).length + l.length < 8796093022207 := by simpa using hl
  have hy3 : y2.length = l.length + 1 := by rw [hy2, hy1]; simp
  have hy4 : y2 = l ++ [(⟨#[109, 97, 114, 107]⟩ : ByteArray)] := by rw [hy2, hy1]; simp
  have HR0 := Aside0.mk hr
  have HB := Aside0.mk (Below.refl w.heap.size w)
  have N1 := Aside0.mk hy1
  have N2 := Aside0.mk hy2
  have N3 := Aside0.mk hy3
  have N4 := Aside0.mk hy4
  have Q7 := Aside0.mk q7
  have Q8 := Aside0.mk q8
  have Q9 := Aside0.mk q9
  clear hr hy1 hy2 hy3 hy4 q7 q8 q9 hl
  go_enter Tryd.func58, Tryd.ntmps58
  go_wp2_with (first
    | ((with_reducible refine gate_builtin (b := .append) (xs := #[.tmp 4, .tmp 5]) rfl ?_); at_builtin; refine Kd.R_append_rows Kd.string (w0 := w) w.heap.size rfl (.tmp 4) (.tmp 5) 22 9 (.string ⟨#[]⟩) 16 rfl Tryd.underlying22 info9 rfl (by decide) (by omega) (.slice none 0 0) ([] : List ByteArray) l _ _ _ (fun _ => True) (fun _ => False) rfl rfl ?aO ?aR (fun _ _ h => h) (fun _ h => h.elim) ?aF ?aB ?aS ?aL ?_; (case aR => exact HR0.out); (case aB => exact HB.out); (case aF => exact (fun _ _ => trivial)); (case aO => exact ((Kd.R_nil _ _ _ _ (fun _ => True)))); (case aS => exact Nat.le_refl _); (case aL => have := Q7.out; omega); intro v1 w1 ho hb hg hat; rw [← N1.out] at ho; have n0_ := Aside0.mk hb; have n1_ := Aside0.mk ho; clear HB; have HB := n0_; have HO1 := n1_; clear n0_ n1_ ho hb hg hat)
    | ((with_reducible refine gate_builtin (b := .append) (xs := #[.tmp 7, .tmp 8]) rfl ?_); at_builtin; refine Kd.R_append Kd.string (w0 := w) w.heap.size rfl (.tmp 7) (.tmp 8) 22 9 (.string ⟨#[]⟩) 16 rfl Tryd.underlying22 info9 rfl (by decide) (by omega) v1 y1 (⟨#[109, 97, 114, 107]⟩ : ByteArray) [.string ⟨#[109, 97, 114, 107]⟩] (fun _ => True) (fun _ => False) rfl rfl ?aP (fun _ hk => hk.elim) ?aF ?aO ?aB ?aS ?aL ?_; (case aP => exact rfl); (case aB => exact HB.out); (case aF => exact (fun _ _ => trivial)); (case aO => exact HO1.out); (case aS => exact (below_size HB.out)); (case aL => have := Q8.out; omega); intro v2 w2 ho hb hg hat; rw [← N2.out] at ho; have n0_ := Aside0.mk hb; have n1_ := Aside0.mk ho; clear HB HO1; have HB := n0_; have HO2 := n1_; clear n0_ n1_ ho hb hg hat; obtain ⟨Ao, co, eo⟩ := Kd.R_slice HO2.out; subst eo; obtain ⟨i0, hi0, _, hsz0, _⟩ := info_parts info9; have hcut := cut_to (P := Tryd.prog) 22 9 .i64 Tryd.underlying22 hi0 Ao y2.length co (l.length : Int) (by omega) Q9.out (Kd.R_reads' HO2.out).2.1; clear hi0 hsz0))
  go_ret
  refine ⟨Ao, co, rfl, ⟨?_, HB.out⟩⟩
  have h := HO2.out
  rw [N3.out] at h
  rw [← N4.out]
  exact h

set_option maxHeartbeats 8000000 in
set_option maxRecDepth 100000 in
theorem LentRules_m (A0 : Option Addr) (c0 : Nat) (l : List S35) (w : World) (hr : Kd.C k35 w A0 l.length l) (hl : l.length < 4398046511104) (hx : ∀ x ∈ l, x.f1.length < 17592186044415) :
    Calls Tryd.prog 59 #[.slice A0 l.length c0] w fun e w' => ∃ A c, e = .returned (.slice A l.length c) ∧ Aside0 (Kd.R kRx 35 w' w.heap.size (fun _ => True) (.slice A (l.length + 1) c) (mk1 l ++ [((⟨-7171, []⟩ : S35), false)]) ∧ Below w.heap.size w w') := by
  have HR0 := Aside0.mk hr
  have HX := Aside0.mk hx
  have HL := Aside0.mk hl
  have hm := C_max hr
  have HU := Aside0.mk (show True from trivial)
  clear hr hx hl
  go_enter Tryd.func59, Tryd.ntmps59
  go_wp2_with fail
  go_loopw [3, 4, 5] (fun v i _ wr => ∃ k : Nat, k ≤ l.length ∧ i = .int .i64 k ∧ Aside0 (Kd.R kRx 35 wr w.heap.size (fun _ => True) v (mk1 (l.take k)) ∧ Below w.heap.size w wr)) (fun _ i _ _ => l.length - (intOf i).toNat)
  case atStart => exact ⟨0, Nat.zero_le _, rfl, ⟨by simpa [mk1] using Kd.R_nil kRx _ w w.heap.size (fun _ => True), Below.refl _ w⟩⟩
  case round =>
    obtain ⟨k, hk, rfl, tr⟩ := hrel
    by_cases hlt : k < l.length
    · obtain ⟨ad, A, c, rfl, h0, h1, h2, h3⟩ := at_T35 (Kd.C_below HR0.out tr.out.2) (k : Int) (by omega) (by omega)
      have q0 : rd_T35 l (k : Int) = l[k] := by simp [rd_T35, List.getD_eq_getElem?_getD, List.getElem?_eq_getElem hlt]
      have hxk := HX.out l[k] (List.getElem_mem hlt)
      have hnx : mk1 (l.take (k + 1)) = mk1 (l.take k) ++ [(l[k], true)] := by rw [mk1, List.take_succ_eq_append_getElem hlt, List.map_append]; rfl
      rw [Int.toNat_natCast] at h0 h1
      rw [q0] at h0 h1 h2 h3
      generalize l[k] = x at h0 h1 h2 h3 hxk hnx
      have hcall : Calls Tryd.prog 43 #[.slice A x.f1.length c] wr fun e w' => ∃ A' c', e = .returned (.slice A' x.f1.length c') ∧ Aside0 (Kd.R (Kd.int .i64) 3 w' w.heap.size (fun k_ => some k_ = (.slice A' (x.f1.length + 1) c' : Value).ownBlock) (.slice A' (x.f1.length + 1) c') (x.f1 ++ [-7171]) ∧ Kd.R kRx 35 w' w.heap.size (fun _ => True) u3 (mk1 (l.take k)) ∧ Below w.heap.size w w') ∧ w'.cell? (ad.add (k * 2)) = some (.int .i64 x.f0) := by
        refine (LentInts_m A c x.f1 wr h3 hxk).mono ?_
        rintro e w' ⟨A', c', rfl, h⟩
        exact ⟨A', c', rfl, ⟨Kd.R_lower (Kd.R_tight rfl h.out.1) (below_size tr.out.2), Kd.R_below tr.out.1 h.out.2, tr.out.2.trans (h.out.2.mono (below_size tr.out.2))⟩, (h.out.2.cell (World.block_lt_of_cell? wr _ h0)).trans h0⟩
      have HC := Aside0.mk hcall
      have HN := Aside0.mk hnx
      clear hcall h2 h3 q0 hxk hnx
      go_wp2_with (first
        | (go_at_call 43; (with_reducible refine HC.out.mono ?_); rintro e w6 ⟨A', c', rfl, t6, e0⟩)
        | ((with_reducible refine gate_builtin (b := .append) (xs := #[.tmp 18, .tmp 26]) rfl ?_); at_builtin; refine Kd.R_append kRx (w0 := w) w.heap.size rfl (.tmp 18) (.tmp 26) 23 35 (.agg #[(.int .i64 0), (.slice none 0 0)]) 32 rfl Tryd.underlying23 info35 rfl (by decide) (by omega) u3 (mk1 (l.take k)) (x, true) [.int .i64 x.f0, .slice A' x.f1.length c'] (fun _ => True) (fun k_ => some k_ = (.slice A' (x.f1.length + 1) c' : Value).ownBlock) rfl rfl ?aP ?aA ?aF ?aO ?aB ?aS ?aL ?_; (case aP => exact ⟨[.int .i64 x.f0], [.slice A' x.f1.length c'], rfl, rfl, A', c', rfl, t6.out.1⟩); (case aA => exact (fun k_ hk_ => ⟨trivial, ((Kd.R_apart' t6.out.1 (Kd.R_typed t6.out.2.1) (by decide)).1 k_ hk_.symm).2⟩)); (case aB => exact t6.out.2.2); (case aF => exact (fun _ _ => trivial)); (case aO => exact t6.out.2.1); (case aS => exact (below_size t6.out.2.2)); (case aL => have := HL.out; simp only [mk1_length, List.length_take]; omega); intro v8 w8 ho hb hg hat; rw [← HN.out] at ho; have n0_ := Aside0.mk hb; have n1_ := Aside0.mk ho; clear ho hb hg hat))
      go_roundw
      case measure => simp [intOf]; omega
      case rel => exact ⟨k + 1, by omega, rfl, ⟨n1_.out, n0_.out⟩⟩
    · have hkn : k = l.length := by omega
      subst hkn
      have h1 : Kd.R kRx 35 wr w.heap.size (fun _ => True) u3 (mk1 l) := by have := tr.out.1; rwa [List.take_length] at this
      obtain ⟨y2, hy2⟩ : ∃ y_, y_ = mk1 l ++ [((⟨-7171, []⟩ : S35), false)] := ⟨_, rfl⟩
      have q9 : ((l.length : Int)) ≤ ((y2.length : Int)) := by rw [hy2]; simp [mk1_length]; omega
      have hy3 : y2.length = l.length + 1 := by rw [hy2]; simp [mk1_length]
      have N2 := Aside0.mk hy2
      have N3 := Aside0.mk hy3
      have Q9 := Aside0.mk q9
      have H1 := Aside0.mk h1
      clear hy2 hy3 q9 h1
      go_wp2_with (first
        | ((with_reducible refine gate_builtin (b := .append) (xs := #[.tmp 28, .tmp 30]) rfl ?_); at_builtin; refine Kd.R_append kRx (w0 := w) w.heap.size rfl (.tmp 28) (.tmp 30) 23 35 (.agg #[(.int .i64 0), (.slice none 0 0)]) 32 rfl Tryd.underlying23 info35 rfl (by decide) (by omega) u3 (mk1 l) ((⟨-7171, []⟩ : S35), false) [.int .i64 (-7171), .slice none 0 0] (fun _ => True) (fun _ => False) rfl rfl ?aP (fun k_ hk_ => hk_.elim) ?aF ?aO ?aB ?aS ?aL ?_; (case aP => exact ⟨[.int .i64 (-7171)], [.slice none 0 0], rfl, rfl, none, 0, rfl, Kd.R_nil _ _ _ _ _⟩); (case aB => exact tr.out.2); (case aF => exact (fun _ _ => trivial)); (case aO => exact H1.out); (case aS => exact (below_size tr.out.2)); (case aL => have := HL.out; simp only [mk1_length]; omega); intro v2 w2 ho hb hg hat; rw [← N2.out] at ho; have n0_ := Aside0.mk hb; have n1_ := Aside0.mk ho; clear ho hb hg hat; obtain ⟨Ao, co, eo⟩ := Kd.R_slice n1_.out; subst eo; obtain ⟨i0, hi0, _, hsz0, _⟩ := info_parts info35; have hcut := cut_to (P := Tryd.prog) 23 35 .i64 Tryd.underlying23 hi0 Ao y2.length co (l.length : Int) (by omega) Q9.out (Kd.R_reads' n1_.out).2.1; clear hi0 hsz0))
      go_ret
      refine ⟨Ao, co, rfl, ⟨?_, n0_.out⟩⟩
      have h := n1_.out
      rw [N3.out] at h
      rw [← N2.out]
      exact h
end Go.Proofs.YteaiejippkikpaaDoor.B
/- Rules that are moved and read, not looked into: their right sides as values that read as lists in the world in which the call began. -/
set_option linter.unusedVariables false
set_option linter.unusedSimpArgs false
namespace Go.Proofs.YteaiejippkikpaaDoor.O
open Go.RowKit Go.Proofs.YteaiejippkikpaaDoorW.PrintWords Go.Proofs.YteaiejippkikpaaDoorW.PrintLast Go.Proofs.YteaiejippkikpaaDoorW.PrintMore
open Go.Proofs.YteaiejippkikpaaDoor.B (SentsK SentsK.below C_imp)
open Go.Proofs.YteaiejippkikpaaDoor.F (errV ErrF dovetailkit_Kind.f dovetailkit_Rule.f)

theorem C_uniq {w : World} {A : Option Addr} {n : Nat} {xs ys : List Int} (h1 : Kd.C (Kd.int .i64) w A n xs) (h2 : Kd.C (Kd.int .i64) w A n ys) : xs = ys := by
  have e1 := h1.1
  have e2 := h2.1
  refine List.ext_getElem (by omega) fun i hi1 hi2 => ?_
  obtain ⟨ad, c, ha, hc, hk, hx⟩ := Kd.C_get h1 0 (i : Int) (by omega) (by omega)
  obtain ⟨ad2, c2, ha2, hc2, hk2, hx2⟩ := Kd.C_get h2 0 (i : Int) (by omega) (by omega)
  obtain rfl := Option.some.inj (ha.symm.trans ha2)
  have hk' : c = [.int .i64 (xs.getD ((i : Int)).toNat 0)] := hk
  have hk2' : c2 = [.int .i64 (ys.getD ((i : Int)).toNat 0)] := hk2
  have := (hx 0 _ (by rw [hk']; rfl)).symm.trans (hx2 0 _ (by rw [hk2']; rfl))
  injection this with this
  injection this with _ this
  rw [Int.toNat_natCast, List.getD_eq_getElem?_getD, List.getD_eq_getElem?_getD, List.getElem?_eq_getElem hi1, List.getElem?_eq_getElem hi2] at this
  exact this

/-- The world in which the call began. -/
class RdC where
  w0 : World
variable [RdC]
def OkV (v : Value) : Prop := ∃ (l : List Int) (A : Option Addr) (c : Nat), v = .slice A l.length c ∧ l.length ≤ c ∧ Kd.C (Kd.int .i64) RdC.w0 A l.length l
def V35 : Type := {v : Value // OkV v}
noncomputable def rdV (x : V35) : List Int := x.2.choose
theorem rdV_spec (x : V35) : ∃ (A : Option Addr) (c : Nat), x.1 = .slice A (rdV x).length c ∧ (rdV x).length ≤ c ∧ Kd.C (Kd.int .i64) RdC.w0 A (rdV x).length (rdV x) := x.2.choose_spec
theorem rdV_eq (x : V35) {l : List Int} {A : Option Addr} {c : Nat} (h : x.1 = .slice A l.length c) (hl : Kd.C (Kd.int .i64) RdC.w0 A l.length l) : rdV x = l := by
  obtain ⟨A', c', h1, h2, h3⟩ := rdV_spec x
  rw [h] at h1
  injection h1 with e1 e2 e3
  subst e1
  rw [← e2] at h3
  exact C_uniq h3 hl
theorem V35.one (x : V35) : x.1.oneCell' = true := by
  obtain ⟨A, c, h, _⟩ := rdV_spec x
  rw [h]; rfl
structure S35 where
  f0 : Int
  f1 : V35
def z35 : S35 := ⟨0, ⟨.slice none 0 0, [], none, 0, rfl, Nat.le_refl _, Kd.C_nil _ _⟩⟩
def k35 : Kd S35 where
  sz := 2
  E := []
  K := fun _ x cs => cs = [.int .i64 x.f0, x.f1.1]
  M := fun _ _ _ x cs => cs = [.int .i64 x.f0, x.f1.1]
  K_len := fun h => by rw [h]; rfl
  K_one := fun {w x cs} h u hu => by
    rw [h] at hu
    rcases List.mem_cons.1 hu with rfl | hu
    · rfl
    · rw [List.mem_singleton.1 hu]; exact x.f1.one
  K_below := fun _ h => h
  K_of_M := fun h => h
  M_mono := fun _ h => h
  M_bound := fun h => h
  M_move := fun _ h => h
  M_lower := fun _ h => h
theorem k35_open {w : World} {x : S35} {cs : List Value} (h : k35.K w x cs) : cs = [.int .i64 x.f0, x.f1.1] := h
theorem k35_openM {w : World} {base : Nat} {ok : Nat → Prop} {x : S35} {cs : List Value} (h : k35.M w base ok x cs) : cs = [.int .i64 x.f0, x.f1.1] := h
theorem k35_mk (w : World) (x : S35) : k35.K w x [.int .i64 x.f0, x.f1.1] := rfl
theorem k35_mkM (w : World) (base : Nat) (ok : Nat → Prop) (x : S35) : k35.M w base ok x [.int .i64 x.f0, x.f1.1] := rfl
def rd_T35 (xs : List S35) (i : Int) : S35 := xs.getD i.toNat z35
/-- What a rule reads as. -/
noncomputable def toB (x : S35) : Go.Proofs.YteaiejippkikpaaDoor.B.S35 := ⟨x.f0, rdV x.f1⟩
theorem K_toB {w : World} (hb : Below RdC.w0.heap.size RdC.w0 w) {x : S35} {cs : List Value} (h : k35.K w x cs) : Go.Proofs.YteaiejippkikpaaDoor.B.k35.K w (toB x) cs := by
  obtain rfl : cs = _ := h
  obtain ⟨A, c, h1, h2, h3⟩ := rdV_spec x.f1
  rw [h1]
  exact Go.Proofs.YteaiejippkikpaaDoor.B.k35_mk w (toB x) h2 (Kd.C_below h3 hb)
theorem C_toB {w : World} (hb : Below RdC.w0.heap.size RdC.w0 w) {A : Option Addr} {n : Nat} {l : List S35} (h : Kd.C k35 w A n l) : Kd.C Go.Proofs.YteaiejippkikpaaDoor.B.k35 w A n (l.map toB) :=
  C_imp toB h rfl (fun x c _ hk => K_toB hb hk)
theorem C_ofB {A : Option Addr} {l : List Go.Proofs.YteaiejippkikpaaDoor.B.S35} (h : Kd.C Go.Proofs.YteaiejippkikpaaDoor.B.k35 RdC.w0 A l.length l) : ∃ l' : List S35, l'.map toB = l ∧ Kd.C k35 RdC.w0 A l'.length l' := by
  cases hl : l with
  | nil => subst hl; exact ⟨[], rfl, rfl, h.2.1, fun hp => absurd hp (Nat.lt_irrefl 0)⟩
  | cons y r =>
    obtain ⟨ad, e, hc⟩ := h.2.2 (by rw [hl]; simp)
    have : ∀ j : Fin l.length, ∃ (x : S35) (c : List Value), toB x = l[j] ∧ c.length = 2 ∧ k35.K RdC.w0 x c ∧ ∀ i u, c[i]? = some u → RdC.w0.cell? (ad.add (j.val * 2 + i)) = some u := by
      intro j
      obtain ⟨c, h1, h2, h3⟩ := hc j.val l[j] (List.getElem?_eq_getElem j.2)
      obtain ⟨A1, c1, rfl, l1, g1⟩ := Go.Proofs.YteaiejippkikpaaDoor.B.k35_open h2
      refine ⟨⟨l[j].f0, ⟨.slice A1 l[j].f1.length c1, l[j].f1, A1, c1, rfl, l1, g1⟩⟩, _, ?_, rfl, rfl, h3⟩
      show (⟨_, _⟩ : Go.Proofs.YteaiejippkikpaaDoor.B.S35) = _
      rw [rdV_eq _ rfl g1]
    obtain ⟨fx, hx⟩ := Classical.axiomOfChoice this
    refine ⟨List.ofFn fx, ?_, rfl, by rw [List.length_ofFn]; exact h.2.1, fun hp => ⟨ad, e, fun j p hj => ?_⟩⟩
    · rw [← hl]
      refine List.ext_getElem (by simp) fun i h1 h2 => ?_
      rw [List.getElem_map, List.getElem_ofFn]
      obtain ⟨c, q1, _⟩ := hx ⟨i, h2⟩
      exact q1
    · obtain ⟨hj1, hj2⟩ := List.getElem?_eq_some_iff.1 hj
      rw [List.length_ofFn] at hj1
      rw [List.getElem_ofFn] at hj2
      subst hj2
      obtain ⟨c, _, q2, q3, q4⟩ := hx ⟨j, hj1⟩
      exact ⟨c, q2, q3, q4⟩
/-- The handle, and that the world is one that has come from the first. -/
def HandleP (w : World) : Prop := Go.Proofs.YteaiejippkikpaaDoor.B.HandleP w ∧ Below RdC.w0.heap.size RdC.w0 w
theorem HandleP.below {w w' : World} (h : HandleP w) (hb : Below w.heap.size w w') : HandleP w' := ⟨Go.Proofs.YteaiejippkikpaaDoor.B.HandleP.below h.1 hb, h.2.trans (hb.mono (below_size h.2))⟩
noncomputable def gram_Check.f (l0 l1 : List ByteArray) (a2 : Int) (l3 : List S35) : Option (Option Int) := Go.Proofs.YteaiejippkikpaaDoor.F.gram_Check.f l0 l1 a2 (l3.map toB)
theorem gram_Check.calls (ad : Int → Addr) (A0 : Option Addr) (c0 : Nat) (l0 : List ByteArray) (A1 : Option Addr) (c1 : Nat) (l1 : List ByteArray) (a2 : Int) (A3 : Option Addr) (c3 : Nat) (l3 : List S35) (r : Option Int) (w : World) (hs : SentsK ad w) (hg : HandleP w) (hr0 : Kd.C Kd.string w A0 l0.length l0) (hc0 : l0.length ≤ c0) (hr1 : Kd.C Kd.string w A1 l1.length l1) (hc1 : l1.length ≤ c1) (hr3 : Kd.C k35 w A3 l3.length l3) (hc3 : l3.length ≤ c3) (h : gram_Check.f l0 l1 a2 l3 = some r) :
    Calls Tryd.prog 28 #[.agg #[.slice A0 l0.length c0, .slice A1 l1.length c1, .int .i64 a2, .slice A3 l3.length c3]] w fun e w' => ∃ tx, e = .returned (errV tx r) ∧ ErrF ad w' (errV tx r) r ∧ Below w.heap.size w w' := by
  have hr := C_toB hg.2 hr3
  have hn : (l3.map toB).length = l3.length := List.length_map ..
  rw [← hn] at hr hc3 ⊢
  exact Go.Proofs.YteaiejippkikpaaDoor.F.gram_Check.calls ad A0 c0 l0 A1 c1 l1 a2 A3 c3 (l3.map toB) r w hs hg.1 hr0 hc0 hr1 hc1 hr hc3 h
theorem dovetailkit_Kind.calls (ad : Int → Addr) (a0 : Option Int) (r : Int) {tx : TypeId × Value} (w : World) (hs : SentsK ad w) (hg : HandleP w) (hpe : ErrF ad w (errV tx a0) a0) (h : dovetailkit_Kind.f a0 = some r) :
    Calls Tryd.prog 32 #[errV tx a0] w fun e w' => e = .returned (.int .i64 r) ∧ Below w.heap.size w w' :=
  Go.Proofs.YteaiejippkikpaaDoor.F.dovetailkit_Kind.calls ad a0 r w hs hg.1 hpe h
theorem dovetailkit_Rule.calls (ad : Int → Addr) (a0 : Option Int) (r : Int) {tx : TypeId × Value} (w : World) (hs : SentsK ad w) (hg : HandleP w) (hpe : ErrF ad w (errV tx a0) a0) (h : dovetailkit_Rule.f a0 = some r) :
    Calls Tryd.prog 33 #[errV tx a0] w fun e w' => e = .returned (.int .i64 r) ∧ Below w.heap.size w w' :=
  Go.Proofs.YteaiejippkikpaaDoor.F.dovetailkit_Rule.calls ad a0 r w hs hg.1 hpe h
end Go.Proofs.YteaiejippkikpaaDoor.O
namespace Go.Proofs.YteaiejippkikpaaDoor.Gl
open Go.Proofs.YteaiejippkikpaaDoor.O (RdC V35 S35 z35 k35 k35_open k35_openM k35_mk k35_mkM rd_T35 HandleP HandleP.below gram_Check.f gram_Check.calls dovetailkit_Kind.calls dovetailkit_Rule.calls)
open Go.RowKit Go.Proofs.YteaiejippkikpaaDoorW.PrintWords Go.Proofs.YteaiejippkikpaaDoorW.PrintLast Go.Proofs.YteaiejippkikpaaDoorW.PrintMore
attribute [local go_sem] max2_int min2_int max_two min_two max_three min_three max_four min_four   -- for this text's walks alone
set_option linter.unusedVariables false
set_option linter.unusedSimpArgs false



def errW : Option Int → Value
  | none => .nilIface
  | some c => .iface 0 (.int .i64 c)
theorem errW_none : errW none = .nilIface := rfl
theorem errW_some (c : Int) : errW (some c) = .iface 0 (.int .i64 c) := rfl

theorem info9 : (Tryd.prog.info? 9).map (fun i => (i.zero, i.size, i.bytes)) = some (some (.string ⟨#[]⟩), 1, 16) := by kernel_rfl
theorem info35 : (Tryd.prog.info? 35).map (fun i => (i.zero, i.size, i.bytes)) = some (some (.agg #[(.int .i64 0), (.slice none 0 0)]), 2, 32) := by kernel_rfl
-- the values' own types
def rd_L1 (xs : List (List ByteArray)) (i : Int) : (List ByteArray) := xs.getD i.toNat ([] : List ByteArray)
theorem at_L1 {w : World} {A : Option Addr} {n : Nat} {xs : List (List ByteArray)} (h : Kd.C (Kd.slice 9 Kd.string) w A n xs) (i : Int) (h0 : 0 ≤ i) (h1 : i < n) : ∃ ad A0 c0, A = some ad ∧ w.cell? (ad.add i.toNat) = some (.slice A0 (rd_L1 xs i).length c0) ∧ (rd_L1 xs i).length ≤ c0 ∧ Kd.string.C w A0 (rd_L1 xs i).length (rd_L1 xs i) := by
  obtain ⟨ad, c, e, _, hK, hc0⟩ := Kd.C_get h ([] : List ByteArray) i h0 h1
  have hc : ∀ j u, c[j]? = some u → w.cell? (ad.add (i.toNat * 1 + j)) = some u := hc0
  obtain ⟨A0, c0, rfl, l0, g0⟩ := hK
  exact ⟨ad, A0, c0, e, by have hq := hc 0 _ rfl; rwa [Nat.mul_one, Nat.add_zero] at hq, l0, g0⟩

/-! #### struct type 35 -/

noncomputable def rd_L4 [RdC] (xs : List (List S35)) (i : Int) : (List S35) := xs.getD i.toNat ([] : List S35)
theorem at_L4 [RdC] {w : World} {A : Option Addr} {n : Nat} {xs : List (List S35)} (h : Kd.C (Kd.slice 35 k35) w A n xs) (i : Int) (h0 : 0 ≤ i) (h1 : i < n) : ∃ ad A0 c0, A = some ad ∧ w.cell? (ad.add i.toNat) = some (.slice A0 (rd_L4 xs i).length c0) ∧ (rd_L4 xs i).length ≤ c0 ∧ k35.C w A0 (rd_L4 xs i).length (rd_L4 xs i) := by
  obtain ⟨ad, c, e, _, hK, hc0⟩ := Kd.C_get h ([] : List S35) i h0 h1
  have hc : ∀ j u, c[j]? = some u → w.cell? (ad.add (i.toNat * 1 + j)) = some u := hc0
  obtain ⟨A0, c0, rfl, l0, g0⟩ := hK
  exact ⟨ad, A0, c0, e, by have hq := hc 0 _ rfl; rwa [Nat.mul_one, Nat.add_zero] at hq, l0, g0⟩

/-! #### struct type 25 -/
structure S25 [RdC] where
  f0 : (List ByteArray)
  f1 : (List ByteArray)
  f2 : Int
  f3 : (List S35)
noncomputable def z25 [RdC] : S25 := ⟨([] : List ByteArray), ([] : List ByteArray), (0 : Int), ([] : List S35)⟩
noncomputable def k25 [RdC] : Kd S25 := Kd.iso (Kd.pair (Kd.slice 9 Kd.string) (Kd.pair (Kd.slice 9 Kd.string) (Kd.pair (Kd.int .i64) (Kd.slice 35 k35)))) (fun x : S25 => (x.f0, x.f1, x.f2, x.f3))
theorem k25_open [RdC] {w : World} {x : S25} {cs : List Value} (h : k25.K w x cs) : ∃ A0 c0 A1 c1 A3 c3, cs = [.slice A0 x.f0.length c0, .slice A1 x.f1.length c1, .int .i64 x.f2, .slice A3 x.f3.length c3] ∧ x.f0.length ≤ c0 ∧ Kd.string.C w A0 x.f0.length x.f0 ∧ x.f1.length ≤ c1 ∧ Kd.string.C w A1 x.f1.length x.f1 ∧ x.f3.length ≤ c3 ∧ k35.C w A3 x.f3.length x.f3 := by
  obtain ⟨_, _, rfl, ⟨A0, c0, rfl, l0, g0⟩, ⟨_, _, rfl, ⟨A1, c1, rfl, l1, g1⟩, ⟨_, _, rfl, rfl, ⟨A3, c3, rfl, l3, g3⟩⟩⟩⟩ := h
  exact ⟨A0, c0, A1, c1, A3, c3, rfl, l0, g0, l1, g1, l3, g3⟩
theorem k25_openM [RdC] {w : World} {base : Nat} {ok : Nat → Prop} {x : S25} {cs : List Value} (h : k25.M w base ok x cs) : ∃ v0 v1 v3, cs = [v0, v1, .int .i64 x.f2, v3] ∧ Kd.string.R 9 w base ok v0 x.f0 ∧ Kd.string.R 9 w base ok v1 x.f1 ∧ k35.R 35 w base ok v3 x.f3 := by
  obtain ⟨_, _, rfl, ⟨v0, rfl, g0⟩, ⟨_, _, rfl, ⟨v1, rfl, g1⟩, ⟨_, _, rfl, rfl, ⟨v3, rfl, g3⟩⟩⟩⟩ := h
  exact ⟨v0, v1, v3, rfl, g0, g1, g3⟩
theorem k25_mk [RdC] (w : World) (x : S25) {A0 : Option Addr} {c0 : Nat} (l0 : x.f0.length ≤ c0) (g0 : Kd.string.C w A0 x.f0.length x.f0) {A1 : Option Addr} {c1 : Nat} (l1 : x.f1.length ≤ c1) (g1 : Kd.string.C w A1 x.f1.length x.f1) {A3 : Option Addr} {c3 : Nat} (l3 : x.f3.length ≤ c3) (g3 : k35.C w A3 x.f3.length x.f3) : k25.K w x [.slice A0 x.f0.length c0, .slice A1 x.f1.length c1, .int .i64 x.f2, .slice A3 x.f3.length c3] := ⟨[.slice A0 x.f0.length c0], [.slice A1 x.f1.length c1, .int .i64 x.f2, .slice A3 x.f3.length c3], rfl, ⟨A0, c0, rfl, l0, g0⟩, ⟨[.slice A1 x.f1.length c1], [.int .i64 x.f2, .slice A3 x.f3.length c3], rfl, ⟨A1, c1, rfl, l1, g1⟩, ⟨[.int .i64 x.f2], [.slice A3 x.f3.length c3], rfl, rfl, ⟨A3, c3, rfl, l3, g3⟩⟩⟩⟩
theorem k25_mkM [RdC] (w : World) (base : Nat) (ok : Nat → Prop) (x : S25) {v0 : Value} (g0 : Kd.string.R 9 w base ok v0 x.f0) {v1 : Value} (g1 : Kd.string.R 9 w base ok v1 x.f1) {v3 : Value} (g3 : k35.R 35 w base ok v3 x.f3) : k25.M w base ok x [v0, v1, .int .i64 x.f2, v3] := ⟨[v0], [v1, .int .i64 x.f2, v3], rfl, ⟨v0, rfl, g0⟩, ⟨[v1], [.int .i64 x.f2, v3], rfl, ⟨v1, rfl, g1⟩, ⟨[.int .i64 x.f2], [v3], rfl, rfl, ⟨v3, rfl, g3⟩⟩⟩⟩
noncomputable def rd_T25 [RdC] (xs : List S25) (i : Int) : S25 := xs.getD i.toNat z25
theorem at_T25 [RdC] {w : World} {A : Option Addr} {n : Nat} {xs : List S25} (h : Kd.C k25 w A n xs) (i : Int) (h0 : 0 ≤ i) (h1 : i < n) : ∃ ad A0 c0 A1 c1 A3 c3, A = some ad ∧ w.cell? (ad.add (i.toNat * 4)) = some (.slice A0 (rd_T25 xs i).f0.length c0) ∧ w.cell? ⟨(ad.add (i.toNat * 4)).block, (ad.add (i.toNat * 4)).off + 1, none⟩ = some (.slice A1 (rd_T25 xs i).f1.length c1) ∧ w.cell? ⟨(ad.add (i.toNat * 4)).block, (ad.add (i.toNat * 4)).off + 2, none⟩ = some (.int .i64 (rd_T25 xs i).f2) ∧ w.cell? ⟨(ad.add (i.toNat * 4)).block, (ad.add (i.toNat * 4)).off + 3, none⟩ = some (.slice A3 (rd_T25 xs i).f3.length c3) ∧ (rd_T25 xs i).f0.length ≤ c0 ∧ Kd.string.C w A0 (rd_T25 xs i).f0.length (rd_T25 xs i).f0 ∧ (rd_T25 xs i).f1.length ≤ c1 ∧ Kd.string.C w A1 (rd_T25 xs i).f1.length (rd_T25 xs i).f1 ∧ (rd_T25 xs i).f3.length ≤ c3 ∧ k35.C w A3 (rd_T25 xs i).f3.length (rd_T25 xs i).f3 := by
  obtain ⟨ad, c, e, _, hK, hc0⟩ := Kd.C_get h z25 i h0 h1
  have hc : ∀ j u, c[j]? = some u → w.cell? (ad.add (i.toNat * 4 + j)) = some u := hc0
  obtain ⟨A0, c0, A1, c1, A3, c3, rfl, l0, g0, l1, g1, l3, g3⟩ := k25_open hK
  exact ⟨ad, A0, c0, A1, c1, A3, c3, e, hc 0 _ rfl, by rw [← add_field _ _ 1 (by omega)]; exact hc 1 _ rfl, by rw [← add_field _ _ 2 (by omega)]; exact hc 2 _ rfl, by rw [← add_field _ _ 3 (by omega)]; exact hc 3 _ rfl, l0, g0, l1, g1, l3, g3⟩

end Go.Proofs.YteaiejippkikpaaDoor.Gl
