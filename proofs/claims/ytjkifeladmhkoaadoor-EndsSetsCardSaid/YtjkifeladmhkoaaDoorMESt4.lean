/- Texts of this claim, one behind the other. -/
import Derived.Test.YtjkifeladmhkoaaDoorMESt3
import Derived.Test.YtjkifeladmhkoaaDoorProg
import Derived.Below
import Derived.Deep.Draws
import Derived.Deep.AppendLies
import Derived.Maps.AppendAt
import Derived.OwnWalk
import Derived.Laws.BytesArg
import Derived.Laws.MakeOwn
import Derived.Laws.OwnMore
import Derived.Deep.OwnRows
import Derived.Tactics
import Derived.Lib.ConvBytes
import Derived.Laws.Slices
import Derived.WalkKit
import Derived.KernelRfl
import Derived.RowKit3
import Derived.Deep.LoopGhost
import Derived.Deep.QuietTactic
import Derived.BigQuiet
import Derived.WideLaws
import Derived.Deep.DeepCutAuto
import Derived.Deep.CutBlock
import Derived.Deep.RegionHeld3
import Derived.Laws.Rows
import Derived.Lib.AppendStr
import Derived.ArgAppend
import Derived.Laws.IdiomCopy
import Derived.OrdersHeld
import Derived.Laws.BitsLemmas
import Derived.RowKit
import Derived.Test.YtjkifeladmhkoaaDoorMESt1
namespace Go.Proofs.YtjkifeladmhkoaaDoor.Er
open Go.Proofs.YtjkifeladmhkoaaDoor.B (S41 z41 k41 k41_open k41_openM k41_mk k41_mkM rd_T41 at_T41 dovetailref03_Check.f dovetailref03_Check.calls dovetailref03_Check.mono)
open Go.Proofs.YtjkifeladmhkoaaDoor.E8 (dovetailref08_Shows.f dovetailref08_Shows.calls dovetailref08_Leads.f dovetailref08_Leads.calls)
open Go.RowKit Go.Proofs.YtjkifeladmhkoaaDoorW.PrintWords Go.Proofs.YtjkifeladmhkoaaDoorW.PrintLast Go.Proofs.YtjkifeladmhkoaaDoorW.PrintMore
attribute [local go_sem] max2_int min2_int max_two min_two max_three min_three max_four min_four   -- for this text's walks alone
set_option linter.unusedVariables false
set_option linter.unusedSimpArgs false

/-! ### dovetailref08_In: function 90 -/
mutual
def dovetailref08_In.l0 : Nat → Int → Bool → List Bool → List Int → Int → List ByteArray → List ByteArray → Int → List (S41) → Option (Bool)
 | 0, _, _, _, _, _, _, _, _, _ => none
 | k + 1, x2, x3, x9, x10, x11, x107000, x107001, x107002, x107003 => if x11 < (x10.length : Int) then (dovetailref08_In.l1 k x2 x3 x9 x10 x11 0 x107000 x107001 x107002 x107003) else (some false)
def dovetailref08_In.l1 : Nat → Int → Bool → List Bool → List Int → Int → Int → List ByteArray → List ByteArray → Int → List (S41) → Option (Bool)
 | 0, _, _, _, _, _, _, _, _, _, _ => none
 | k + 1, x2, x3, x9, x10, x11, x12, x107000, x107001, x107002, x107003 => if x12 < (x107003.length : Int) then (if 0 ≤ x12 then (if 0 ≤ x11 then (if x11 < (x10.length : Int) then (if ((rd_T41 x107003 x12).f0) = (rd x10 x11) then ((dovetailref08_Shows.f ((rd_T41 x107003 x12).f0) ((rd_T41 x107003 x12).f1) x2 x3).bind fun t117 => (if t117 = true then (some true) else ((dovetailref08_Leads.f ((rd_T41 x107003 x12).f0) ((rd_T41 x107003 x12).f1) x3).bind fun t119 => (if t119 ≥ 0 then (if 0 ≤ t119 then (if t119 < (x9.length : Int) then (if rdOf false x9 t119 = true then (dovetailref08_In.l1 k x2 x3 x9 x10 x11 (wrap64 (x12 + 1)) x107000 x107001 x107002 x107003) else (if x10.length < 17592186044416 then (dovetailref08_In.l1 k x2 x3 (x9.set (t119 : Int).toNat true) (x10 ++ [t119]) x11 (wrap64 (x12 + 1)) x107000 x107001 x107002 x107003) else (none))) else (none)) else (none)) else (dovetailref08_In.l1 k x2 x3 x9 x10 x11 (wrap64 (x12 + 1)) x107000 x107001 x107002 x107003))))) else (dovetailref08_In.l1 k x2 x3 x9 x10 x11 (wrap64 (x12 + 1)) x107000 x107001 x107002 x107003)) else (none)) else (none)) else (none)) else (dovetailref08_In.l0 k x2 x3 x9 x10 (wrap64 (x11 + 1)) x107000 x107001 x107002 x107003)
end
def dovetailref08_In.f (k : Nat) (l0_0 : List ByteArray) (l0_1 : List ByteArray) (a0_2 : Int) (l0_3 : List (S41)) (a1 : Int) (a2 : Int) (a3 : Bool) : Option (Bool) := if 0 ≤ (l0_1.length : Int) then (if ((l0_1.length : Int) : Int).toNat ≤ 281474976710656 then ((some (List.replicate ((l0_1.length : Int) : Int).toNat false : List Bool)).bind fun y107 => (if 0 ≤ a1 then (if a1 < (y107.length : Int) then (dovetailref08_In.l0 k a2 a3 (y107.set (a1 : Int).toNat true) (([a1] : List Int)) 0 l0_0 l0_1 a0_2 l0_3) else (none)) else (none))) else (none)) else (none)
theorem dovetailref08_In.mono_l : ∀ k, (∀ y0 y1 y2 y3 y4 y5 y6 y7 y8, LeO (dovetailref08_In.l0 k y0 y1 y2 y3 y4 y5 y6 y7 y8) (dovetailref08_In.l0 (k + 1) y0 y1 y2 y3 y4 y5 y6 y7 y8)) ∧ (∀ y0 y1 y2 y3 y4 y5 y6 y7 y8 y9, LeO (dovetailref08_In.l1 k y0 y1 y2 y3 y4 y5 y6 y7 y8 y9) (dovetailref08_In.l1 (k + 1) y0 y1 y2 y3 y4 y5 y6 y7 y8 y9))
 | 0 => ⟨fun _ _ _ _ _ _ _ _ _ r h => by simp [dovetailref08_In.l0] at h, fun _ _ _ _ _ _ _ _ _ _ r h => by simp [dovetailref08_In.l1] at h⟩
 | k + 1 => by
  obtain ⟨ih0, ih1⟩ := dovetailref08_In.mono_l k
  refine ⟨?_, ?_⟩
  · intro y0 y1 y2 y3 y4 y5 y6 y7 y8
    unfold dovetailref08_In.l0
    repeat' first
    | (with_reducible exact ih0 _ _ _ _ _ _ _ _ _)
    | (with_reducible exact ih1 _ _ _ _ _ _ _ _ _ _)
    | (with_reducible exact LeO.refl _)
    | (with_reducible exact LeO.none _)
    | (with_reducible refine LeO.ite ?_ ?_)
    | (with_reducible refine LeO.bind ?_ (fun _ => ?_))
    | exact ih0 _ _ _ _ _ _ _ _ _
    | exact ih1 _ _ _ _ _ _ _ _ _ _
    | exact LeO.none _
    | refine LeO.ite ?_ ?_
    | refine LeO.bind ?_ (fun _ => ?_)
  · intro y0 y1 y2 y3 y4 y5 y6 y7 y8 y9
    unfold dovetailref08_In.l1
    repeat' first
    | (with_reducible exact ih0 _ _ _ _ _ _ _ _ _)
    | (with_reducible exact ih1 _ _ _ _ _ _ _ _ _ _)
    | (with_reducible exact LeO.refl _)
    | (with_reducible exact LeO.none _)
    | (with_reducible refine LeO.ite ?_ ?_)
    | (with_reducible refine LeO.bind ?_ (fun _ => ?_))
    | exact ih0 _ _ _ _ _ _ _ _ _
    | exact ih1 _ _ _ _ _ _ _ _ _ _
    | exact LeO.none _
    | refine LeO.ite ?_ ?_
    | refine LeO.bind ?_ (fun _ => ?_)
theorem dovetailref08_In.mono : ∀ a0 a1 a2 a3 a4 a5 a6 k, LeO (dovetailref08_In.f k a0 a1 a2 a3 a4 a5 a6) (dovetailref08_In.f (k + 1) a0 a1 a2 a3 a4 a5 a6) := by
 intro a0 a1 a2 a3 a4 a5 a6 k
 obtain ⟨ih0, ih1⟩ := dovetailref08_In.mono_l k
 unfold dovetailref08_In.f
 repeat' first
  | (with_reducible exact ih0 _ _ _ _ _ _ _ _ _)
  | (with_reducible exact ih1 _ _ _ _ _ _ _ _ _ _)
  | (with_reducible exact LeO.refl _)
  | (with_reducible exact LeO.none _)
  | (with_reducible refine LeO.ite ?_ ?_)
  | (with_reducible refine LeO.bind ?_ (fun _ => ?_))
  | exact ih0 _ _ _ _ _ _ _ _ _
  | exact ih1 _ _ _ _ _ _ _ _ _ _
  | exact LeO.none _
  | refine LeO.ite ?_ ?_
  | refine LeO.bind ?_ (fun _ => ?_)
set_option maxHeartbeats 8000000 in
set_option maxRecDepth 100000 in
theorem dovetailref08_In.calls (k : Nat) (A0_0 : Option Addr) (c0_0 : Nat) (l0_0 : List ByteArray) (A0_1 : Option Addr) (c0_1 : Nat) (l0_1 : List ByteArray) (a0_2 : Int) (A0_3 : Option Addr) (c0_3 : Nat) (l0_3 : List (S41)) (a1 : Int) (a2 : Int) (a3 : Bool) (r : Bool) (w : World) (hr0_0 : Kd.C Kd.string w A0_0 l0_0.length l0_0) (hc0_0 : l0_0.length ≤ c0_0) (hr0_1 : Kd.C Kd.string w A0_1 l0_1.length l0_1) (hc0_1 : l0_1.length ≤ c0_1) (hr0_3 : Kd.C k41 w A0_3 l0_3.length l0_3) (hc0_3 : l0_3.length ≤ c0_3) (h : dovetailref08_In.f k l0_0 l0_1 a0_2 l0_3 a1 a2 a3 = some r) :
 Calls Tryd.prog 90 #[.agg #[.slice A0_0 l0_0.length c0_0, .slice A0_1 l0_1.length c0_1, .int .i64 a0_2, .slice A0_3 l0_3.length c0_3], .int .i64 a1, .int .i64 a2, .bool a3] w fun e w' => e = .returned (.bool r) ∧ Below w.heap.size w w' := by
 have hu32 := Tryd.underlying32
 have hu41 := Tryd.underlying41
 have HR0_0 := Aside0.mk hr0_0
 have HC0_0 := Aside0.mk hc0_0
 clear hr0_0 hc0_0
 have HR0_1 := Aside0.mk hr0_1
 have HC0_1 := Aside0.mk hc0_1
 clear hr0_1 hc0_1
 have HR0_3 := Aside0.mk hr0_3
 have HC0_3 := Aside0.mk hc0_3
 clear hr0_3 hc0_3
 have HB := Aside0.mk (Below.refl w.heap.size w)
 have H : (if 0 ≤ (l0_1.length : Int) then (if ((l0_1.length : Int) : Int).toNat ≤ 281474976710656 then ((some (List.replicate ((l0_1.length : Int) : Int).toNat false : List Bool)).bind fun y107 => (if 0 ≤ a1 then (if a1 < (y107.length : Int) then (dovetailref08_In.l0 k a2 a3 (y107.set (a1 : Int).toNat true) (([a1] : List Int)) 0 l0_0 l0_1 a0_2 l0_3) else (none)) else (none))) else (none)) else (none)) = some r := h
 clear h
 by_cases c5 : 0 ≤ (l0_1.length : Int)
 · rw [if_pos c5] at H
   have c5b0 := eq_true c5
   have c5b1 : decide (0 ≤ (l0_1.length : Int)) = true := decide_eq_true c5
   clear c5
   by_cases c6 : ((l0_1.length : Int) : Int).toNat ≤ 281474976710656
   · rw [if_pos c6] at H
     have c6b0 := eq_true c6
     have c6b1 : decide (((l0_1.length : Int) : Int).toNat ≤ 281474976710656) = true := decide_eq_true c6
     clear c6
     obtain ⟨y107, hy107⟩ : ∃ y_ : List Bool, y_ = (List.replicate ((l0_1.length : Int) : Int).toNat false) := ⟨_, rfl⟩
     replace H : (if 0 ≤ a1 then (if a1 < (y107.length : Int) then (dovetailref08_In.l0 k a2 a3 (y107.set (a1 : Int).toNat true) (([a1] : List Int)) 0 l0_0 l0_1 a0_2 l0_3) else (none)) else (none)) = some r := by first | (rw [hy107]; with_reducible exact H) | (have H2_ := (Option.bind_some _ _).symm.trans H; rw [hy107]; with_reducible exact H2_) | (have H2_ := (Option.bind_some _ _).symm.trans H; with_reducible exact H2_) | with_reducible exact H | (rw [hy107]; exact H) | exact H
     have Ny107 := Aside0.mk hy107
     clear hy107
     by_cases c7 : 0 ≤ a1
     · rw [if_pos c7] at H
       have c7b0 : decide (0 ≤ a1) = true := decide_eq_true c7
       clear c7
       by_cases c8 : a1 < (y107.length : Int)
       · rw [if_pos c8] at H
         have c8b0 : decide (a1 < (y107.length : Int)) = true := decide_eq_true c8
         clear c8
         obtain ⟨y110, hy110⟩ : ∃ y_ : List Bool, y_ = (y107.set (a1 : Int).toNat true) := ⟨_, rfl⟩
         replace H : (dovetailref08_In.l0 k a2 a3 y110 (([a1] : List Int)) 0 l0_0 l0_1 a0_2 l0_3) = some r := by first | (rw [hy110]; with_reducible exact H) | (have H2_ := (Option.bind_some _ _).symm.trans H; rw [hy110]; with_reducible exact H2_) | (have H2_ := (Option.bind_some _ _).symm.trans H; with_reducible exact H2_) | with_reducible exact H | (rw [hy110]; exact H) | exact H
         have Ny110 := Aside0.mk hy110
         clear hy110
         obtain ⟨y111, hy111⟩ : ∃ y_ : List Int, y_ = (([a1] : List Int)) := ⟨_, rfl⟩
         replace H : (dovetailref08_In.l0 k a2 a3 y110 y111 0 l0_0 l0_1 a0_2 l0_3) = some r := by first | (rw [hy111]; with_reducible exact H) | (have H2_ := (Option.bind_some _ _).symm.trans H; rw [hy111]; with_reducible exact H2_) | (have H2_ := (Option.bind_some _ _).symm.trans H; with_reducible exact H2_) | with_reducible exact H | (rw [hy111]; exact H) | exact H
         have Ny111 := Aside0.mk hy111
         clear hy111
         have H' := Aside0.mk H
         clear H
         go_enter Tryd.func90, Tryd.ntmps90
         go_wp2_with (first | ((with_reducible refine gate_dst (N := 4) rfl ?_); refine box_event ?hg (N := 4) ?hd (cs := #[.slice A0_0 l0_0.length c0_0, .slice A0_1 l0_1.length c0_1, .int .i64 a0_2, .slice A0_3 l0_3.length c0_3]) (t := 32) ?hr ?_; (case hd => rfl); (case hg => rfl); (case hr => first | (go_simp; done) | (go_simp; rfl)); intro gb106 hg w10 hbox hb; have n0_ := Aside0.mk (below_step (by repeat (first | (with_reducible first | exact HB.out | apply below_alloc | apply pw_below_drewN | apply below_drew1) | exact HB.out)) hb); have n1_ := Aside0.mk (hbox); have n2_ := Aside0.mk ((by rw [hg]; exact (below_size (by repeat (first | (with_reducible first | exact HB.out | apply below_alloc | apply pw_below_drewN | apply below_drew1) | exact HB.out))) : w.heap.size ≤ gb106)); have n3_ := Aside0.mk ((by rw [hg]; exact (below_size (by repeat (first | (with_reducible first | exact HB.out | apply below_alloc | apply pw_below_drewN | apply below_drew1) | exact HB.out))) : w.heap.size ≤ gb106)); clear HB; have HB := n0_; have BK106 := n1_; have GW106 := n2_; have GE106 := n3_; clear n0_ n1_ n2_ n3_; clear hb hbox hg; have hcz11_0 : w10.cell? ⟨gb106, 0, none⟩ = some (.slice A0_0 l0_0.length c0_0) := (blk_cell BK106.out 0).trans rfl; have hcz11_1 : w10.cell? ⟨gb106, 1, none⟩ = some (.slice A0_1 l0_1.length c0_1) := (blk_cell BK106.out 1).trans rfl; have hcz11_2 : w10.cell? ⟨gb106, 2, none⟩ = some (.int .i64 a0_2) := (blk_cell BK106.out 2).trans rfl; have hcz11_3 : w10.cell? ⟨gb106, 3, none⟩ = some (.slice A0_3 l0_3.length c0_3) := (blk_cell BK106.out 3).trans rfl; have hfz11_0 := blk_frozen BK106.out 0; have hfz11_1 := blk_frozen BK106.out 1; have hfz11_2 := blk_frozen BK106.out 2; have hfz11_3 := blk_frozen BK106.out 3) | ((with_reducible refine gate_dst (N := 17) rfl ?_); refine Kd.R_make Kd.bool _ 4 rfl (N := 17) rfl 126 _ _ rfl (l0_1.length : Int) rfl rfl Tryd.underlying126 (.bool false) 1 info4 rfl (by decide) (by omega) false (ok := fun _ => True) (okp := fun _ => True) rfl (fun _ hk => hk) trivial (of_decide_eq_true (by first | (with_reducible assumption) | assumption)) (Nat.le_trans (Nat.mul_le_mul_right _ (of_decide_eq_true (by first | (with_reducible assumption) | assumption) : (l0_1.length : Int).toNat ≤ 281474976710656)) (by omega)) (Below.refl _ _) (Nat.le_refl _) ?_; intro v108 w12 ho13 hb hg_ hnew_; clear hg_ hnew_; (first | rw [← Ny107.out] at ho13 | (simp only [Int.reduceToNat] at ho13; rw [← Ny107.out] at ho13)); have n0_ := Aside0.mk (Kd.R_lower ho13 (below_size (by repeat (first | (with_reducible first | exact HB.out | apply below_alloc | apply pw_below_drewN | apply below_drew1 | refine below_set ?_ GE106.out) | exact HB.out)))); have n1_ := Aside0.mk (blk_below (g := gb106) (o := .cells #[.slice A0_0 l0_0.length c0_0, .slice A0_1 l0_1.length c0_1, .int .i64 a0_2, .slice A0_3 l0_3.length c0_3] 32 (0, 0)) (by (with_reducible repeat (first | refine blk_drewN ?_ _ | refine blk_drew ?_ | refine blk_alloc ?_ _)); exact BK106.out) hb); have n2_ := Aside0.mk (below_step (by repeat (first | (with_reducible first | exact HB.out | apply below_alloc | apply pw_below_drewN | apply below_drew1 | refine below_set ?_ GE106.out) | exact HB.out)) hb); clear BK106; clear HB; have HO109 := n0_; have BK106 := n1_; have HB := n2_; clear n0_ n1_ n2_; clear hb ho13; have p9 : 0 ≤ (a1 : Int) := of_decide_eq_true (by first | (with_reducible assumption) | assumption); have q9 : (a1 : Int) < ((y107.length : Int) : Int) := of_decide_eq_true (by first | (with_reducible assumption) | assumption); obtain ⟨go9, co9, eo9, gb9, gl9, cl9, HG9⟩ := Kd.R_form HO109.out (by omega); (first | cases eo9 | (injection eo9 with ea_ en_ ec_; (first | subst ea_ | (injection ea_ with ea_; subst ea_)); subst ec_; clear en_)); have GB9 := Aside0.mk gb9; have GG9 := Aside0.mk HG9; clear gb9 gl9 HG9; obtain ⟨hx9_0, hf9_0⟩ := Kd.R_celln false HO109.out (a1 : Int) p9 q9; replace p9 := eq_true p9; replace q9 := eq_true q9; obtain ⟨hy14_, hz14_⟩ := Kd.R_celln false HO109.out (a1 : Int) (of_decide_eq_true (by first | (with_reducible assumption) | assumption)) (of_decide_eq_true (by first | (with_reducible assumption) | assumption)); have HP14 := Kd.R_putg HO109.out (a1 : Int) true) | ((with_reducible refine gate_store (t := 4) (p := 20) rfl ?_); (try (rw [drewN_self w12]; generalize hq_ : World.drewN w12 _ = w12; have n0_ := Aside0.mk (Kd.R_at hq_ HO109.out); have n1_ := Aside0.mk (blk_at hq_ BK106.out); have n2_ := Aside0.mk (below_at hq_ HB.out); clear hq_ HO109 BK106 HB; have HO109 := n0_; have BK106 := n1_; have HB := n2_; clear n0_ n1_ n2_; (try (obtain ⟨hy14_, hz14_⟩ := Kd.R_celln false HO109.out (a1 : Int) (of_decide_eq_true (by first | (with_reducible assumption) | assumption)) (of_decide_eq_true (by first | (with_reducible assumption) | assumption)))); (try (have HP14 := Kd.R_putg HO109.out (a1 : Int) true)))); refine store_event (t := 4) (p := 20) (v := ?vo_w15) (w1 := (w12.setCell ⟨go9, (a1 : Int).toNat, none⟩ (.bool true))) ?hg ?ho ?hn ?hr ?_; (case ho => rfl); (case hg => rfl); (case hn => rfl); (case hr => first | (go_simp; done) | (go_simp; rfl)); intro w15 hw; have hg : w12.grownBy w15 (some go9) := (by rw [hw]; exact HP14.2); have hp_ : Kd.R Kd.bool 4 w15 w.heap.size (fun _ => True) (.slice (some ⟨go9, 0, none⟩) y107.length co9) y110 := (by rw [hw, Ny110.out]; exact HP14.1); clear HP14; have n0_ := Aside0.mk (blk_grown (g := gb106) (o := .cells #[.slice A0_0 l0_0.length c0_0, .slice A0_1 l0_1.length c0_1, .int .i64 a0_2, .slice A0_3 l0_3.length c0_3] 32 (0, 0)) (by (with_reducible repeat (first | refine blk_drewN ?_ _ | refine blk_drew ?_ | refine blk_alloc ?_ _)); exact BK106.out) hg (Kd.R_ne HO109.out BK106.out (by decide))); have n1_ := Aside0.mk (hp_); have n2_ := Aside0.mk ((by rw [hw]; exact below_set (HB.out) GB9.out : Below w.heap.size w w15)); clear BK106; clear HO109; clear HB; have BK106 := n0_; have HO109 := n1_; have HB := n2_; clear n0_ n1_ n2_; clear hg hw hp_) | ((with_reducible refine gate_dst (N := 22) rfl ?_); refine Kd.R_lit (Kd.int .i64) _ 3 ?hg (N := 22) ?hd (xs := ([a1] : List Int)) (inner := [.int .i64 a1]) (ok := fun _ => True) (okp := fun _ => True) ?hr ?hp (fun _ hk => hk) trivial (Below.refl _ _) (Nat.le_refl _) (by simp) ?_; (case hd => rfl); (case hg => rfl); (case hr => first | (go_simp; done) | (go_simp; rfl)); (case hp => exact (Reps.one (show Kd.M (Kd.int .i64) _ _ _ a1 [.int .i64 a1] from rfl) (Reps.none _ _))); intro v112 w16 ho17 hb hg_ hnew_; clear hg_ hnew_; (first | rw [← Ny111.out] at ho17 | (simp only [Int.reduceToNat] at ho17; rw [← Ny111.out] at ho17)); have n0_ := Aside0.mk (Kd.R_below (by (with_reducible repeat (first | apply Kd.R_alloc | apply Kd.R_drewN | apply Kd.R_drew)); exact HO109.out) hb); have n1_ := Aside0.mk (Kd.R_lower ho17 (below_size (by repeat (first | (with_reducible first | exact HB.out | apply below_alloc | apply pw_below_drewN | apply below_drew1 | refine below_set ?_ GE106.out) | exact HB.out)))); have n2_ := Aside0.mk (blk_below (g := gb106) (o := .cells #[.slice A0_0 l0_0.length c0_0, .slice A0_1 l0_1.length c0_1, .int .i64 a0_2, .slice A0_3 l0_3.length c0_3] 32 (0, 0)) (by (with_reducible repeat (first | refine blk_drewN ?_ _ | refine blk_drew ?_ | refine blk_alloc ?_ _)); exact BK106.out) hb); have n3_ := Aside0.mk (below_step (by repeat (first | (with_reducible first | exact HB.out | apply below_alloc | apply pw_below_drewN | apply below_drew1 | refine below_set ?_ GE106.out) | exact HB.out)) hb); clear HO109; clear BK106; clear HB; have HO109 := n0_; have HO113 := n1_; have BK106 := n2_; have HB := n3_; clear n0_ n1_ n2_ n3_; clear hb ho17))
         repeat (go_quiet (first | ((with_reducible refine gate_dst (N := 4) rfl ?_); refine box_event ?hg (N := 4) ?hd (cs := #[.slice A0_0 l0_0.length c0_0, .slice A0_1 l0_1.length c0_1, .int .i64 a0_2, .slice A0_3 l0_3.length c0_3]) (t := 32) ?hr ?_; (case hd => rfl); (case hg => rfl); (case hr => first | (go_simp; done) | (go_simp; rfl)); intro gb106 hg w10 hbox hb; have n0_ := Aside0.mk (below_step (by repeat (first | (with_reducible first | exact HB.out | apply below_alloc | apply pw_below_drewN | apply below_drew1) | exact HB.out)) hb); have n1_ := Aside0.mk (hbox); have n2_ := Aside0.mk ((by rw [hg]; exact (below_size (by repeat (first | (with_reducible first | exact HB.out | apply below_alloc | apply pw_below_drewN | apply below_drew1) | exact HB.out))) : w.heap.size ≤ gb106)); have n3_ := Aside0.mk ((by rw [hg]; exact (below_size (by repeat (first | (with_reducible first | exact HB.out | apply below_alloc | apply pw_below_drewN | apply below_drew1) | exact HB.out))) : w.heap.size ≤ gb106)); clear HB; have HB := n0_; have BK106 := n1_; have GW106 := n2_; have GE106 := n3_; clear n0_ n1_ n2_ n3_; clear hb hbox hg; have hcz11_0 : w10.cell? ⟨gb106, 0, none⟩ = some (.slice A0_0 l0_0.length c0_0) := (blk_cell BK106.out 0).trans rfl; have hcz11_1 : w10.cell? ⟨gb106, 1, none⟩ = some (.slice A0_1 l0_1.length c0_1) := (blk_cell BK106.out 1).trans rfl; have hcz11_2 : w10.cell? ⟨gb106, 2, none⟩ = some (.int .i64 a0_2) := (blk_cell BK106.out 2).trans rfl; have hcz11_3 : w10.cell? ⟨gb106, 3, none⟩ = some (.slice A0_3 l0_3.length c0_3) := (blk_cell BK106.out 3).trans rfl; have hfz11_0 := blk_frozen BK106.out 0; have hfz11_1 := blk_frozen BK106.out 1; have hfz11_2 := blk_frozen BK106.out 2; have hfz11_3 := blk_frozen BK106.out 3) | ((with_reducible refine gate_dst (N := 17) rfl ?_); refine Kd.R_make Kd.bool _ 4 rfl (N := 17) rfl 126 _ _ rfl (l0_1.length : Int) rfl rfl Tryd.underlying126 (.bool false) 1 info4 rfl (by decide) (by omega) false (ok := fun _ => True) (okp := fun _ => True) rfl (fun _ hk => hk) trivial (of_decide_eq_true (by first | (with_reducible assumption) | assumption)) (Nat.le_trans (Nat.mul_le_mul_right _ (of_decide_eq_true (by first | (with_reducible assumption) | assumption) : (l0_1.length : Int).toNat ≤ 281474976710656)) (by omega)) (Below.refl _ _) (Nat.le_refl _) ?_; intro v108 w12 ho13 hb hg_ hnew_; clear hg_ hnew_; (first | rw [← Ny107.out] at ho13 | (simp only [Int.reduceToNat] at ho13; rw [← Ny107.out] at ho13)); have n0_ := Aside0.mk (Kd.R_lower ho13 (below_size (by repeat (first | (with_reducible first | exact HB.out | apply below_alloc | apply pw_below_drewN | apply below_drew1 | refine below_set ?_ GE106.out) | exact HB.out)))); have n1_ := Aside0.mk (blk_below (g := gb106) (o := .cells #[.slice A0_0 l0_0.length c0_0, .slice A0_1 l0_1.length c0_1, .int .i64 a0_2, .slice A0_3 l0_3.length c0_3] 32 (0, 0)) (by (with_reducible repeat (first | refine blk_drewN ?_ _ | refine blk_drew ?_ | refine blk_alloc ?_ _)); exact BK106.out) hb); have n2_ := Aside0.mk (below_step (by repeat (first | (with_reducible first | exact HB.out | apply below_alloc | apply pw_below_drewN | apply below_drew1 | refine below_set ?_ GE106.out) | exact HB.out)) hb); clear BK106; clear HB; have HO109 := n0_; have BK106 := n1_; have HB := n2_; clear n0_ n1_ n2_; clear hb ho13; have p9 : 0 ≤ (a1 : Int) := of_decide_eq_true (by first | (with_reducible assumption) | assumption); have q9 : (a1 : Int) < ((y107.length : Int) : Int) := of_decide_eq_true (by first | (with_reducible assumption) | assumption); obtain ⟨go9, co9, eo9, gb9, gl9, cl9, HG9⟩ := Kd.R_form HO109.out (by omega); (first | cases eo9 | (injection eo9 with ea_ en_ ec_; (first | subst ea_ | (injection ea_ with ea_; subst ea_)); subst ec_; clear en_)); have GB9 := Aside0.mk gb9; have GG9 := Aside0.mk HG9; clear gb9 gl9 HG9; obtain ⟨hx9_0, hf9_0⟩ := Kd.R_celln false HO109.out (a1 : Int) p9 q9; replace p9 := eq_true p9; replace q9 := eq_true q9; obtain ⟨hy14_, hz14_⟩ := Kd.R_celln false HO109.out (a1 : Int) (of_decide_eq_true (by first | (with_reducible assumption) | assumption)) (of_decide_eq_true (by first | (with_reducible assumption) | assumption)); have HP14 := Kd.R_putg HO109.out (a1 : Int) true) | ((with_reducible refine gate_store (t := 4) (p := 20) rfl ?_); (try (rw [drewN_self w12]; generalize hq_ : World.drewN w12 _ = w12; have n0_ := Aside0.mk (Kd.R_at hq_ HO109.out); have n1_ := Aside0.mk (blk_at hq_ BK106.out); have n2_ := Aside0.mk (below_at hq_ HB.out); clear hq_ HO109 BK106 HB; have HO109 := n0_; have BK106 := n1_; have HB := n2_; clear n0_ n1_ n2_; (try (obtain ⟨hy14_, hz14_⟩ := Kd.R_celln false HO109.out (a1 : Int) (of_decide_eq_true (by first | (with_reducible assumption) | assumption)) (of_decide_eq_true (by first | (with_reducible assumption) | assumption)))); (try (have HP14 := Kd.R_putg HO109.out (a1 : Int) true)))); refine store_event (t := 4) (p := 20) (v := ?vo_w15) (w1 := (w12.setCell ⟨go9, (a1 : Int).toNat, none⟩ (.bool true))) ?hg ?ho ?hn ?hr ?_; (case ho => rfl); (case hg => rfl); (case hn => rfl); (case hr => first | (go_simp; done) | (go_simp; rfl)); intro w15 hw; have hg : w12.grownBy w15 (some go9) := (by rw [hw]; exact HP14.2); have hp_ : Kd.R Kd.bool 4 w15 w.heap.size (fun _ => True) (.slice (some ⟨go9, 0, none⟩) y107.length co9) y110 := (by rw [hw, Ny110.out]; exact HP14.1); clear HP14; have n0_ := Aside0.mk (blk_grown (g := gb106) (o := .cells #[.slice A0_0 l0_0.length c0_0, .slice A0_1 l0_1.length c0_1, .int .i64 a0_2, .slice A0_3 l0_3.length c0_3] 32 (0, 0)) (by (with_reducible repeat (first | refine blk_drewN ?_ _ | refine blk_drew ?_ | refine blk_alloc ?_ _)); exact BK106.out) hg (Kd.R_ne HO109.out BK106.out (by decide))); have n1_ := Aside0.mk (hp_); have n2_ := Aside0.mk ((by rw [hw]; exact below_set (HB.out) GB9.out : Below w.heap.size w w15)); clear BK106; clear HO109; clear HB; have BK106 := n0_; have HO109 := n1_; have HB := n2_; clear n0_ n1_ n2_; clear hg hw hp_) | ((with_reducible refine gate_dst (N := 22) rfl ?_); refine Kd.R_lit (Kd.int .i64) _ 3 ?hg (N := 22) ?hd (xs := ([a1] : List Int)) (inner := [.int .i64 a1]) (ok := fun _ => True) (okp := fun _ => True) ?hr ?hp (fun _ hk => hk) trivial (Below.refl _ _) (Nat.le_refl _) (by simp) ?_; (case hd => rfl); (case hg => rfl); (case hr => first | (go_simp; done) | (go_simp; rfl)); (case hp => exact (Reps.one (show Kd.M (Kd.int .i64) _ _ _ a1 [.int .i64 a1] from rfl) (Reps.none _ _))); intro v112 w16 ho17 hb hg_ hnew_; clear hg_ hnew_; (first | rw [← Ny111.out] at ho17 | (simp only [Int.reduceToNat] at ho17; rw [← Ny111.out] at ho17)); have n0_ := Aside0.mk (Kd.R_below (by (with_reducible repeat (first | apply Kd.R_alloc | apply Kd.R_drewN | apply Kd.R_drew)); exact HO109.out) hb); have n1_ := Aside0.mk (Kd.R_lower ho17 (below_size (by repeat (first | (with_reducible first | exact HB.out | apply below_alloc | apply pw_below_drewN | apply below_drew1 | refine below_set ?_ GE106.out) | exact HB.out)))); have n2_ := Aside0.mk (blk_below (g := gb106) (o := .cells #[.slice A0_0 l0_0.length c0_0, .slice A0_1 l0_1.length c0_1, .int .i64 a0_2, .slice A0_3 l0_3.length c0_3] 32 (0, 0)) (by (with_reducible repeat (first | refine blk_drewN ?_ _ | refine blk_drew ?_ | refine blk_alloc ?_ _)); exact BK106.out) hb); have n3_ := Aside0.mk (below_step (by repeat (first | (with_reducible first | exact HB.out | apply below_alloc | apply pw_below_drewN | apply below_drew1 | refine below_set ?_ GE106.out) | exact HB.out)) hb); clear HO109; clear BK106; clear HB; have HO109 := n0_; have HO113 := n1_; have BK106 := n2_; have HB := n3_; clear n0_ n1_ n2_ n3_; clear hb ho17)); try go_wp2_with (first | ((with_reducible refine gate_dst (N := 4) rfl ?_); refine box_event ?hg (N := 4) ?hd (cs := #[.slice A0_0 l0_0.length c0_0, .slice A0_1 l0_1.length c0_1, .int .i64 a0_2, .slice A0_3 l0_3.length c0_3]) (t := 32) ?hr ?_; (case hd => rfl); (case hg => rfl); (case hr => first | (go_simp; done) | (go_simp; rfl)); intro gb106 hg w10 hbox hb; have n0_ := Aside0.mk (below_step (by repeat (first | (with_reducible first | exact HB.out | apply below_alloc | apply pw_below_drewN | apply below_drew1) | exact HB.out)) hb); have n1_ := Aside0.mk (hbox); have n2_ := Aside0.mk ((by rw [hg]; exact (below_size (by repeat (first | (with_reducible first | exact HB.out | apply below_alloc | apply pw_below_drewN | apply below_drew1) | exact HB.out))) : w.heap.size ≤ gb106)); have n3_ := Aside0.mk ((by rw [hg]; exact (below_size (by repeat (first | (with_reducible first | exact HB.out | apply below_alloc | apply pw_below_drewN | apply below_drew1) | exact HB.out))) : w.heap.size ≤ gb106)); clear HB; have HB := n0_; have BK106 := n1_; have GW106 := n2_; have GE106 := n3_; clear n0_ n1_ n2_ n3_; clear hb hbox hg; have hcz11_0 : w10.cell? ⟨gb106, 0, none⟩ = some (.slice A0_0 l0_0.length c0_0) := (blk_cell BK106.out 0).trans rfl; have hcz11_1 : w10.cell? ⟨gb106, 1, none⟩ = some (.slice A0_1 l0_1.length c0_1) := (blk_cell BK106.out 1).trans rfl; have hcz11_2 : w10.cell? ⟨gb106, 2, none⟩ = some (.int .i64 a0_2) := (blk_cell BK106.out 2).trans rfl; have hcz11_3 : w10.cell? ⟨gb106, 3, none⟩ = some (.slice A0_3 l0_3.length c0_3) := (blk_cell BK106.out 3).trans rfl; have hfz11_0 := blk_frozen BK106.out 0; have hfz11_1 := blk_frozen BK106.out 1; have hfz11_2 := blk_frozen BK106.out 2; have hfz11_3 := blk_frozen BK106.out 3) | ((with_reducible refine gate_dst (N := 17) rfl ?_); refine Kd.R_make Kd.bool _ 4 rfl (N := 17) rfl 126 _ _ rfl (l0_1.length : Int) rfl rfl Tryd.underlying126 (.bool false) 1 info4 rfl (by decide) (by omega) false (ok := fun _ => True) (okp := fun _ => True) rfl (fun _ hk => hk) trivial (of_decide_eq_true (by first | (with_reducible assumption) | assumption)) (Nat.le_trans (Nat.mul_le_mul_right _ (of_decide_eq_true (by first | (with_reducible assumption) | assumption) : (l0_1.length : Int).toNat ≤ 281474976710656)) (by omega)) (Below.refl _ _) (Nat.le_refl _) ?_; intro v108 w12 ho13 hb hg_ hnew_; clear hg_ hnew_; (first | rw [← Ny107.out] at ho13 | (simp only [Int.reduceToNat] at ho13; rw [← Ny107.out] at ho13)); have n0_ := Aside0.mk (Kd.R_lower ho13 (below_size (by repeat (first | (with_reducible first | exact HB.out | apply below_alloc | apply pw_below_drewN | apply below_drew1 | refine below_set ?_ GE106.out) | exact HB.out)))); have n1_ := Aside0.mk (blk_below (g := gb106) (o := .cells #[.slice A0_0 l0_0.length c0_0, .slice A0_1 l0_1.length c0_1, .int .i64 a0_2, .slice A0_3 l0_3.length c0_3] 32 (0, 0)) (by (with_reducible repeat (first | refine blk_drewN ?_ _ | refine blk_drew ?_ | refine blk_alloc ?_ _)); exact BK106.out) hb); have n2_ := Aside0.mk (below_step (by repeat (first | (with_reducible first | exact HB.out | apply below_alloc | apply pw_below_drewN | apply below_drew1 | refine below_set ?_ GE106.out) | exact HB.out)) hb); clear BK106; clear HB; have HO109 := n0_; have BK106 := n1_; have HB := n2_; clear n0_ n1_ n2_; clear hb ho13; have p9 : 0 ≤ (a1 : Int) := of_decide_eq_true (by first | (with_reducible assumption) | assumption); have q9 : (a1 : Int) < ((y107.length : Int) : Int) := of_decide_eq_true (by first | (with_reducible assumption) | assumption); obtain ⟨go9, co9, eo9, gb9, gl9, cl9, HG9⟩ := Kd.R_form HO109.out (by omega); (first | cases eo9 | (injection eo9 with ea_ en_ ec_; (first | subst ea_ | (injection ea_ with ea_; subst ea_)); subst ec_; clear en_)); have GB9 := Aside0.mk gb9; have GG9 := Aside0.mk HG9; clear gb9 gl9 HG9; obtain ⟨hx9_0, hf9_0⟩ := Kd.R_celln false HO109.out (a1 : Int) p9 q9; replace p9 := eq_true p9; replace q9 := eq_true q9; obtain ⟨hy14_, hz14_⟩ := Kd.R_celln false HO109.out (a1 : Int) (of_decide_eq_true (by first | (with_reducible assumption) | assumption)) (of_decide_eq_true (by first | (with_reducible assumption) | assumption)); have HP14 := Kd.R_putg HO109.out (a1 : Int) true) | ((with_reducible refine gate_store (t := 4) (p := 20) rfl ?_); (try (rw [drewN_self w12]; generalize hq_ : World.drewN w12 _ = w12; have n0_ := Aside0.mk (Kd.R_at hq_ HO109.out); have n1_ := Aside0.mk (blk_at hq_ BK106.out); have n2_ := Aside0.mk (below_at hq_ HB.out); clear hq_ HO109 BK106 HB; have HO109 := n0_; have BK106 := n1_; have HB := n2_; clear n0_ n1_ n2_; (try (obtain ⟨hy14_, hz14_⟩ := Kd.R_celln false HO109.out (a1 : Int) (of_decide_eq_true (by first | (with_reducible assumption) | assumption)) (of_decide_eq_true (by first | (with_reducible assumption) | assumption)))); (try (have HP14 := Kd.R_putg HO109.out (a1 : Int) true)))); refine store_event (t := 4) (p := 20) (v := ?vo_w15) (w1 := (w12.setCell ⟨go9, (a1 : Int).toNat, none⟩ (.bool true))) ?hg ?ho ?hn ?hr ?_; (case ho => rfl); (case hg => rfl); (case hn => rfl); (case hr => first | (go_simp; done) | (go_simp; rfl)); intro w15 hw; have hg : w12.grownBy w15 (some go9) := (by rw [hw]; exact HP14.2); have hp_ : Kd.R Kd.bool 4 w15 w.heap.size (fun _ => True) (.slice (some ⟨go9, 0, none⟩) y107.length co9) y110 := (by rw [hw, Ny110.out]; exact HP14.1); clear HP14; have n0_ := Aside0.mk (blk_grown (g := gb106) (o := .cells #[.slice A0_0 l0_0.length c0_0, .slice A0_1 l0_1.length c0_1, .int .i64 a0_2, .slice A0_3 l0_3.length c0_3] 32 (0, 0)) (by (with_reducible repeat (first | refine blk_drewN ?_ _ | refine blk_drew ?_ | refine blk_alloc ?_ _)); exact BK106.out) hg (Kd.R_ne HO109.out BK106.out (by decide))); have n1_ := Aside0.mk (hp_); have n2_ := Aside0.mk ((by rw [hw]; exact below_set (HB.out) GB9.out : Below w.heap.size w w15)); clear BK106; clear HO109; clear HB; have BK106 := n0_; have HO109 := n1_; have HB := n2_; clear n0_ n1_ n2_; clear hg hw hp_) | ((with_reducible refine gate_dst (N := 22) rfl ?_); refine Kd.R_lit (Kd.int .i64) _ 3 ?hg (N := 22) ?hd (xs := ([a1] : List Int)) (inner := [.int .i64 a1]) (ok := fun _ => True) (okp := fun _ => True) ?hr ?hp (fun _ hk => hk) trivial (Below.refl _ _) (Nat.le_refl _) (by simp) ?_; (case hd => rfl); (case hg => rfl); (case hr => first | (go_simp; done) | (go_simp; rfl)); (case hp => exact (Reps.one (show Kd.M (Kd.int .i64) _ _ _ a1 [.int .i64 a1] from rfl) (Reps.none _ _))); intro v112 w16 ho17 hb hg_ hnew_; clear hg_ hnew_; (first | rw [← Ny111.out] at ho17 | (simp only [Int.reduceToNat] at ho17; rw [← Ny111.out] at ho17)); have n0_ := Aside0.mk (Kd.R_below (by (with_reducible repeat (first | apply Kd.R_alloc | apply Kd.R_drewN | apply Kd.R_drew)); exact HO109.out) hb); have n1_ := Aside0.mk (Kd.R_lower ho17 (below_size (by repeat (first | (with_reducible first | exact HB.out | apply below_alloc | apply pw_below_drewN | apply below_drew1 | refine below_set ?_ GE106.out) | exact HB.out)))); have n2_ := Aside0.mk (blk_below (g := gb106) (o := .cells #[.slice A0_0 l0_0.length c0_0, .slice A0_1 l0_1.length c0_1, .int .i64 a0_2, .slice A0_3 l0_3.length c0_3] 32 (0, 0)) (by (with_reducible repeat (first | refine blk_drewN ?_ _ | refine blk_drew ?_ | refine blk_alloc ?_ _)); exact BK106.out) hb); have n3_ := Aside0.mk (below_step (by repeat (first | (with_reducible first | exact HB.out | apply below_alloc | apply pw_below_drewN | apply below_drew1 | refine below_set ?_ GE106.out) | exact HB.out)) hb); clear HO109; clear BK106; clear HB; have HO109 := n0_; have HO113 := n1_; have BK106 := n2_; have HB := n3_; clear n0_ n1_ n2_ n3_; clear hb ho17)))
         go_loopg [10, 11] k (fun kq v10 v11 w' => ∃ (x9_1 : List Bool) (x10_1 : List Int) (x11_1 : Int), v11 = .int .i64 x11_1 ∧ Aside0 (dovetailref08_In.l0 kq a2 a3 x9_1 x10_1 x11_1 l0_0 l0_1 a0_2 l0_3 = some r) ∧ Aside0 (kq ≤ k) ∧ Aside0 (Kd.R Kd.bool 4 w' w.heap.size (fun _ => True) (.slice (some ⟨go9, 0, none⟩) y107.length co9) x9_1) ∧ Aside0 (Kd.R (Kd.int .i64) 3 w' w.heap.size (fun _ => True) v10 x10_1) ∧ Aside0 (w'.heap[gb106]? = some (.cells #[(.slice A0_0 l0_0.length c0_0), (.slice A0_1 l0_1.length c0_1), .int .i64 a0_2, (.slice A0_3 l0_3.length c0_3)] 32 (0, 0))) ∧ Aside0 (Below w.heap.size w w'))
         case atStart => exact ⟨(y110), (y111), (0), (by first | rfl | (simp; done) | (simp [*]; done)), H', ⟨Nat.le_refl _⟩, ⟨by (with_reducible repeat (first | apply Kd.R_alloc | apply Kd.R_drewN | apply Kd.R_drew)); exact HO109.out⟩, ⟨by (with_reducible repeat (first | apply Kd.R_alloc | apply Kd.R_drewN | apply Kd.R_drew)); exact HO113.out⟩, ⟨by (with_reducible repeat (first | refine blk_drewN ?_ _ | refine blk_drew ?_ | refine blk_alloc ?_ _)); exact BK106.out⟩, ⟨by repeat (first | (with_reducible first | exact HB.out | apply below_alloc | apply pw_below_drewN | apply below_drew1 | refine below_set ?_ GE106.out) | exact HB.out)⟩⟩
         case round =>
          clear H'
          try clear p2
          try clear c5
          try clear c5b0
          try clear c5b1
          try clear c6
          try clear c6b0
          try clear c6b1
          try clear c7
          try clear c7b0
          try clear c8
          try clear c8b0
          try clear c9
          try clear p9
          try clear q9
          try clear hx9
          try clear hf9
          try clear hcz11_0
          try clear hcz11_1
          try clear hcz11_2
          try clear hcz11_3
          try clear hfz11_0
          try clear hfz11_1
          try clear hfz11_2
          try clear hfz11_3
          try clear hx9_0
          try clear p9
          try clear q9
          obtain ⟨x9_1, x10_1, x11_1, rfl, HA, HK1, HO_9, HO_10, BK106, HB⟩ := hrel
          have hl9_1 := (Kd.R_reads' HO_9.out).1
          rw [hl9_1] at HO_9
          (try simp only [hl9_1])
          (try simp only [hl9_1] at BK106)
          (try simp only [hl9_1] at HO_10)
          cases gk with
          | zero => exact absurd HA.out (by simp [dovetailref08_In.l0])
          | succ k1 =>
           have H := HA.out
           clear HA
           simp only [dovetailref08_In.l0] at H
           by_cases c18 : x11_1 < (x10_1.length : Int)
           · rw [if_pos c18] at H
             have c18b0 : decide (x11_1 < (x10_1.length : Int)) = true := decide_eq_true c18
             clear c18
             have H' := Aside0.mk H
             clear H
             obtain ⟨Ao19, co19, eo19⟩ := Kd.R_slice HO_10.out
             subst eo19
             go_wp2
             repeat (go_quiet (fail); try go_wp2)
             go_loopg [10, 12] k1 (fun kq v10 v12 w' => ∃ (x9_2 : List Bool) (x10_2 : List Int) (x12_2 : Int), v12 = .int .i64 x12_2 ∧ Aside0 (dovetailref08_In.l1 kq a2 a3 x9_2 x10_2 x11_1 x12_2 l0_0 l0_1 a0_2 l0_3 = some r) ∧ Aside0 (kq ≤ k1) ∧ Aside0 (Kd.R Kd.bool 4 w' w.heap.size (fun _ => True) (.slice (some ⟨go9, 0, none⟩) x9_1.length co9) x9_2) ∧ Aside0 (Kd.R (Kd.int .i64) 3 w' w.heap.size (fun _ => True) v10 x10_2) ∧ Aside0 (w'.heap[gb106]? = some (.cells #[(.slice A0_0 l0_0.length c0_0), (.slice A0_1 l0_1.length c0_1), .int .i64 a0_2, (.slice A0_3 l0_3.length c0_3)] 32 (0, 0))) ∧ Aside0 (Below w.heap.size w w'))
             case atStart => exact ⟨(x9_1), (x10_1), (0), (by first | rfl | (simp; done) | (simp [*]; done)), H', ⟨Nat.le_refl _⟩, ⟨by (try simp only [hl9_1]); (with_reducible repeat (first | apply Kd.R_alloc | apply Kd.R_drewN | apply Kd.R_drew)); exact HO_9.out⟩, ⟨by (try simp only [hl9_1]); (with_reducible repeat (first | apply Kd.R_alloc | apply Kd.R_drewN | apply Kd.R_drew)); exact HO_10.out⟩, ⟨by (try simp only [hl9_1]); (with_reducible repeat (first | refine blk_drewN ?_ _ | refine blk_drew ?_ | refine blk_alloc ?_ _)); exact BK106.out⟩, ⟨by repeat (first | (with_reducible first | exact HB.out | apply below_alloc | apply pw_below_drewN | apply below_drew1 | refine below_set ?_ GE106.out) | exact HB.out)⟩⟩
             case round =>
              clear H'
              try clear c1
              try clear p2
              try clear c5
              try clear c5b0
              try clear c5b1
              try clear c6
              try clear c6b0
              try clear c6b1
              try clear c7
              try clear c7b0
              try clear c8
              try clear c8b0
              try clear c9
              try clear p9
              try clear q9
              try clear hx9
              try clear hf9
              try clear c18
              try clear c18b0
              try clear hcz11_0
              try clear hcz11_1
              try clear hcz11_2
              try clear hcz11_3
              try clear hfz11_0
              try clear hfz11_1
              try clear hfz11_2
              try clear hfz11_3
              try clear hx9_0
              try clear p2
              try clear p9
              try clear q9
              obtain ⟨x9_2, x10_2, x12_2, rfl, HA, HK2, HO_9, HO_10, BK106, HB⟩ := hrel
              have hl9_2 := (Kd.R_reads' HO_9.out).1
              rw [hl9_2] at HO_9
              (try simp only [hl9_2])
              (try simp only [hl9_2] at BK106)
              (try simp only [hl9_2] at HO_10)
              cases gk with
              | zero => exact absurd HA.out (by simp [dovetailref08_In.l1])
              | succ k2 =>
               have H := HA.out
               clear HA
               simp only [dovetailref08_In.l1] at H
               by_cases c20 : x12_2 < (l0_3.length : Int)
               · rw [if_pos c20] at H
                 have c20b0 : decide (x12_2 < (l0_3.length : Int)) = true := decide_eq_true c20
                 clear c20
                 by_cases c21 : 0 ≤ x12_2
                 · rw [if_pos c21] at H
                   have c21b0 : decide (0 ≤ x12_2) = true := decide_eq_true c21
                   clear c21
                   by_cases c22 : 0 ≤ x11_1
                   · rw [if_pos c22] at H
                     have c22b0 : decide (0 ≤ x11_1) = true := decide_eq_true c22
                     clear c22
                     by_cases c23 : x11_1 < (x10_2.length : Int)
                     · rw [if_pos c23] at H
                       have c23b0 : decide (x11_1 < (x10_2.length : Int)) = true := decide_eq_true c23
                       clear c23
                       by_cases c24 : ((rd_T41 l0_3 x12_2).f0) = (rd x10_2 x11_1)
                       · rw [if_pos c24] at H
                         have c24b0 : (((rd_T41 l0_3 x12_2).f0) == (rd x10_2 x11_1)) = true := beq_iff_eq.mpr c24
                         have c24b1 : (((rd_T41 l0_3 x12_2).f0) != (rd x10_2 x11_1)) = false := bne_eq_false_iff_eq.mpr c24
                         clear c24
                         replace H := Option.bind_eq_some_iff.mp H
                         obtain ⟨t117, A250, H⟩ := H
                         replace H : (if t117 = true then (some true) else ((dovetailref08_Leads.f ((rd_T41 l0_3 x12_2).f0) ((rd_T41 l0_3 x12_2).f1) a3).bind fun t119 => (if t119 ≥ 0 then (if 0 ≤ t119 then (if t119 < (x9_2.length : Int) then (if rdOf false x9_2 t119 = true then (dovetailref08_In.l1 k2 a2 a3 x9_2 x10_2 x11_1 (wrap64 (x12_2 + 1)) l0_0 l0_1 a0_2 l0_3) else (if x10_2.length < 17592186044416 then (dovetailref08_In.l1 k2 a2 a3 (x9_2.set (t119 : Int).toNat true) (x10_2 ++ [t119]) x11_1 (wrap64 (x12_2 + 1)) l0_0 l0_1 a0_2 l0_3) else (none))) else (none)) else (none)) else (dovetailref08_In.l1 k2 a2 a3 x9_2 x10_2 x11_1 (wrap64 (x12_2 + 1)) l0_0 l0_1 a0_2 l0_3)))) = some r := H
                         have A25 := Aside0.mk A250
                         clear A250
                         by_cases c26 : t117 = true
                         · subst c26
                           have H1 : (some true) = some r := by rw [if_pos rfl] at H; exact H
                           clear H
                           have H := H1
                           clear H1
                           obtain rfl := Option.some.inj H
                           have hcz27_0 : wr.cell? ⟨gb106, 0, none⟩ = some (.slice A0_0 l0_0.length c0_0) := (blk_cell BK106.out 0).trans rfl
                           have hcz27_1 : wr.cell? ⟨gb106, 1, none⟩ = some (.slice A0_1 l0_1.length c0_1) := (blk_cell BK106.out 1).trans rfl
                           have hcz27_2 : wr.cell? ⟨gb106, 2, none⟩ = some (.int .i64 a0_2) := (blk_cell BK106.out 2).trans rfl
                           have hcz27_3 : wr.cell? ⟨gb106, 3, none⟩ = some (.slice A0_3 l0_3.length c0_3) := (blk_cell BK106.out 3).trans rfl
                           have hfz27_0 := blk_frozen BK106.out 0
                           have hfz27_1 := blk_frozen BK106.out 1
                           have hfz27_2 := blk_frozen BK106.out 2
                           have hfz27_3 := blk_frozen BK106.out 3
                           have p114 : 0 ≤ (x12_2 : Int) := of_decide_eq_true (by first | (with_reducible assumption) | assumption)
                           have q114 : x12_2 < (l0_3.length : Int) := of_decide_eq_true (by first | (with_reducible assumption) | assumption)
                           obtain ⟨ad114, A114_1, c114_1, e114, hx114_0, hx114_1, hl114_1, hi114_1⟩ := at_T41 HR0_3.out x12_2 p114 q114
                           cases e114
                           replace hx114_0 := (HB.out.cell (World.block_lt_of_cell? w _ hx114_0)).trans hx114_0
                           replace hx114_1 := (HB.out.cell (World.block_lt_of_cell? w _ hx114_1)).trans hx114_1
                           have HR114_1 := Aside0.mk hi114_1
                           have HC114_1 := Aside0.mk hl114_1
                           clear hi114_1 hl114_1
                           replace p114 := eq_true p114
                           replace q114 := eq_true q114
                           obtain ⟨Ao28, co28, eo28⟩ := Kd.R_slice HO_10.out
                           subst eo28
                           have p115 : 0 ≤ (x11_1 : Int) := of_decide_eq_true (by first | (with_reducible assumption) | assumption)
                           have q115 : x11_1 < (x10_2.length : Int) := of_decide_eq_true (by first | (with_reducible assumption) | assumption)
                           obtain ⟨ad115, e115, hx115_0⟩ := Kd.at_int (Kd.R_reads' HO_10.out).2.2 x11_1 p115 q115
                           cases e115
                           replace p115 := eq_true p115
                           replace q115 := eq_true q115
                           have p116 : 0 ≤ (x12_2 : Int) := of_decide_eq_true (by first | (with_reducible assumption) | assumption)
                           have q116 : x12_2 < (l0_3.length : Int) := of_decide_eq_true (by first | (with_reducible assumption) | assumption)
                           obtain ⟨ad116, A116_1, c116_1, e116, hx116_0, hx116_1, hl116_1, hi116_1⟩ := at_T41 HR0_3.out x12_2 p116 q116
                           obtain rfl : ad114 = ad116 := (by injection e116)
                           replace hx116_0 := (HB.out.cell (World.block_lt_of_cell? w _ hx116_0)).trans hx116_0
                           replace hx116_1 := (HB.out.cell (World.block_lt_of_cell? w _ hx116_1)).trans hx116_1
                           have HR116_1 := Aside0.mk hi116_1
                           have HC116_1 := Aside0.mk hl116_1
                           clear hi116_1 hl116_1
                           replace p116 := eq_true p116
                           replace q116 := eq_true q116
                           have ea_ := Option.some.inj (hx114_1.symm.trans hx116_1)
                           injection ea_ with ea_ en_ ec_
                           subst ea_
                           subst ec_
                           clear en_
                           go_wp2_with (first | (go_at_call 70; (with_reducible refine (dovetailref08_Shows.calls ((rd_T41 l0_3 x12_2).f0) _ _ ((rd_T41 l0_3 x12_2).f1) a2 a3 true _ ?side1 ?side2 A25.out).mono ?_); (case side1 => repeat (first | exact (Kd.C_below HR116_1.out HB.out) | (with_reducible refine Kd.C_alloc ?_ _) | (with_reducible refine Kd.C_drewN ?_ _) | (with_reducible refine Kd.C_drew ?_))); (case side2 => exact HC116_1.out); rintro e w29 ⟨rfl, hb⟩; have n0_ := Aside0.mk (Kd.R_below (by (with_reducible repeat (first | apply Kd.R_alloc | apply Kd.R_drewN | apply Kd.R_drew)); exact HO_9.out) hb); have n1_ := Aside0.mk (Kd.R_below (by (with_reducible repeat (first | apply Kd.R_alloc | apply Kd.R_drewN | apply Kd.R_drew)); exact HO_10.out) hb); have n2_ := Aside0.mk (blk_below (g := gb106) (o := .cells #[.slice A0_0 l0_0.length c0_0, .slice A0_1 l0_1.length c0_1, .int .i64 a0_2, .slice (some ad114) l0_3.length c0_3] 32 (0, 0)) (by (with_reducible repeat (first | refine blk_drewN ?_ _ | refine blk_drew ?_ | refine blk_alloc ?_ _)); exact BK106.out) hb); have n3_ := Aside0.mk (below_step (by repeat (first | (with_reducible first | exact HB.out | apply below_alloc | apply pw_below_drewN | apply below_drew1 | refine below_set ?_ GE106.out) | exact HB.out)) hb); clear HO_9; clear HO_10; clear BK106; clear HB; have HO_9 := n0_; have HO_10 := n1_; have BK106 := n2_; have HB := n3_; clear n0_ n1_ n2_ n3_; (try clear hb); (try clear hb2); (try clear hk); (try clear hi)))
                           repeat (go_quiet (first | (go_at_call 70; (with_reducible refine (dovetailref08_Shows.calls ((rd_T41 l0_3 x12_2).f0) _ _ ((rd_T41 l0_3 x12_2).f1) a2 a3 true _ ?side1 ?side2 A25.out).mono ?_); (case side1 => repeat (first | exact (Kd.C_below HR116_1.out HB.out) | (with_reducible refine Kd.C_alloc ?_ _) | (with_reducible refine Kd.C_drewN ?_ _) | (with_reducible refine Kd.C_drew ?_))); (case side2 => exact HC116_1.out); rintro e w29 ⟨rfl, hb⟩; have n0_ := Aside0.mk (Kd.R_below (by (with_reducible repeat (first | apply Kd.R_alloc | apply Kd.R_drewN | apply Kd.R_drew)); exact HO_9.out) hb); have n1_ := Aside0.mk (Kd.R_below (by (with_reducible repeat (first | apply Kd.R_alloc | apply Kd.R_drewN | apply Kd.R_drew)); exact HO_10.out) hb); have n2_ := Aside0.mk (blk_below (g := gb106) (o := .cells #[.slice A0_0 l0_0.length c0_0, .slice A0_1 l0_1.length c0_1, .int .i64 a0_2, .slice (some ad114) l0_3.length c0_3] 32 (0, 0)) (by (with_reducible repeat (first | refine blk_drewN ?_ _ | refine blk_drew ?_ | refine blk_alloc ?_ _)); exact BK106.out) hb); have n3_ := Aside0.mk (below_step (by repeat (first | (with_reducible first | exact HB.out | apply below_alloc | apply pw_below_drewN | apply below_drew1 | refine below_set ?_ GE106.out) | exact HB.out)) hb); clear HO_9; clear HO_10; clear BK106; clear HB; have HO_9 := n0_; have HO_10 := n1_; have BK106 := n2_; have HB := n3_; clear n0_ n1_ n2_ n3_; (try clear hb); (try clear hb2); (try clear hk); (try clear hi))); try go_wp2_with (first | (go_at_call 70; (with_reducible refine (dovetailref08_Shows.calls ((rd_T41 l0_3 x12_2).f0) _ _ ((rd_T41 l0_3 x12_2).f1) a2 a3 true _ ?side1 ?side2 A25.out).mono ?_); (case side1 => repeat (first | exact (Kd.C_below HR116_1.out HB.out) | (with_reducible refine Kd.C_alloc ?_ _) | (with_reducible refine Kd.C_drewN ?_ _) | (with_reducible refine Kd.C_drew ?_))); (case side2 => exact HC116_1.out); rintro e w29 ⟨rfl, hb⟩; have n0_ := Aside0.mk (Kd.R_below (by (with_reducible repeat (first | apply Kd.R_alloc | apply Kd.R_drewN | apply Kd.R_drew)); exact HO_9.out) hb); have n1_ := Aside0.mk (Kd.R_below (by (with_reducible repeat (first | apply Kd.R_alloc | apply Kd.R_drewN | apply Kd.R_drew)); exact HO_10.out) hb); have n2_ := Aside0.mk (blk_below (g := gb106) (o := .cells #[.slice A0_0 l0_0.length c0_0, .slice A0_1 l0_1.length c0_1, .int .i64 a0_2, .slice (some ad114) l0_3.length c0_3] 32 (0, 0)) (by (with_reducible repeat (first | refine blk_drewN ?_ _ | refine blk_drew ?_ | refine blk_alloc ?_ _)); exact BK106.out) hb); have n3_ := Aside0.mk (below_step (by repeat (first | (with_reducible first | exact HB.out | apply below_alloc | apply pw_below_drewN | apply below_drew1 | refine below_set ?_ GE106.out) | exact HB.out)) hb); clear HO_9; clear HO_10; clear BK106; clear HB; have HO_9 := n0_; have HO_10 := n1_; have BK106 := n2_; have HB := n3_; clear n0_ n1_ n2_ n3_; (try clear hb); (try clear hb2); (try clear hk); (try clear hi))))
                           go_ret
                           exact ⟨by first | rfl | (simp [errW_none, errW_some] <;> rfl) | (simp [*, errW_none, errW_some] <;> rfl), by repeat (first | (with_reducible first | exact HB.out | apply below_alloc | apply pw_below_drewN | apply below_drew1 | refine below_set ?_ GE106.out) | exact HB.out)⟩
                         · replace c26 := Bool.eq_false_iff.mpr c26
                           subst c26
                           have H1 : ((dovetailref08_Leads.f ((rd_T41 l0_3 x12_2).f0) ((rd_T41 l0_3 x12_2).f1) a3).bind fun t119 => (if t119 ≥ 0 then (if 0 ≤ t119 then (if t119 < (x9_2.length : Int) then (if rdOf false x9_2 t119 = true then (dovetailref08_In.l1 k2 a2 a3 x9_2 x10_2 x11_1 (wrap64 (x12_2 + 1)) l0_0 l0_1 a0_2 l0_3) else (if x10_2.length < 17592186044416 then (dovetailref08_In.l1 k2 a2 a3 (x9_2.set (t119 : Int).toNat true) (x10_2 ++ [t119]) x11_1 (wrap64 (x12_2 + 1)) l0_0 l0_1 a0_2 l0_3) else (none))) else (none)) else (none)) else (dovetailref08_In.l1 k2 a2 a3 x9_2 x10_2 x11_1 (wrap64 (x12_2 + 1)) l0_0 l0_1 a0_2 l0_3))) = some r := by rw [if_neg (show ¬ (false = true) by decide)] at H; exact H
                           clear H
                           have H := H1
                           clear H1
                           replace H := Option.bind_eq_some_iff.mp H
                           obtain ⟨t119, A300, H⟩ := H
                           replace H : (if t119 ≥ 0 then (if 0 ≤ t119 then (if t119 < (x9_2.length : Int) then (if rdOf false x9_2 t119 = true then (dovetailref08_In.l1 k2 a2 a3 x9_2 x10_2 x11_1 (wrap64 (x12_2 + 1)) l0_0 l0_1 a0_2 l0_3) else (if x10_2.length < 17592186044416 then (dovetailref08_In.l1 k2 a2 a3 (x9_2.set (t119 : Int).toNat true) (x10_2 ++ [t119]) x11_1 (wrap64 (x12_2 + 1)) l0_0 l0_1 a0_2 l0_3) else (none))) else (none)) else (none)) else (dovetailref08_In.l1 k2 a2 a3 x9_2 x10_2 x11_1 (wrap64 (x12_2 + 1)) l0_0 l0_1 a0_2 l0_3)) = some r := H
                           have A30 := Aside0.mk A300
                           clear A300
                           by_cases c31 : t119 ≥ 0
                           · rw [if_pos c31] at H
                             have c31b0 : decide (0 ≤ t119) = true := decide_eq_true c31
                             clear c31
                             by_cases c32 : 0 ≤ t119
                             · rw [if_pos c32] at H
                               have c32b0 : decide (0 ≤ t119) = true := decide_eq_true c32
                               clear c32
                               by_cases c33 : t119 < (x9_2.length : Int)
                               · rw [if_pos c33] at H
                                 have c33b0 : decide (t119 < (x9_2.length : Int)) = true := decide_eq_true c33
                                 clear c33
                                 obtain ⟨bq34, hbq34⟩ : ∃ b_ : Bool, b_ = (rdOf false x9_2 t119) := ⟨_, rfl⟩
                                 replace H : (if bq34 = true then (dovetailref08_In.l1 k2 a2 a3 x9_2 x10_2 x11_1 (wrap64 (x12_2 + 1)) l0_0 l0_1 a0_2 l0_3) else (if x10_2.length < 17592186044416 then (dovetailref08_In.l1 k2 a2 a3 (x9_2.set (t119 : Int).toNat true) (x10_2 ++ [t119]) x11_1 (wrap64 (x12_2 + 1)) l0_0 l0_1 a0_2 l0_3) else (none))) = some r := by rw [← hbq34] at H; exact H
                                 have Nbq34 := Aside0.mk hbq34
                                 clear hbq34
                                 by_cases c35 : bq34 = true
                                 · subst c35
                                   have H1 : (dovetailref08_In.l1 k2 a2 a3 x9_2 x10_2 x11_1 (wrap64 (x12_2 + 1)) l0_0 l0_1 a0_2 l0_3) = some r := by rw [if_pos rfl] at H; exact H
                                   clear H
                                   have H := H1
                                   clear H1
                                   have H' := Aside0.mk H
                                   clear H
                                   have hcz36_0 : wr.cell? ⟨gb106, 0, none⟩ = some (.slice A0_0 l0_0.length c0_0) := (blk_cell BK106.out 0).trans rfl
                                   have hcz36_1 : wr.cell? ⟨gb106, 1, none⟩ = some (.slice A0_1 l0_1.length c0_1) := (blk_cell BK106.out 1).trans rfl
                                   have hcz36_2 : wr.cell? ⟨gb106, 2, none⟩ = some (.int .i64 a0_2) := (blk_cell BK106.out 2).trans rfl
                                   have hcz36_3 : wr.cell? ⟨gb106, 3, none⟩ = some (.slice A0_3 l0_3.length c0_3) := (blk_cell BK106.out 3).trans rfl
                                   have hfz36_0 := blk_frozen BK106.out 0
                                   have hfz36_1 := blk_frozen BK106.out 1
                                   have hfz36_2 := blk_frozen BK106.out 2
                                   have hfz36_3 := blk_frozen BK106.out 3
                                   have p114 : 0 ≤ (x12_2 : Int) := of_decide_eq_true (by first | (with_reducible assumption) | assumption)
                                   have q114 : x12_2 < (l0_3.length : Int) := of_decide_eq_true (by first | (with_reducible assumption) | assumption)
                                   obtain ⟨ad114, A114_1, c114_1, e114, hx114_0, hx114_1, hl114_1, hi114_1⟩ := at_T41 HR0_3.out x12_2 p114 q114
                                   cases e114
                                   replace hx114_0 := (HB.out.cell (World.block_lt_of_cell? w _ hx114_0)).trans hx114_0
                                   replace hx114_1 := (HB.out.cell (World.block_lt_of_cell? w _ hx114_1)).trans hx114_1
                                   have HR114_1 := Aside0.mk hi114_1
                                   have HC114_1 := Aside0.mk hl114_1
                                   clear hi114_1 hl114_1
                                   replace p114 := eq_true p114
                                   replace q114 := eq_true q114
                                   obtain ⟨Ao37, co37, eo37⟩ := Kd.R_slice HO_10.out
                                   subst eo37
                                   have p115 : 0 ≤ (x11_1 : Int) := of_decide_eq_true (by first | (with_reducible assumption) | assumption)
                                   have q115 : x11_1 < (x10_2.length : Int) := of_decide_eq_true (by first | (with_reducible assumption) | assumption)
                                   obtain ⟨ad115, e115, hx115_0⟩ := Kd.at_int (Kd.R_reads' HO_10.out).2.2 x11_1 p115 q115
                                   cases e115
                                   replace p115 := eq_true p115
                                   replace q115 := eq_true q115
                                   have p116 : 0 ≤ (x12_2 : Int) := of_decide_eq_true (by first | (with_reducible assumption) | assumption)
                                   have q116 : x12_2 < (l0_3.length : Int) := of_decide_eq_true (by first | (with_reducible assumption) | assumption)
                                   obtain ⟨ad116, A116_1, c116_1, e116, hx116_0, hx116_1, hl116_1, hi116_1⟩ := at_T41 HR0_3.out x12_2 p116 q116
                                   obtain rfl : ad114 = ad116 := (by injection e116)
                                   replace hx116_0 := (HB.out.cell (World.block_lt_of_cell? w _ hx116_0)).trans hx116_0
                                   replace hx116_1 := (HB.out.cell (World.block_lt_of_cell? w _ hx116_1)).trans hx116_1
                                   have HR116_1 := Aside0.mk hi116_1
                                   have HC116_1 := Aside0.mk hl116_1
                                   clear hi116_1 hl116_1
                                   replace p116 := eq_true p116
                                   replace q116 := eq_true q116
                                   have ea_ := Option.some.inj (hx114_1.symm.trans hx116_1)
                                   injection ea_ with ea_ en_ ec_
                                   subst ea_
                                   subst ec_
                                   clear en_
                                   go_wp2_with (first | (go_at_call 70; (with_reducible refine (dovetailref08_Shows.calls ((rd_T41 l0_3 x12_2).f0) _ _ ((rd_T41 l0_3 x12_2).f1) a2 a3 false _ ?side1 ?side2 A25.out).mono ?_); (case side1 => repeat (first | exact (Kd.C_below HR116_1.out HB.out) | (with_reducible refine Kd.C_alloc ?_ _) | (with_reducible refine Kd.C_drewN ?_ _) | (with_reducible refine Kd.C_drew ?_))); (case side2 => exact HC116_1.out); rintro e w38 ⟨rfl, hb⟩; have n0_ := Aside0.mk (Kd.R_below (by (with_reducible repeat (first | apply Kd.R_alloc | apply Kd.R_drewN | apply Kd.R_drew)); exact HO_9.out) hb); have n1_ := Aside0.mk (Kd.R_below (by (with_reducible repeat (first | apply Kd.R_alloc | apply Kd.R_drewN | apply Kd.R_drew)); exact HO_10.out) hb); have n2_ := Aside0.mk (blk_below (g := gb106) (o := .cells #[.slice A0_0 l0_0.length c0_0, .slice A0_1 l0_1.length c0_1, .int .i64 a0_2, .slice (some ad114) l0_3.length c0_3] 32 (0, 0)) (by (with_reducible repeat (first | refine blk_drewN ?_ _ | refine blk_drew ?_ | refine blk_alloc ?_ _)); exact BK106.out) hb); have n3_ := Aside0.mk (below_step (by repeat (first | (with_reducible first | exact HB.out | apply below_alloc | apply pw_below_drewN | apply below_drew1 | refine below_set ?_ GE106.out) | exact HB.out)) hb); clear HO_9; clear HO_10; clear BK106; clear HB; have HO_9 := n0_; have HO_10 := n1_; have BK106 := n2_; have HB := n3_; clear n0_ n1_ n2_ n3_; (try clear hb); (try clear hb2); (try clear hk); (try clear hi); have hcz39_0 : w38.cell? ⟨gb106, 0, none⟩ = some (.slice A0_0 l0_0.length c0_0) := (blk_cell BK106.out 0).trans rfl; have hcz39_1 : w38.cell? ⟨gb106, 1, none⟩ = some (.slice A0_1 l0_1.length c0_1) := (blk_cell BK106.out 1).trans rfl; have hcz39_2 : w38.cell? ⟨gb106, 2, none⟩ = some (.int .i64 a0_2) := (blk_cell BK106.out 2).trans rfl; have hcz39_3 : w38.cell? ⟨gb106, 3, none⟩ = some (.slice (some ad114) l0_3.length c0_3) := (blk_cell BK106.out 3).trans rfl; have hfz39_0 := blk_frozen BK106.out 0; have hfz39_1 := blk_frozen BK106.out 1; have hfz39_2 := blk_frozen BK106.out 2; have hfz39_3 := blk_frozen BK106.out 3; have p118 : 0 ≤ (x12_2 : Int) := of_decide_eq_true (by first | (with_reducible assumption) | assumption); have q118 : x12_2 < (l0_3.length : Int) := of_decide_eq_true (by first | (with_reducible assumption) | assumption); obtain ⟨ad118, A118_1, c118_1, e118, hx118_0, hx118_1, hl118_1, hi118_1⟩ := at_T41 HR0_3.out x12_2 p118 q118; obtain rfl : ad114 = ad118 := (by injection e118); replace hx118_0 := (HB.out.cell (World.block_lt_of_cell? w _ hx118_0)).trans hx118_0; replace hx118_1 := (HB.out.cell (World.block_lt_of_cell? w _ hx118_1)).trans hx118_1; have HR118_1 := Aside0.mk hi118_1; have HC118_1 := Aside0.mk hl118_1; clear hi118_1 hl118_1; replace p118 := eq_true p118; replace q118 := eq_true q118) | (go_at_call 72; (with_reducible refine (dovetailref08_Leads.calls ((rd_T41 l0_3 x12_2).f0) _ _ ((rd_T41 l0_3 x12_2).f1) a3 t119 _ ?side1 ?side2 A30.out).mono ?_); (case side1 => repeat (first | exact (Kd.C_below HR118_1.out HB.out) | (with_reducible refine Kd.C_alloc ?_ _) | (with_reducible refine Kd.C_drewN ?_ _) | (with_reducible refine Kd.C_drew ?_))); (case side2 => exact HC118_1.out); rintro e w40 ⟨rfl, hb⟩; have n0_ := Aside0.mk (Kd.R_below (by (with_reducible repeat (first | apply Kd.R_alloc | apply Kd.R_drewN | apply Kd.R_drew)); exact HO_9.out) hb); have n1_ := Aside0.mk (Kd.R_below (by (with_reducible repeat (first | apply Kd.R_alloc | apply Kd.R_drewN | apply Kd.R_drew)); exact HO_10.out) hb); have n2_ := Aside0.mk (blk_below (g := gb106) (o := .cells #[.slice A0_0 l0_0.length c0_0, .slice A0_1 l0_1.length c0_1, .int .i64 a0_2, .slice (some ad114) l0_3.length c0_3] 32 (0, 0)) (by (with_reducible repeat (first | refine blk_drewN ?_ _ | refine blk_drew ?_ | refine blk_alloc ?_ _)); exact BK106.out) hb); have n3_ := Aside0.mk (below_step (by repeat (first | (with_reducible first | exact HB.out | apply below_alloc | apply pw_below_drewN | apply below_drew1 | refine below_set ?_ GE106.out) | exact HB.out)) hb); clear HO_9; clear HO_10; clear BK106; clear HB; have HO_9 := n0_; have HO_10 := n1_; have BK106 := n2_; have HB := n3_; clear n0_ n1_ n2_ n3_; (try clear hb); (try clear hb2); (try clear hk); (try clear hi); have p120 : 0 ≤ (t119 : Int) := of_decide_eq_true (by first | (with_reducible assumption) | assumption); have q120 : t119 < (x9_2.length : Int) := of_decide_eq_true (by first | (with_reducible assumption) | assumption); obtain ⟨ad120, e120, hx120_0⟩ := Kd.at_bool (Kd.R_reads' HO_9.out).2.2 t119 p120 q120; (try rw [← Nbq34.out] at hx120_0); obtain rfl : (⟨go9, 0, none⟩ : Addr) = ad120 := (by injection e120); (first | simp only [add_plain] at hx120_0 | simp only [add_at] at hx120_0 | simp only [Addr.add, Nat.zero_add] at hx120_0 | skip); replace p120 := eq_true p120; replace q120 := eq_true q120))
                                   repeat (go_quiet (first | (go_at_call 70; (with_reducible refine (dovetailref08_Shows.calls ((rd_T41 l0_3 x12_2).f0) _ _ ((rd_T41 l0_3 x12_2).f1) a2 a3 false _ ?side1 ?side2 A25.out).mono ?_); (case side1 => repeat (first | exact (Kd.C_below HR116_1.out HB.out) | (with_reducible refine Kd.C_alloc ?_ _) | (with_reducible refine Kd.C_drewN ?_ _) | (with_reducible refine Kd.C_drew ?_))); (case side2 => exact HC116_1.out); rintro e w38 ⟨rfl, hb⟩; have n0_ := Aside0.mk (Kd.R_below (by (with_reducible repeat (first | apply Kd.R_alloc | apply Kd.R_drewN | apply Kd.R_drew)); exact HO_9.out) hb); have n1_ := Aside0.mk (Kd.R_below (by (with_reducible repeat (first | apply Kd.R_alloc | apply Kd.R_drewN | apply Kd.R_drew)); exact HO_10.out) hb); have n2_ := Aside0.mk (blk_below (g := gb106) (o := .cells #[.slice A0_0 l0_0.length c0_0, .slice A0_1 l0_1.length c0_1, .int .i64 a0_2, .slice (some ad114) l0_3.length c0_3] 32 (0, 0)) (by (with_reducible repeat (first | refine blk_drewN ?_ _ | refine blk_drew ?_ | refine blk_alloc ?_ _)); exact BK106.out) hb); have n3_ := Aside0.mk (below_step (by repeat (first | (with_reducible first | exact HB.out | apply below_alloc | apply pw_below_drewN | apply below_drew1 | refine below_set ?_ GE106.out) | exact HB.out)) hb); clear HO_9; clear HO_10; clear BK106; clear HB; have HO_9 := n0_; have HO_10 := n1_; have BK106 := n2_; have HB := n3_; clear n0_ n1_ n2_ n3_; (try clear hb); (try clear hb2); (try clear hk); (try clear hi); have hcz39_0 : w38.cell? ⟨gb106, 0, none⟩ = some (.slice A0_0 l0_0.length c0_0) := (blk_cell BK106.out 0).trans rfl; have hcz39_1 : w38.cell? ⟨gb106, 1, none⟩ = some (.slice A0_1 l0_1.length c0_1) := (blk_cell BK106.out 1).trans rfl; have hcz39_2 : w38.cell? ⟨gb106, 2, none⟩ = some (.int .i64 a0_2) := (blk_cell BK106.out 2).trans rfl; have hcz39_3 : w38.cell? ⟨gb106, 3, none⟩ = some (.slice (some ad114) l0_3.length c0_3) := (blk_cell BK106.out 3).trans rfl; have hfz39_0 := blk_frozen BK106.out 0; have hfz39_1 := blk_frozen BK106.out 1; have hfz39_2 := blk_frozen BK106.out 2; have hfz39_3 := blk_frozen BK106.out 3; have p118 : 0 ≤ (x12_2 : Int) := of_decide_eq_true (by first | (with_reducible assumption) | assumption); have q118 : x12_2 < (l0_3.length : Int) := of_decide_eq_true (by first | (with_reducible assumption) | assumption); obtain ⟨ad118, A118_1, c118_1, e118, hx118_0, hx118_1, hl118_1, hi118_1⟩ := at_T41 HR0_3.out x12_2 p118 q118; obtain rfl : ad114 = ad118 := (by injection e118); replace hx118_0 := (HB.out.cell (World.block_lt_of_cell? w _ hx118_0)).trans hx118_0; replace hx118_1 := (HB.out.cell (World.block_lt_of_cell? w _ hx118_1)).trans hx118_1; have HR118_1 := Aside0.mk hi118_1; have HC118_1 := Aside0.mk hl118_1; clear hi118_1 hl118_1; replace p118 := eq_true p118; replace q118 := eq_true q118) | (go_at_call 72; (with_reducible refine (dovetailref08_Leads.calls ((rd_T41 l0_3 x12_2).f0) _ _ ((rd_T41 l0_3 x12_2).f1) a3 t119 _ ?side1 ?side2 A30.out).mono ?_); (case side1 => repeat (first | exact (Kd.C_below HR118_1.out HB.out) | (with_reducible refine Kd.C_alloc ?_ _) | (with_reducible refine Kd.C_drewN ?_ _) | (with_reducible refine Kd.C_drew ?_))); (case side2 => exact HC118_1.out); rintro e w40 ⟨rfl, hb⟩; have n0_ := Aside0.mk (Kd.R_below (by (with_reducible repeat (first | apply Kd.R_alloc | apply Kd.R_drewN | apply Kd.R_drew)); exact HO_9.out) hb); have n1_ := Aside0.mk (Kd.R_below (by (with_reducible repeat (first | apply Kd.R_alloc | apply Kd.R_drewN | apply Kd.R_drew)); exact HO_10.out) hb); have n2_ := Aside0.mk (blk_below (g := gb106) (o := .cells #[.slice A0_0 l0_0.length c0_0, .slice A0_1 l0_1.length c0_1, .int .i64 a0_2, .slice (some ad114) l0_3.length c0_3] 32 (0, 0)) (by (with_reducible repeat (first | refine blk_drewN ?_ _ | refine blk_drew ?_ | refine blk_alloc ?_ _)); exact BK106.out) hb); have n3_ := Aside0.mk (below_step (by repeat (first | (with_reducible first | exact HB.out | apply below_alloc | apply pw_below_drewN | apply below_drew1 | refine below_set ?_ GE106.out) | exact HB.out)) hb); clear HO_9; clear HO_10; clear BK106; clear HB; have HO_9 := n0_; have HO_10 := n1_; have BK106 := n2_; have HB := n3_; clear n0_ n1_ n2_ n3_; (try clear hb); (try clear hb2); (try clear hk); (try clear hi); have p120 : 0 ≤ (t119 : Int) := of_decide_eq_true (by first | (with_reducible assumption) | assumption); have q120 : t119 < (x9_2.length : Int) := of_decide_eq_true (by first | (with_reducible assumption) | assumption); obtain ⟨ad120, e120, hx120_0⟩ := Kd.at_bool (Kd.R_reads' HO_9.out).2.2 t119 p120 q120; (try rw [← Nbq34.out] at hx120_0); obtain rfl : (⟨go9, 0, none⟩ : Addr) = ad120 := (by injection e120); (first | simp only [add_plain] at hx120_0 | simp only [add_at] at hx120_0 | simp only [Addr.add, Nat.zero_add] at hx120_0 | skip); replace p120 := eq_true p120; replace q120 := eq_true q120)); try go_wp2_with (first | (go_at_call 70; (with_reducible refine (dovetailref08_Shows.calls ((rd_T41 l0_3 x12_2).f0) _ _ ((rd_T41 l0_3 x12_2).f1) a2 a3 false _ ?side1 ?side2 A25.out).mono ?_); (case side1 => repeat (first | exact (Kd.C_below HR116_1.out HB.out) | (with_reducible refine Kd.C_alloc ?_ _) | (with_reducible refine Kd.C_drewN ?_ _) | (with_reducible refine Kd.C_drew ?_))); (case side2 => exact HC116_1.out); rintro e w38 ⟨rfl, hb⟩; have n0_ := Aside0.mk (Kd.R_below (by (with_reducible repeat (first | apply Kd.R_alloc | apply Kd.R_drewN | apply Kd.R_drew)); exact HO_9.out) hb); have n1_ := Aside0.mk (Kd.R_below (by (with_reducible repeat (first | apply Kd.R_alloc | apply Kd.R_drewN | apply Kd.R_drew)); exact HO_10.out) hb); have n2_ := Aside0.mk (blk_below (g := gb106) (o := .cells #[.slice A0_0 l0_0.length c0_0, .slice A0_1 l0_1.length c0_1, .int .i64 a0_2, .slice (some ad114) l0_3.length c0_3] 32 (0, 0)) (by (with_reducible repeat (first | refine blk_drewN ?_ _ | refine blk_drew ?_ | refine blk_alloc ?_ _)); exact BK106.out) hb); have n3_ := Aside0.mk (below_step (by repeat (first | (with_reducible first | exact HB.out | apply below_alloc | apply pw_below_drewN | apply below_drew1 | refine below_set ?_ GE106.out) | exact HB.out)) hb); clear HO_9; clear HO_10; clear BK106; clear HB; have HO_9 := n0_; have HO_10 := n1_; have BK106 := n2_; have HB := n3_; clear n0_ n1_ n2_ n3_; (try clear hb); (try clear hb2); (try clear hk); (try clear hi); have hcz39_0 : w38.cell? ⟨gb106, 0, none⟩ = some (.slice A0_0 l0_0.length c0_0) := (blk_cell BK106.out 0).trans rfl; have hcz39_1 : w38.cell? ⟨gb106, 1, none⟩ = some (.slice A0_1 l0_1.length c0_1) := (blk_cell BK106.out 1).trans rfl; have hcz39_2 : w38.cell? ⟨gb106, 2, none⟩ = some (.int .i64 a0_2) := (blk_cell BK106.out 2).trans rfl; have hcz39_3 : w38.cell? ⟨gb106, 3, none⟩ = some (.slice (some ad114) l0_3.length c0_3) := (blk_cell BK106.out 3).trans rfl; have hfz39_0 := blk_frozen BK106.out 0; have hfz39_1 := blk_frozen BK106.out 1; have hfz39_2 := blk_frozen BK106.out 2; have hfz39_3 := blk_frozen BK106.out 3; have p118 : 0 ≤ (x12_2 : Int) := of_decide_eq_true (by first | (with_reducible assumption) | assumption); have q118 : x12_2 < (l0_3.length : Int) := of_decide_eq_true (by first | (with_reducible assumption) | assumption); obtain ⟨ad118, A118_1, c118_1, e118, hx118_0, hx118_1, hl118_1, hi118_1⟩ := at_T41 HR0_3.out x12_2 p118 q118; obtain rfl : ad114 = ad118 := (by injection e118); replace hx118_0 := (HB.out.cell (World.block_lt_of_cell? w _ hx118_0)).trans hx118_0; replace hx118_1 := (HB.out.cell (World.block_lt_of_cell? w _ hx118_1)).trans hx118_1; have HR118_1 := Aside0.mk hi118_1; have HC118_1 := Aside0.mk hl118_1; clear hi118_1 hl118_1; replace p118 := eq_true p118; replace q118 := eq_true q118) | (go_at_call 72; (with_reducible refine (dovetailref08_Leads.calls ((rd_T41 l0_3 x12_2).f0) _ _ ((rd_T41 l0_3 x12_2).f1) a3 t119 _ ?side1 ?side2 A30.out).mono ?_); (case side1 => repeat (first | exact (Kd.C_below HR118_1.out HB.out) | (with_reducible refine Kd.C_alloc ?_ _) | (with_reducible refine Kd.C_drewN ?_ _) | (with_reducible refine Kd.C_drew ?_))); (case side2 => exact HC118_1.out); rintro e w40 ⟨rfl, hb⟩; have n0_ := Aside0.mk (Kd.R_below (by (with_reducible repeat (first | apply Kd.R_alloc | apply Kd.R_drewN | apply Kd.R_drew)); exact HO_9.out) hb); have n1_ := Aside0.mk (Kd.R_below (by (with_reducible repeat (first | apply Kd.R_alloc | apply Kd.R_drewN | apply Kd.R_drew)); exact HO_10.out) hb); have n2_ := Aside0.mk (blk_below (g := gb106) (o := .cells #[.slice A0_0 l0_0.length c0_0, .slice A0_1 l0_1.length c0_1, .int .i64 a0_2, .slice (some ad114) l0_3.length c0_3] 32 (0, 0)) (by (with_reducible repeat (first | refine blk_drewN ?_ _ | refine blk_drew ?_ | refine blk_alloc ?_ _)); exact BK106.out) hb); have n3_ := Aside0.mk (below_step (by repeat (first | (with_reducible first | exact HB.out | apply below_alloc | apply pw_below_drewN | apply below_drew1 | refine below_set ?_ GE106.out) | exact HB.out)) hb); clear HO_9; clear HO_10; clear BK106; clear HB; have HO_9 := n0_; have HO_10 := n1_; have BK106 := n2_; have HB := n3_; clear n0_ n1_ n2_ n3_; (try clear hb); (try clear hb2); (try clear hk); (try clear hi); have p120 : 0 ≤ (t119 : Int) := of_decide_eq_true (by first | (with_reducible assumption) | assumption); have q120 : t119 < (x9_2.length : Int) := of_decide_eq_true (by first | (with_reducible assumption) | assumption); obtain ⟨ad120, e120, hx120_0⟩ := Kd.at_bool (Kd.R_reads' HO_9.out).2.2 t119 p120 q120; (try rw [← Nbq34.out] at hx120_0); obtain rfl : (⟨go9, 0, none⟩ : Addr) = ad120 := (by injection e120); (first | simp only [add_plain] at hx120_0 | simp only [add_at] at hx120_0 | simp only [Addr.add, Nat.zero_add] at hx120_0 | skip); replace p120 := eq_true p120; replace q120 := eq_true q120)))
                                   (try simp only [← hl9_2])
                                   go_roundg k2
                                   case measure => have := HK1.out; have := HK2.out; omega
                                   case rel => exact ⟨(x9_2), (x10_2), (wrap64 (x12_2 + 1)), (by first | rfl | (simp; done) | (simp [*]; done)), H', ⟨by have := HK1.out; have := HK2.out; omega⟩, ⟨by (try simp only [hl9_1]); (try simp only [hl9_2]); (with_reducible repeat (first | apply Kd.R_alloc | apply Kd.R_drewN | apply Kd.R_drew)); exact HO_9.out⟩, ⟨by (try simp only [hl9_1]); (try simp only [hl9_2]); (with_reducible repeat (first | apply Kd.R_alloc | apply Kd.R_drewN | apply Kd.R_drew)); exact HO_10.out⟩, ⟨by (try simp only [hl9_1]); (try simp only [hl9_2]); (with_reducible repeat (first | refine blk_drewN ?_ _ | refine blk_drew ?_ | refine blk_alloc ?_ _)); exact BK106.out⟩, ⟨by repeat (first | (with_reducible first | exact HB.out | apply below_alloc | apply pw_below_drewN | apply below_drew1 | refine below_set ?_ GE106.out) | exact HB.out)⟩⟩
                                 · replace c35 := Bool.eq_false_iff.mpr c35
                                   subst c35
                                   have H1 : (if x10_2.length < 17592186044416 then (dovetailref08_In.l1 k2 a2 a3 (x9_2.set (t119 : Int).toNat true) (x10_2 ++ [t119]) x11_1 (wrap64 (x12_2 + 1)) l0_0 l0_1 a0_2 l0_3) else (none)) = some r := by rw [if_neg (show ¬ (false = true) by decide)] at H; exact H
                                   clear H
                                   have H := H1
                                   clear H1
                                   obtain ⟨y121, hy121⟩ : ∃ y_ : List Bool, y_ = (x9_2.set (t119 : Int).toNat true) := ⟨_, rfl⟩
                                   replace H : (if x10_2.length < 17592186044416 then (dovetailref08_In.l1 k2 a2 a3 y121 (x10_2 ++ [t119]) x11_1 (wrap64 (x12_2 + 1)) l0_0 l0_1 a0_2 l0_3) else (none)) = some r := by first | (rw [hy121]; with_reducible exact H) | (have H2_ := (Option.bind_some _ _).symm.trans H; rw [hy121]; with_reducible exact H2_) | (have H2_ := (Option.bind_some _ _).symm.trans H; with_reducible exact H2_) | with_reducible exact H | (rw [hy121]; exact H) | exact H
                                   have Ny121 := Aside0.mk hy121
                                   clear hy121
                                   by_cases c42 : x10_2.length < 17592186044416
                                   · rw [if_pos c42] at H
                                     have LMc42 := Aside0.mk c42
                                     clear c42
                                     obtain ⟨y122, hy122⟩ : ∃ y_ : List Int, y_ = (x10_2 ++ [t119]) := ⟨_, rfl⟩
                                     replace H : (dovetailref08_In.l1 k2 a2 a3 y121 y122 x11_1 (wrap64 (x12_2 + 1)) l0_0 l0_1 a0_2 l0_3) = some r := by first | (rw [hy122]; with_reducible exact H) | (have H2_ := (Option.bind_some _ _).symm.trans H; rw [hy122]; with_reducible exact H2_) | (have H2_ := (Option.bind_some _ _).symm.trans H; with_reducible exact H2_) | with_reducible exact H | (rw [hy122]; exact H) | exact H
                                     have Ny122 := Aside0.mk hy122
                                     clear hy122
                                     have H' := Aside0.mk H
                                     clear H
                                     have hcz43_0 : wr.cell? ⟨gb106, 0, none⟩ = some (.slice A0_0 l0_0.length c0_0) := (blk_cell BK106.out 0).trans rfl
                                     have hcz43_1 : wr.cell? ⟨gb106, 1, none⟩ = some (.slice A0_1 l0_1.length c0_1) := (blk_cell BK106.out 1).trans rfl
                                     have hcz43_2 : wr.cell? ⟨gb106, 2, none⟩ = some (.int .i64 a0_2) := (blk_cell BK106.out 2).trans rfl
                                     have hcz43_3 : wr.cell? ⟨gb106, 3, none⟩ = some (.slice A0_3 l0_3.length c0_3) := (blk_cell BK106.out 3).trans rfl
                                     have hfz43_0 := blk_frozen BK106.out 0
                                     have hfz43_1 := blk_frozen BK106.out 1
                                     have hfz43_2 := blk_frozen BK106.out 2
                                     have hfz43_3 := blk_frozen BK106.out 3
                                     have p114 : 0 ≤ (x12_2 : Int) := of_decide_eq_true (by first | (with_reducible assumption) | assumption)
                                     have q114 : x12_2 < (l0_3.length : Int) := of_decide_eq_true (by first | (with_reducible assumption) | assumption)
                                     obtain ⟨ad114, A114_1, c114_1, e114, hx114_0, hx114_1, hl114_1, hi114_1⟩ := at_T41 HR0_3.out x12_2 p114 q114
                                     cases e114
                                     replace hx114_0 := (HB.out.cell (World.block_lt_of_cell? w _ hx114_0)).trans hx114_0
                                     replace hx114_1 := (HB.out.cell (World.block_lt_of_cell? w _ hx114_1)).trans hx114_1
                                     have HR114_1 := Aside0.mk hi114_1
                                     have HC114_1 := Aside0.mk hl114_1
                                     clear hi114_1 hl114_1
                                     replace p114 := eq_true p114
                                     replace q114 := eq_true q114
                                     obtain ⟨Ao44, co44, eo44⟩ := Kd.R_slice HO_10.out
                                     subst eo44
                                     have p115 : 0 ≤ (x11_1 : Int) := of_decide_eq_true (by first | (with_reducible assumption) | assumption)
                                     have q115 : x11_1 < (x10_2.length : Int) := of_decide_eq_true (by first | (with_reducible assumption) | assumption)
                                     obtain ⟨ad115, e115, hx115_0⟩ := Kd.at_int (Kd.R_reads' HO_10.out).2.2 x11_1 p115 q115
                                     cases e115
                                     replace p115 := eq_true p115
                                     replace q115 := eq_true q115
                                     have p116 : 0 ≤ (x12_2 : Int) := of_decide_eq_true (by first | (with_reducible assumption) | assumption)
                                     have q116 : x12_2 < (l0_3.length : Int) := of_decide_eq_true (by first | (with_reducible assumption) | assumption)
                                     obtain ⟨ad116, A116_1, c116_1, e116, hx116_0, hx116_1, hl116_1, hi116_1⟩ := at_T41 HR0_3.out x12_2 p116 q116
                                     obtain rfl : ad114 = ad116 := (by injection e116)
                                     replace hx116_0 := (HB.out.cell (World.block_lt_of_cell? w _ hx116_0)).trans hx116_0
                                     replace hx116_1 := (HB.out.cell (World.block_lt_of_cell? w _ hx116_1)).trans hx116_1
                                     have HR116_1 := Aside0.mk hi116_1
                                     have HC116_1 := Aside0.mk hl116_1
                                     clear hi116_1 hl116_1
                                     replace p116 := eq_true p116
                                     replace q116 := eq_true q116
                                     have ea_ := Option.some.inj (hx114_1.symm.trans hx116_1)
                                     injection ea_ with ea_ en_ ec_
                                     subst ea_
                                     subst ec_
                                     clear en_
                                     go_wp2_with (first | (go_at_call 70; (with_reducible refine (dovetailref08_Shows.calls ((rd_T41 l0_3 x12_2).f0) _ _ ((rd_T41 l0_3 x12_2).f1) a2 a3 false _ ?side1 ?side2 A25.out).mono ?_); (case side1 => repeat (first | exact (Kd.C_below HR116_1.out HB.out) | (with_reducible refine Kd.C_alloc ?_ _) | (with_reducible refine Kd.C_drewN ?_ _) | (with_reducible refine Kd.C_drew ?_))); (case side2 => exact HC116_1.out); rintro e w45 ⟨rfl, hb⟩; have n0_ := Aside0.mk (Kd.R_below (by (with_reducible repeat (first | apply Kd.R_alloc | apply Kd.R_drewN | apply Kd.R_drew)); exact HO_9.out) hb); have n1_ := Aside0.mk (Kd.R_below (by (with_reducible repeat (first | apply Kd.R_alloc | apply Kd.R_drewN | apply Kd.R_drew)); exact HO_10.out) hb); have n2_ := Aside0.mk (blk_below (g := gb106) (o := .cells #[.slice A0_0 l0_0.length c0_0, .slice A0_1 l0_1.length c0_1, .int .i64 a0_2, .slice (some ad114) l0_3.length c0_3] 32 (0, 0)) (by (with_reducible repeat (first | refine blk_drewN ?_ _ | refine blk_drew ?_ | refine blk_alloc ?_ _)); exact BK106.out) hb); have n3_ := Aside0.mk (below_step (by repeat (first | (with_reducible first | exact HB.out | apply below_alloc | apply pw_below_drewN | apply below_drew1 | refine below_set ?_ GE106.out) | exact HB.out)) hb); clear HO_9; clear HO_10; clear BK106; clear HB; have HO_9 := n0_; have HO_10 := n1_; have BK106 := n2_; have HB := n3_; clear n0_ n1_ n2_ n3_; (try clear hb); (try clear hb2); (try clear hk); (try clear hi); have hcz46_0 : w45.cell? ⟨gb106, 0, none⟩ = some (.slice A0_0 l0_0.length c0_0) := (blk_cell BK106.out 0).trans rfl; have hcz46_1 : w45.cell? ⟨gb106, 1, none⟩ = some (.slice A0_1 l0_1.length c0_1) := (blk_cell BK106.out 1).trans rfl; have hcz46_2 : w45.cell? ⟨gb106, 2, none⟩ = some (.int .i64 a0_2) := (blk_cell BK106.out 2).trans rfl; have hcz46_3 : w45.cell? ⟨gb106, 3, none⟩ = some (.slice (some ad114) l0_3.length c0_3) := (blk_cell BK106.out 3).trans rfl; have hfz46_0 := blk_frozen BK106.out 0; have hfz46_1 := blk_frozen BK106.out 1; have hfz46_2 := blk_frozen BK106.out 2; have hfz46_3 := blk_frozen BK106.out 3; have p118 : 0 ≤ (x12_2 : Int) := of_decide_eq_true (by first | (with_reducible assumption) | assumption); have q118 : x12_2 < (l0_3.length : Int) := of_decide_eq_true (by first | (with_reducible assumption) | assumption); obtain ⟨ad118, A118_1, c118_1, e118, hx118_0, hx118_1, hl118_1, hi118_1⟩ := at_T41 HR0_3.out x12_2 p118 q118; obtain rfl : ad114 = ad118 := (by injection e118); replace hx118_0 := (HB.out.cell (World.block_lt_of_cell? w _ hx118_0)).trans hx118_0; replace hx118_1 := (HB.out.cell (World.block_lt_of_cell? w _ hx118_1)).trans hx118_1; have HR118_1 := Aside0.mk hi118_1; have HC118_1 := Aside0.mk hl118_1; clear hi118_1 hl118_1; replace p118 := eq_true p118; replace q118 := eq_true q118) | (go_at_call 72; (with_reducible refine (dovetailref08_Leads.calls ((rd_T41 l0_3 x12_2).f0) _ _ ((rd_T41 l0_3 x12_2).f1) a3 t119 _ ?side1 ?side2 A30.out).mono ?_); (case side1 => repeat (first | exact (Kd.C_below HR118_1.out HB.out) | (with_reducible refine Kd.C_alloc ?_ _) | (with_reducible refine Kd.C_drewN ?_ _) | (with_reducible refine Kd.C_drew ?_))); (case side2 => exact HC118_1.out); rintro e w47 ⟨rfl, hb⟩; have n0_ := Aside0.mk (Kd.R_below (by (with_reducible repeat (first | apply Kd.R_alloc | apply Kd.R_drewN | apply Kd.R_drew)); exact HO_9.out) hb); have n1_ := Aside0.mk (Kd.R_below (by (with_reducible repeat (first | apply Kd.R_alloc | apply Kd.R_drewN | apply Kd.R_drew)); exact HO_10.out) hb); have n2_ := Aside0.mk (blk_below (g := gb106) (o := .cells #[.slice A0_0 l0_0.length c0_0, .slice A0_1 l0_1.length c0_1, .int .i64 a0_2, .slice (some ad114) l0_3.length c0_3] 32 (0, 0)) (by (with_reducible repeat (first | refine blk_drewN ?_ _ | refine blk_drew ?_ | refine blk_alloc ?_ _)); exact BK106.out) hb); have n3_ := Aside0.mk (below_step (by repeat (first | (with_reducible first | exact HB.out | apply below_alloc | apply pw_below_drewN | apply below_drew1 | refine below_set ?_ GE106.out) | exact HB.out)) hb); clear HO_9; clear HO_10; clear BK106; clear HB; have HO_9 := n0_; have HO_10 := n1_; have BK106 := n2_; have HB := n3_; clear n0_ n1_ n2_ n3_; (try clear hb); (try clear hb2); (try clear hk); (try clear hi); have p120 : 0 ≤ (t119 : Int) := of_decide_eq_true (by first | (with_reducible assumption) | assumption); have q120 : t119 < (x9_2.length : Int) := of_decide_eq_true (by first | (with_reducible assumption) | assumption); obtain ⟨ad120, e120, hx120_0⟩ := Kd.at_bool (Kd.R_reads' HO_9.out).2.2 t119 p120 q120; (try rw [← Nbq34.out] at hx120_0); obtain rfl : (⟨go9, 0, none⟩ : Addr) = ad120 := (by injection e120); (first | simp only [add_plain] at hx120_0 | simp only [add_at] at hx120_0 | simp only [Addr.add, Nat.zero_add] at hx120_0 | skip); replace p120 := eq_true p120; replace q120 := eq_true q120; have p41 : 0 ≤ (t119 : Int) := of_decide_eq_true (by first | (with_reducible assumption) | assumption); have q41 : (t119 : Int) < ((x9_2.length : Int) : Int) := of_decide_eq_true (by first | (with_reducible assumption) | assumption); obtain ⟨hx41_0, hf41_0⟩ := Kd.R_celln false HO_9.out (t119 : Int) p41 q41; replace p41 := eq_true p41; replace q41 := eq_true q41; obtain ⟨hy48_, hz48_⟩ := Kd.R_celln false HO_9.out (t119 : Int) (of_decide_eq_true (by first | (with_reducible assumption) | assumption)) (of_decide_eq_true (by first | (with_reducible assumption) | assumption)); have HP48 := Kd.R_putg HO_9.out (t119 : Int) true) | ((with_reducible refine gate_store (t := 4) (p := 73) rfl ?_); (try (rw [drewN_self w47]; generalize hq_ : World.drewN w47 _ = w47; have n0_ := Aside0.mk (Kd.R_at hq_ HO_9.out); have n1_ := Aside0.mk (Kd.R_at hq_ HO_10.out); have n2_ := Aside0.mk (blk_at hq_ BK106.out); have n3_ := Aside0.mk (below_at hq_ HB.out); clear hq_ HO_9 HO_10 BK106 HB; have HO_9 := n0_; have HO_10 := n1_; have BK106 := n2_; have HB := n3_; clear n0_ n1_ n2_ n3_; (try (obtain ⟨hy48_, hz48_⟩ := Kd.R_celln false HO_9.out (t119 : Int) (of_decide_eq_true (by first | (with_reducible assumption) | assumption)) (of_decide_eq_true (by first | (with_reducible assumption) | assumption)))); (try (have HP48 := Kd.R_putg HO_9.out (t119 : Int) true)))); refine store_event (t := 4) (p := 73) (v := ?vo_w49) (w1 := (w47.setCell ⟨go9, (t119 : Int).toNat, none⟩ (.bool true))) ?hg ?ho ?hn ?hr ?_; (case ho => rfl); (case hg => rfl); (case hn => rfl); (case hr => first | (go_simp; done) | (go_simp; rfl)); intro w49 hw; have hg : w47.grownBy w49 (some go9) := (by rw [hw]; exact HP48.2); have hp_ : Kd.R Kd.bool 4 w49 w.heap.size (fun _ => True) (.slice (some ⟨go9, 0, none⟩) x9_2.length co9) y121 := (by rw [hw, Ny121.out]; exact HP48.1); clear HP48; have n0_ := Aside0.mk (hp_); have n1_ := Aside0.mk (Kd.R_over' (v := (.slice (some ⟨go9, 0, none⟩) x9_2.length co9)) (by (with_reducible repeat (first | apply Kd.R_alloc | apply Kd.R_drewN | apply Kd.R_drew)); exact HO_10.out) (Kd.R_typed HO_9.out) (by decide) hg); have n2_ := Aside0.mk (blk_grown (g := gb106) (o := .cells #[.slice A0_0 l0_0.length c0_0, .slice A0_1 l0_1.length c0_1, .int .i64 a0_2, .slice (some ad114) l0_3.length c0_3] 32 (0, 0)) (by (with_reducible repeat (first | refine blk_drewN ?_ _ | refine blk_drew ?_ | refine blk_alloc ?_ _)); exact BK106.out) hg (Kd.R_ne HO_9.out BK106.out (by decide))); have n3_ := Aside0.mk ((by rw [hw]; exact below_set (HB.out) GB9.out : Below w.heap.size w w49)); clear HO_9; clear HO_10; clear BK106; clear HB; have HO_9 := n0_; have HO_10 := n1_; have BK106 := n2_; have HB := n3_; clear n0_ n1_ n2_ n3_; clear hg hw hp_) | ((with_reducible refine gate_builtin (b := .append) (xs := #[.tmp 74, .tmp 76]) rfl ?_); at_builtin; refine Kd.R_append (Kd.int .i64) (w0 := w) w.heap.size rfl (.tmp 74) (.tmp 76) 24 3 (.int .i64 0) 8 rfl Tryd.underlying24 info3 rfl (by decide) (by omega) (.slice (some ad115) x10_2.length co44) x10_2 t119 [.int .i64 t119] (fun _ => True) (fun _ => False) rfl rfl ?aP (fun _ hk => hk.elim) ?aF ?aO ?aB ?aS ?aL ?_; (case aP => exact rfl); (case aB => exact (by repeat (first | (with_reducible first | exact HB.out | apply below_alloc | apply pw_below_drewN | apply below_drew1 | refine below_set ?_ GE106.out) | exact HB.out))); (case aF => exact (fun _ _ => trivial)); (case aO => exact (by (with_reducible repeat (first | apply Kd.R_alloc | apply Kd.R_drewN | apply Kd.R_drew)); exact HO_10.out)); (case aS => exact (below_size (by repeat (first | (with_reducible first | exact HB.out | apply below_alloc | apply pw_below_drewN | apply below_drew1 | refine below_set ?_ GE106.out) | exact HB.out)))); (case aL => have := LMc42.out; omega); intro v123 w50 ho hb hg hat; rw [← Ny122.out] at ho; have n0_ := Aside0.mk (Kd.R_over' (by (with_reducible repeat (first | apply Kd.R_alloc | apply Kd.R_drewN | apply Kd.R_drew)); exact HO_9.out) (Kd.R_typed (by (with_reducible repeat (first | apply Kd.R_alloc | apply Kd.R_drewN | apply Kd.R_drew)); exact HO_10.out)) (by decide) hg); have n1_ := Aside0.mk (blk_grown (g := gb106) (o := .cells #[.slice A0_0 l0_0.length c0_0, .slice A0_1 l0_1.length c0_1, .int .i64 a0_2, .slice (some ad114) l0_3.length c0_3] 32 (0, 0)) (by (with_reducible repeat (first | refine blk_drewN ?_ _ | refine blk_drew ?_ | refine blk_alloc ?_ _)); exact BK106.out) hg (Kd.R_ne HO_10.out BK106.out (by decide))); have n2_ := Aside0.mk (hb); have n3_ := Aside0.mk (ho); clear HO_9; clear BK106; clear HB; clear HO_10; have HO_9 := n0_; have BK106 := n1_; have HB := n2_; have HO124 := n3_; clear n0_ n1_ n2_ n3_; clear ho hb hg hat))
                                     repeat (go_quiet (first | (go_at_call 70; (with_reducible refine (dovetailref08_Shows.calls ((rd_T41 l0_3 x12_2).f0) _ _ ((rd_T41 l0_3 x12_2).f1) a2 a3 false _ ?side1 ?side2 A25.out).mono ?_); (case side1 => repeat (first | exact (Kd.C_below HR116_1.out HB.out) | (with_reducible refine Kd.C_alloc ?_ _) | (with_reducible refine Kd.C_drewN ?_ _) | (with_reducible refine Kd.C_drew ?_))); (case side2 => exact HC116_1.out); rintro e w45 ⟨rfl, hb⟩; have n0_ := Aside0.mk (Kd.R_below (by (with_reducible repeat (first | apply Kd.R_alloc | apply Kd.R_drewN | apply Kd.R_drew)); exact HO_9.out) hb); have n1_ := Aside0.mk (Kd.R_below (by (with_reducible repeat (first | apply Kd.R_alloc | apply Kd.R_drewN | apply Kd.R_drew)); exact HO_10.out) hb); have n2_ := Aside0.mk (blk_below (g := gb106) (o := .cells #[.slice A0_0 l0_0.length c0_0, .slice A0_1 l0_1.length c0_1, .int .i64 a0_2, .slice (some ad114) l0_3.length c0_3] 32 (0, 0)) (by (with_reducible repeat (first | refine blk_drewN ?_ _ | refine blk_drew ?_ | refine blk_alloc ?_ _)); exact BK106.out) hb); have n3_ := Aside0.mk (below_step (by repeat (first | (with_reducible first | exact HB.out | apply below_alloc | apply pw_below_drewN | apply below_drew1 | refine below_set ?_ GE106.out) | exact HB.out)) hb); clear HO_9; clear HO_10; clear BK106; clear HB; have HO_9 := n0_; have HO_10 := n1_; have BK106 := n2_; have HB := n3_; clear n0_ n1_ n2_ n3_; (try clear hb); (try clear hb2); (try clear hk); (try clear hi); have hcz46_0 : w45.cell? ⟨gb106, 0, none⟩ = some (.slice A0_0 l0_0.length c0_0) := (blk_cell BK106.out 0).trans rfl; have hcz46_1 : w45.cell? ⟨gb106, 1, none⟩ = some (.slice A0_1 l0_1.length c0_1) := (blk_cell BK106.out 1).trans rfl; have hcz46_2 : w45.cell? ⟨gb106, 2, none⟩ = some (.int .i64 a0_2) := (blk_cell BK106.out 2).trans rfl; have hcz46_3 : w45.cell? ⟨gb106, 3, none⟩ = some (.slice (some ad114) l0_3.length c0_3) := (blk_cell BK106.out 3).trans rfl; have hfz46_0 := blk_frozen BK106.out 0; have hfz46_1 := blk_frozen BK106.out 1; have hfz46_2 := blk_frozen BK106.out 2; have hfz46_3 := blk_frozen BK106.out 3; have p118 : 0 ≤ (x12_2 : Int) := of_decide_eq_true (by first | (with_reducible assumption) | assumption); have q118 : x12_2 < (l0_3.length : Int) := of_decide_eq_true (by first | (with_reducible assumption) | assumption); obtain ⟨ad118, A118_1, c118_1, e118, hx118_0, hx118_1, hl118_1, hi118_1⟩ := at_T41 HR0_3.out x12_2 p118 q118; obtain rfl : ad114 = ad118 := (by injection e118); replace hx118_0 := (HB.out.cell (World.block_lt_of_cell? w _ hx118_0)).trans hx118_0; replace hx118_1 := (HB.out.cell (World.block_lt_of_cell? w _ hx118_1)).trans hx118_1; have HR118_1 := Aside0.mk hi118_1; have HC118_1 := Aside0.mk hl118_1; clear hi118_1 hl118_1; replace p118 := eq_true p118; replace q118 := eq_true q118) | (go_at_call 72; (with_reducible refine (dovetailref08_Leads.calls ((rd_T41 l0_3 x12_2).f0) _ _ ((rd_T41 l0_3 x12_2).f1) a3 t119 _ ?side1 ?side2 A30.out).mono ?_); (case side1 => repeat (first | exact (Kd.C_below HR118_1.out HB.out) | (with_reducible refine Kd.C_alloc ?_ _) | (with_reducible refine Kd.C_drewN ?_ _) | (with_reducible refine Kd.C_drew ?_))); (case side2 => exact HC118_1.out); rintro e w47 ⟨rfl, hb⟩; have n0_ := Aside0.mk (Kd.R_below (by (with_reducible repeat (first | apply Kd.R_alloc | apply Kd.R_drewN | apply Kd.R_drew)); exact HO_9.out) hb); have n1_ := Aside0.mk (Kd.R_below (by (with_reducible repeat (first | apply Kd.R_alloc | apply Kd.R_drewN | apply Kd.R_drew)); exact HO_10.out) hb); have n2_ := Aside0.mk (blk_below (g := gb106) (o := .cells #[.slice A0_0 l0_0.length c0_0, .slice A0_1 l0_1.length c0_1, .int .i64 a0_2, .slice (some ad114) l0_3.length c0_3] 32 (0, 0)) (by (with_reducible repeat (first | refine blk_drewN ?_ _ | refine blk_drew ?_ | refine blk_alloc ?_ _)); exact BK106.out) hb); have n3_ := Aside0.mk (below_step (by repeat (first | (with_reducible first | exact HB.out | apply below_alloc | apply pw_below_drewN | apply below_drew1 | refine below_set ?_ GE106.out) | exact HB.out)) hb); clear HO_9; clear HO_10; clear BK106; clear HB; have HO_9 := n0_; have HO_10 := n1_; have BK106 := n2_; have HB := n3_; clear n0_ n1_ n2_ n3_; (try clear hb); (try clear hb2); (try clear hk); (try clear hi); have p120 : 0 ≤ (t119 : Int) := of_decide_eq_true (by first | (with_reducible assumption) | assumption); have q120 : t119 < (x9_2.length : Int) := of_decide_eq_true (by first | (with_reducible assumption) | assumption); obtain ⟨ad120, e120, hx120_0⟩ := Kd.at_bool (Kd.R_reads' HO_9.out).2.2 t119 p120 q120; (try rw [← Nbq34.out] at hx120_0); obtain rfl : (⟨go9, 0, none⟩ : Addr) = ad120 := (by injection e120); (first | simp only [add_plain] at hx120_0 | simp only [add_at] at hx120_0 | simp only [Addr.add, Nat.zero_add] at hx120_0 | skip); replace p120 := eq_true p120; replace q120 := eq_true q120; have p41 : 0 ≤ (t119 : Int) := of_decide_eq_true (by first | (with_reducible assumption) | assumption); have q41 : (t119 : Int) < ((x9_2.length : Int) : Int) := of_decide_eq_true (by first | (with_reducible assumption) | assumption); obtain ⟨hx41_0, hf41_0⟩ := Kd.R_celln false HO_9.out (t119 : Int) p41 q41; replace p41 := eq_true p41; replace q41 := eq_true q41; obtain ⟨hy48_, hz48_⟩ := Kd.R_celln false HO_9.out (t119 : Int) (of_decide_eq_true (by first | (with_reducible assumption) | assumption)) (of_decide_eq_true (by first | (with_reducible assumption) | assumption)); have HP48 := Kd.R_putg HO_9.out (t119 : Int) true) | ((with_reducible refine gate_store (t := 4) (p := 73) rfl ?_); (try (rw [drewN_self w47]; generalize hq_ : World.drewN w47 _ = w47; have n0_ := Aside0.mk (Kd.R_at hq_ HO_9.out); have n1_ := Aside0.mk (Kd.R_at hq_ HO_10.out); have n2_ := Aside0.mk (blk_at hq_ BK106.out); have n3_ := Aside0.mk (below_at hq_ HB.out); clear hq_ HO_9 HO_10 BK106 HB; have HO_9 := n0_; have HO_10 := n1_; have BK106 := n2_; have HB := n3_; clear n0_ n1_ n2_ n3_; (try (obtain ⟨hy48_, hz48_⟩ := Kd.R_celln false HO_9.out (t119 : Int) (of_decide_eq_true (by first | (with_reducible assumption) | assumption)) (of_decide_eq_true (by first | (with_reducible assumption) | assumption)))); (try (have HP48 := Kd.R_putg HO_9.out (t119 : Int) true)))); refine store_event (t := 4) (p := 73) (v := ?vo_w49) (w1 := (w47.setCell ⟨go9, (t119 : Int).toNat, none⟩ (.bool true))) ?hg ?ho ?hn ?hr ?_; (case ho => rfl); (case hg => rfl); (case hn => rfl); (case hr => first | (go_simp; done) | (go_simp; rfl)); intro w49 hw; have hg : w47.grownBy w49 (some go9) := (by rw [hw]; exact HP48.2); have hp_ : Kd.R Kd.bool 4 w49 w.heap.size (fun _ => True) (.slice (some ⟨go9, 0, none⟩) x9_2.length co9) y121 := (by rw [hw, Ny121.out]; exact HP48.1); clear HP48; have n0_ := Aside0.mk (hp_); have n1_ := Aside0.mk (Kd.R_over' (v := (.slice (some ⟨go9, 0, none⟩) x9_2.length co9)) (by (with_reducible repeat (first | apply Kd.R_alloc | apply Kd.R_drewN | apply Kd.R_drew)); exact HO_10.out) (Kd.R_typed HO_9.out) (by decide) hg); have n2_ := Aside0.mk (blk_grown (g := gb106) (o := .cells #[.slice A0_0 l0_0.length c0_0, .slice A0_1 l0_1.length c0_1, .int .i64 a0_2, .slice (some ad114) l0_3.length c0_3] 32 (0, 0)) (by (with_reducible repeat (first | refine blk_drewN ?_ _ | refine blk_drew ?_ | refine blk_alloc ?_ _)); exact BK106.out) hg (Kd.R_ne HO_9.out BK106.out (by decide))); have n3_ := Aside0.mk ((by rw [hw]; exact below_set (HB.out) GB9.out : Below w.heap.size w w49)); clear HO_9; clear HO_10; clear BK106; clear HB; have HO_9 := n0_; have HO_10 := n1_; have BK106 := n2_; have HB := n3_; clear n0_ n1_ n2_ n3_; clear hg hw hp_) | ((with_reducible refine gate_builtin (b := .append) (xs := #[.tmp 74, .tmp 76]) rfl ?_); at_builtin; refine Kd.R_append (Kd.int .i64) (w0 := w) w.heap.size rfl (.tmp 74) (.tmp 76) 24 3 (.int .i64 0) 8 rfl Tryd.underlying24 info3 rfl (by decide) (by omega) (.slice (some ad115) x10_2.length co44) x10_2 t119 [.int .i64 t119] (fun _ => True) (fun _ => False) rfl rfl ?aP (fun _ hk => hk.elim) ?aF ?aO ?aB ?aS ?aL ?_; (case aP => exact rfl); (case aB => exact (by repeat (first | (with_reducible first | exact HB.out | apply below_alloc | apply pw_below_drewN | apply below_drew1 | refine below_set ?_ GE106.out) | exact HB.out))); (case aF => exact (fun _ _ => trivial)); (case aO => exact (by (with_reducible repeat (first | apply Kd.R_alloc | apply Kd.R_drewN | apply Kd.R_drew)); exact HO_10.out)); (case aS => exact (below_size (by repeat (first | (with_reducible first | exact HB.out | apply below_alloc | apply pw_below_drewN | apply below_drew1 | refine below_set ?_ GE106.out) | exact HB.out)))); (case aL => have := LMc42.out; omega); intro v123 w50 ho hb hg hat; rw [← Ny122.out] at ho; have n0_ := Aside0.mk (Kd.R_over' (by (with_reducible repeat (first | apply Kd.R_alloc | apply Kd.R_drewN | apply Kd.R_drew)); exact HO_9.out) (Kd.R_typed (by (with_reducible repeat (first | apply Kd.R_alloc | apply Kd.R_drewN | apply Kd.R_drew)); exact HO_10.out)) (by decide) hg); have n1_ := Aside0.mk (blk_grown (g := gb106) (o := .cells #[.slice A0_0 l0_0.length c0_0, .slice A0_1 l0_1.length c0_1, .int .i64 a0_2, .slice (some ad114) l0_3.length c0_3] 32 (0, 0)) (by (with_reducible repeat (first | refine blk_drewN ?_ _ | refine blk_drew ?_ | refine blk_alloc ?_ _)); exact BK106.out) hg (Kd.R_ne HO_10.out BK106.out (by decide))); have n2_ := Aside0.mk (hb); have n3_ := Aside0.mk (ho); clear HO_9; clear BK106; clear HB; clear HO_10; have HO_9 := n0_; have BK106 := n1_; have HB := n2_; have HO124 := n3_; clear n0_ n1_ n2_ n3_; clear ho hb hg hat)); try go_wp2_with (first | (go_at_call 70; (with_reducible refine (dovetailref08_Shows.calls ((rd_T41 l0_3 x12_2).f0) _ _ ((rd_T41 l0_3 x12_2).f1) a2 a3 false _ ?side1 ?side2 A25.out).mono ?_); (case side1 => repeat (first | exact (Kd.C_below HR116_1.out HB.out) | (with_reducible refine Kd.C_alloc ?_ _) | (with_reducible refine Kd.C_drewN ?_ _) | (with_reducible refine Kd.C_drew ?_))); (case side2 => exact HC116_1.out); rintro e w45 ⟨rfl, hb⟩; have n0_ := Aside0.mk (Kd.R_below (by (with_reducible repeat (first | apply Kd.R_alloc | apply Kd.R_drewN | apply Kd.R_drew)); exact HO_9.out) hb); have n1_ := Aside0.mk (Kd.R_below (by (with_reducible repeat (first | apply Kd.R_alloc | apply Kd.R_drewN | apply Kd.R_drew)); exact HO_10.out) hb); have n2_ := Aside0.mk (blk_below (g := gb106) (o := .cells #[.slice A0_0 l0_0.length c0_0, .slice A0_1 l0_1.length c0_1, .int .i64 a0_2, .slice (some ad114) l0_3.length c0_3] 32 (0, 0)) (by (with_reducible repeat (first | refine blk_drewN ?_ _ | refine blk_drew ?_ | refine blk_alloc ?_ _)); exact BK106.out) hb); have n3_ := Aside0.mk (below_step (by repeat (first | (with_reducible first | exact HB.out | apply below_alloc | apply pw_below_drewN | apply below_drew1 | refine below_set ?_ GE106.out) | exact HB.out)) hb); clear HO_9; clear HO_10; clear BK106; clear HB; have HO_9 := n0_; have HO_10 := n1_; have BK106 := n2_; have HB := n3_; clear n0_ n1_ n2_ n3_; (try clear hb); (try clear hb2); (try clear hk); (try clear hi); have hcz46_0 : w45.cell? ⟨gb106, 0, none⟩ = some (.slice A0_0 l0_0.length c0_0) := (blk_cell BK106.out 0).trans rfl; have hcz46_1 : w45.cell? ⟨gb106, 1, none⟩ = some (.slice A0_1 l0_1.length c0_1) := (blk_cell BK106.out 1).trans rfl; have hcz46_2 : w45.cell? ⟨gb106, 2, none⟩ = some (.int .i64 a0_2) := (blk_cell BK106.out 2).trans rfl; have hcz46_3 : w45.cell? ⟨gb106, 3, none⟩ = some (.slice (some ad114) l0_3.length c0_3) := (blk_cell BK106.out 3).trans rfl; have hfz46_0 := blk_frozen BK106.out 0; have hfz46_1 := blk_frozen BK106.out 1; have hfz46_2 := blk_frozen BK106.out 2; have hfz46_3 := blk_frozen BK106.out 3; have p118 : 0 ≤ (x12_2 : Int) := of_decide_eq_true (by first | (with_reducible assumption) | assumption); have q118 : x12_2 < (l0_3.length : Int) := of_decide_eq_true (by first | (with_reducible assumption) | assumption); obtain ⟨ad118, A118_1, c118_1, e118, hx118_0, hx118_1, hl118_1, hi118_1⟩ := at_T41 HR0_3.out x12_2 p118 q118; obtain rfl : ad114 = ad118 := (by injection e118); replace hx118_0 := (HB.out.cell (World.block_lt_of_cell? w _ hx118_0)).trans hx118_0; replace hx118_1 := (HB.out.cell (World.block_lt_of_cell? w _ hx118_1)).trans hx118_1; have HR118_1 := Aside0.mk hi118_1; have HC118_1 := Aside0.mk hl118_1; clear hi118_1 hl118_1; replace p118 := eq_true p118; replace q118 := eq_true q118) | (go_at_call 72; (with_reducible refine (dovetailref08_Leads.calls ((rd_T41 l0_3 x12_2).f0) _ _ ((rd_T41 l0_3 x12_2).f1) a3 t119 _ ?side1 ?side2 A30.out).mono ?_); (case side1 => repeat (first | exact (Kd.C_below HR118_1.out HB.out) | (with_reducible refine Kd.C_alloc ?_ _) | (with_reducible refine Kd.C_drewN ?_ _) | (with_reducible refine Kd.C_drew ?_))); (case side2 => exact HC118_1.out); rintro e w47 ⟨rfl, hb⟩; have n0_ := Aside0.mk (Kd.R_below (by (with_reducible repeat (first | apply Kd.R_alloc | apply Kd.R_drewN | apply Kd.R_drew)); exact HO_9.out) hb); have n1_ := Aside0.mk (Kd.R_below (by (with_reducible repeat (first | apply Kd.R_alloc | apply Kd.R_drewN | apply Kd.R_drew)); exact HO_10.out) hb); have n2_ := Aside0.mk (blk_below (g := gb106) (o := .cells #[.slice A0_0 l0_0.length c0_0, .slice A0_1 l0_1.length c0_1, .int .i64 a0_2, .slice (some ad114) l0_3.length c0_3] 32 (0, 0)) (by (with_reducible repeat (first | refine blk_drewN ?_ _ | refine blk_drew ?_ | refine blk_alloc ?_ _)); exact BK106.out) hb); have n3_ := Aside0.mk (below_step (by repeat (first | (with_reducible first | exact HB.out | apply below_alloc | apply pw_below_drewN | apply below_drew1 | refine below_set ?_ GE106.out) | exact HB.out)) hb); clear HO_9; clear HO_10; clear BK106; clear HB; have HO_9 := n0_; have HO_10 := n1_; have BK106 := n2_; have HB := n3_; clear n0_ n1_ n2_ n3_; (try clear hb); (try clear hb2); (try clear hk); (try clear hi); have p120 : 0 ≤ (t119 : Int) := of_decide_eq_true (by first | (with_reducible assumption) | assumption); have q120 : t119 < (x9_2.length : Int) := of_decide_eq_true (by first | (with_reducible assumption) | assumption); obtain ⟨ad120, e120, hx120_0⟩ := Kd.at_bool (Kd.R_reads' HO_9.out).2.2 t119 p120 q120; (try rw [← Nbq34.out] at hx120_0); obtain rfl : (⟨go9, 0, none⟩ : Addr) = ad120 := (by injection e120); (first | simp only [add_plain] at hx120_0 | simp only [add_at] at hx120_0 | simp only [Addr.add, Nat.zero_add] at hx120_0 | skip); replace p120 := eq_true p120; replace q120 := eq_true q120; have p41 : 0 ≤ (t119 : Int) := of_decide_eq_true (by first | (with_reducible assumption) | assumption); have q41 : (t119 : Int) < ((x9_2.length : Int) : Int) := of_decide_eq_true (by first | (with_reducible assumption) | assumption); obtain ⟨hx41_0, hf41_0⟩ := Kd.R_celln false HO_9.out (t119 : Int) p41 q41; replace p41 := eq_true p41; replace q41 := eq_true q41; obtain ⟨hy48_, hz48_⟩ := Kd.R_celln false HO_9.out (t119 : Int) (of_decide_eq_true (by first | (with_reducible assumption) | assumption)) (of_decide_eq_true (by first | (with_reducible assumption) | assumption)); have HP48 := Kd.R_putg HO_9.out (t119 : Int) true) | ((with_reducible refine gate_store (t := 4) (p := 73) rfl ?_); (try (rw [drewN_self w47]; generalize hq_ : World.drewN w47 _ = w47; have n0_ := Aside0.mk (Kd.R_at hq_ HO_9.out); have n1_ := Aside0.mk (Kd.R_at hq_ HO_10.out); have n2_ := Aside0.mk (blk_at hq_ BK106.out); have n3_ := Aside0.mk (below_at hq_ HB.out); clear hq_ HO_9 HO_10 BK106 HB; have HO_9 := n0_; have HO_10 := n1_; have BK106 := n2_; have HB := n3_; clear n0_ n1_ n2_ n3_; (try (obtain ⟨hy48_, hz48_⟩ := Kd.R_celln false HO_9.out (t119 : Int) (of_decide_eq_true (by first | (with_reducible assumption) | assumption)) (of_decide_eq_true (by first | (with_reducible assumption) | assumption)))); (try (have HP48 := Kd.R_putg HO_9.out (t119 : Int) true)))); refine store_event (t := 4) (p := 73) (v := ?vo_w49) (w1 := (w47.setCell ⟨go9, (t119 : Int).toNat, none⟩ (.bool true))) ?hg ?ho ?hn ?hr ?_; (case ho => rfl); (case hg => rfl); (case hn => rfl); (case hr => first | (go_simp; done) | (go_simp; rfl)); intro w49 hw; have hg : w47.grownBy w49 (some go9) := (by rw [hw]; exact HP48.2); have hp_ : Kd.R Kd.bool 4 w49 w.heap.size (fun _ => True) (.slice (some ⟨go9, 0, none⟩) x9_2.length co9) y121 := (by rw [hw, Ny121.out]; exact HP48.1); clear HP48; have n0_ := Aside0.mk (hp_); have n1_ := Aside0.mk (Kd.R_over' (v := (.slice (some ⟨go9, 0, none⟩) x9_2.length co9)) (by (with_reducible repeat (first | apply Kd.R_alloc | apply Kd.R_drewN | apply Kd.R_drew)); exact HO_10.out) (Kd.R_typed HO_9.out) (by decide) hg); have n2_ := Aside0.mk (blk_grown (g := gb106) (o := .cells #[.slice A0_0 l0_0.length c0_0, .slice A0_1 l0_1.length c0_1, .int .i64 a0_2, .slice (some ad114) l0_3.length c0_3] 32 (0, 0)) (by (with_reducible repeat (first | refine blk_drewN ?_ _ | refine blk_drew ?_ | refine blk_alloc ?_ _)); exact BK106.out) hg (Kd.R_ne HO_9.out BK106.out (by decide))); have n3_ := Aside0.mk ((by rw [hw]; exact below_set (HB.out) GB9.out : Below w.heap.size w w49)); clear HO_9; clear HO_10; clear BK106; clear HB; have HO_9 := n0_; have HO_10 := n1_; have BK106 := n2_; have HB := n3_; clear n0_ n1_ n2_ n3_; clear hg hw hp_) | ((with_reducible refine gate_builtin (b := .append) (xs := #[.tmp 74, .tmp 76]) rfl ?_); at_builtin; refine Kd.R_append (Kd.int .i64) (w0 := w) w.heap.size rfl (.tmp 74) (.tmp 76) 24 3 (.int .i64 0) 8 rfl Tryd.underlying24 info3 rfl (by decide) (by omega) (.slice (some ad115) x10_2.length co44) x10_2 t119 [.int .i64 t119] (fun _ => True) (fun _ => False) rfl rfl ?aP (fun _ hk => hk.elim) ?aF ?aO ?aB ?aS ?aL ?_; (case aP => exact rfl); (case aB => exact (by repeat (first | (with_reducible first | exact HB.out | apply below_alloc | apply pw_below_drewN | apply below_drew1 | refine below_set ?_ GE106.out) | exact HB.out))); (case aF => exact (fun _ _ => trivial)); (case aO => exact (by (with_reducible repeat (first | apply Kd.R_alloc | apply Kd.R_drewN | apply Kd.R_drew)); exact HO_10.out)); (case aS => exact (below_size (by repeat (first | (with_reducible first | exact HB.out | apply below_alloc | apply pw_below_drewN | apply below_drew1 | refine below_set ?_ GE106.out) | exact HB.out)))); (case aL => have := LMc42.out; omega); intro v123 w50 ho hb hg hat; rw [← Ny122.out] at ho; have n0_ := Aside0.mk (Kd.R_over' (by (with_reducible repeat (first | apply Kd.R_alloc | apply Kd.R_drewN | apply Kd.R_drew)); exact HO_9.out) (Kd.R_typed (by (with_reducible repeat (first | apply Kd.R_alloc | apply Kd.R_drewN | apply Kd.R_drew)); exact HO_10.out)) (by decide) hg); have n1_ := Aside0.mk (blk_grown (g := gb106) (o := .cells #[.slice A0_0 l0_0.length c0_0, .slice A0_1 l0_1.length c0_1, .int .i64 a0_2, .slice (some ad114) l0_3.length c0_3] 32 (0, 0)) (by (with_reducible repeat (first | refine blk_drewN ?_ _ | refine blk_drew ?_ | refine blk_alloc ?_ _)); exact BK106.out) hg (Kd.R_ne HO_10.out BK106.out (by decide))); have n2_ := Aside0.mk (hb); have n3_ := Aside0.mk (ho); clear HO_9; clear BK106; clear HB; clear HO_10; have HO_9 := n0_; have BK106 := n1_; have HB := n2_; have HO124 := n3_; clear n0_ n1_ n2_ n3_; clear ho hb hg hat)))
                                     (try simp only [← hl9_2])
                                     go_roundg k2
                                     case measure => have := HK1.out; have := HK2.out; omega
                                     case rel => exact ⟨(y121), (y122), (wrap64 (x12_2 + 1)), (by first | rfl | (simp; done) | (simp [*]; done)), H', ⟨by have := HK1.out; have := HK2.out; omega⟩, ⟨by (try simp only [hl9_1]); (try simp only [hl9_2]); (with_reducible repeat (first | apply Kd.R_alloc | apply Kd.R_drewN | apply Kd.R_drew)); exact HO_9.out⟩, ⟨by (try simp only [hl9_1]); (try simp only [hl9_2]); (with_reducible repeat (first | apply Kd.R_alloc | apply Kd.R_drewN | apply Kd.R_drew)); exact HO124.out⟩, ⟨by (try simp only [hl9_1]); (try simp only [hl9_2]); (with_reducible repeat (first | refine blk_drewN ?_ _ | refine blk_drew ?_ | refine blk_alloc ?_ _)); exact BK106.out⟩, ⟨by repeat (first | (with_reducible first | exact HB.out | apply below_alloc | apply pw_below_drewN | apply below_drew1 | refine below_set ?_ GE106.out) | exact HB.out)⟩⟩
                                   · rw [if_neg c42] at H
                                     exact absurd H (by simp)
                               · rw [if_neg c33] at H
                                 exact absurd H (by simp)
                             · rw [if_neg c32] at H
                               exact absurd H (by simp)
                           · rw [if_neg c31] at H
                             have c31b0 : decide (0 ≤ t119) = false := decide_eq_false c31
                             clear c31
                             have H' := Aside0.mk H
                             clear H
                             have hcz51_0 : wr.cell? ⟨gb106, 0, none⟩ = some (.slice A0_0 l0_0.length c0_0) := (blk_cell BK106.out 0).trans rfl
                             have hcz51_1 : wr.cell? ⟨gb106, 1, none⟩ = some (.slice A0_1 l0_1.length c0_1) := (blk_cell BK106.out 1).trans rfl
                             have hcz51_2 : wr.cell? ⟨gb106, 2, none⟩ = some (.int .i64 a0_2) := (blk_cell BK106.out 2).trans rfl
                             have hcz51_3 : wr.cell? ⟨gb106, 3, none⟩ = some (.slice A0_3 l0_3.length c0_3) := (blk_cell BK106.out 3).trans rfl
                             have hfz51_0 := blk_frozen BK106.out 0
                             have hfz51_1 := blk_frozen BK106.out 1
                             have hfz51_2 := blk_frozen BK106.out 2
                             have hfz51_3 := blk_frozen BK106.out 3
                             have p114 : 0 ≤ (x12_2 : Int) := of_decide_eq_true (by first | (with_reducible assumption) | assumption)
                             have q114 : x12_2 < (l0_3.length : Int) := of_decide_eq_true (by first | (with_reducible assumption) | assumption)
                             obtain ⟨ad114, A114_1, c114_1, e114, hx114_0, hx114_1, hl114_1, hi114_1⟩ := at_T41 HR0_3.out x12_2 p114 q114
                             cases e114
                             replace hx114_0 := (HB.out.cell (World.block_lt_of_cell? w _ hx114_0)).trans hx114_0
                             replace hx114_1 := (HB.out.cell (World.block_lt_of_cell? w _ hx114_1)).trans hx114_1
                             have HR114_1 := Aside0.mk hi114_1
                             have HC114_1 := Aside0.mk hl114_1
                             clear hi114_1 hl114_1
                             replace p114 := eq_true p114
                             replace q114 := eq_true q114
                             obtain ⟨Ao52, co52, eo52⟩ := Kd.R_slice HO_10.out
                             subst eo52
                             have p115 : 0 ≤ (x11_1 : Int) := of_decide_eq_true (by first | (with_reducible assumption) | assumption)
                             have q115 : x11_1 < (x10_2.length : Int) := of_decide_eq_true (by first | (with_reducible assumption) | assumption)
                             obtain ⟨ad115, e115, hx115_0⟩ := Kd.at_int (Kd.R_reads' HO_10.out).2.2 x11_1 p115 q115
                             cases e115
                             replace p115 := eq_true p115
                             replace q115 := eq_true q115
                             have p116 : 0 ≤ (x12_2 : Int) := of_decide_eq_true (by first | (with_reducible assumption) | assumption)
                             have q116 : x12_2 < (l0_3.length : Int) := of_decide_eq_true (by first | (with_reducible assumption) | assumption)
                             obtain ⟨ad116, A116_1, c116_1, e116, hx116_0, hx116_1, hl116_1, hi116_1⟩ := at_T41 HR0_3.out x12_2 p116 q116
                             obtain rfl : ad114 = ad116 := (by injection e116)
                             replace hx116_0 := (HB.out.cell (World.block_lt_of_cell? w _ hx116_0)).trans hx116_0
                             replace hx116_1 := (HB.out.cell (World.block_lt_of_cell? w _ hx116_1)).trans hx116_1
                             have HR116_1 := Aside0.mk hi116_1
                             have HC116_1 := Aside0.mk hl116_1
                             clear hi116_1 hl116_1
                             replace p116 := eq_true p116
                             replace q116 := eq_true q116
                             have ea_ := Option.some.inj (hx114_1.symm.trans hx116_1)
                             injection ea_ with ea_ en_ ec_
                             subst ea_
                             subst ec_
                             clear en_
                             go_wp2_with (first | (go_at_call 70; (with_reducible refine (dovetailref08_Shows.calls ((rd_T41 l0_3 x12_2).f0) _ _ ((rd_T41 l0_3 x12_2).f1) a2 a3 false _ ?side1 ?side2 A25.out).mono ?_); (case side1 => repeat (first | exact (Kd.C_below HR116_1.out HB.out) | (with_reducible refine Kd.C_alloc ?_ _) | (with_reducible refine Kd.C_drewN ?_ _) | (with_reducible refine Kd.C_drew ?_))); (case side2 => exact HC116_1.out); rintro e w53 ⟨rfl, hb⟩; have n0_ := Aside0.mk (Kd.R_below (by (with_reducible repeat (first | apply Kd.R_alloc | apply Kd.R_drewN | apply Kd.R_drew)); exact HO_9.out) hb); have n1_ := Aside0.mk (Kd.R_below (by (with_reducible repeat (first | apply Kd.R_alloc | apply Kd.R_drewN | apply Kd.R_drew)); exact HO_10.out) hb); have n2_ := Aside0.mk (blk_below (g := gb106) (o := .cells #[.slice A0_0 l0_0.length c0_0, .slice A0_1 l0_1.length c0_1, .int .i64 a0_2, .slice (some ad114) l0_3.length c0_3] 32 (0, 0)) (by (with_reducible repeat (first | refine blk_drewN ?_ _ | refine blk_drew ?_ | refine blk_alloc ?_ _)); exact BK106.out) hb); have n3_ := Aside0.mk (below_step (by repeat (first | (with_reducible first | exact HB.out | apply below_alloc | apply pw_below_drewN | apply below_drew1 | refine below_set ?_ GE106.out) | exact HB.out)) hb); clear HO_9; clear HO_10; clear BK106; clear HB; have HO_9 := n0_; have HO_10 := n1_; have BK106 := n2_; have HB := n3_; clear n0_ n1_ n2_ n3_; (try clear hb); (try clear hb2); (try clear hk); (try clear hi); have hcz54_0 : w53.cell? ⟨gb106, 0, none⟩ = some (.slice A0_0 l0_0.length c0_0) := (blk_cell BK106.out 0).trans rfl; have hcz54_1 : w53.cell? ⟨gb106, 1, none⟩ = some (.slice A0_1 l0_1.length c0_1) := (blk_cell BK106.out 1).trans rfl; have hcz54_2 : w53.cell? ⟨gb106, 2, none⟩ = some (.int .i64 a0_2) := (blk_cell BK106.out 2).trans rfl; have hcz54_3 : w53.cell? ⟨gb106, 3, none⟩ = some (.slice (some ad114) l0_3.length c0_3) := (blk_cell BK106.out 3).trans rfl; have hfz54_0 := blk_frozen BK106.out 0; have hfz54_1 := blk_frozen BK106.out 1; have hfz54_2 := blk_frozen BK106.out 2; have hfz54_3 := blk_frozen BK106.out 3; have p118 : 0 ≤ (x12_2 : Int) := of_decide_eq_true (by first | (with_reducible assumption) | assumption); have q118 : x12_2 < (l0_3.length : Int) := of_decide_eq_true (by first | (with_reducible assumption) | assumption); obtain ⟨ad118, A118_1, c118_1, e118, hx118_0, hx118_1, hl118_1, hi118_1⟩ := at_T41 HR0_3.out x12_2 p118 q118; obtain rfl : ad114 = ad118 := (by injection e118); replace hx118_0 := (HB.out.cell (World.block_lt_of_cell? w _ hx118_0)).trans hx118_0; replace hx118_1 := (HB.out.cell (World.block_lt_of_cell? w _ hx118_1)).trans hx118_1; have HR118_1 := Aside0.mk hi118_1; have HC118_1 := Aside0.mk hl118_1; clear hi118_1 hl118_1; replace p118 := eq_true p118; replace q118 := eq_true q118) | (go_at_call 72; (with_reducible refine (dovetailref08_Leads.calls ((rd_T41 l0_3 x12_2).f0) _ _ ((rd_T41 l0_3 x12_2).f1) a3 t119 _ ?side1 ?side2 A30.out).mono ?_); (case side1 => repeat (first | exact (Kd.C_below HR118_1.out HB.out) | (with_reducible refine Kd.C_alloc ?_ _) | (with_reducible refine Kd.C_drewN ?_ _) | (with_reducible refine Kd.C_drew ?_))); (case side2 => exact HC118_1.out); rintro e w55 ⟨rfl, hb⟩; have n0_ := Aside0.mk (Kd.R_below (by (with_reducible repeat (first | apply Kd.R_alloc | apply Kd.R_drewN | apply Kd.R_drew)); exact HO_9.out) hb); have n1_ := Aside0.mk (Kd.R_below (by (with_reducible repeat (first | apply Kd.R_alloc | apply Kd.R_drewN | apply Kd.R_drew)); exact HO_10.out) hb); have n2_ := Aside0.mk (blk_below (g := gb106) (o := .cells #[.slice A0_0 l0_0.length c0_0, .slice A0_1 l0_1.length c0_1, .int .i64 a0_2, .slice (some ad114) l0_3.length c0_3] 32 (0, 0)) (by (with_reducible repeat (first | refine blk_drewN ?_ _ | refine blk_drew ?_ | refine blk_alloc ?_ _)); exact BK106.out) hb); have n3_ := Aside0.mk (below_step (by repeat (first | (with_reducible first | exact HB.out | apply below_alloc | apply pw_below_drewN | apply below_drew1 | refine below_set ?_ GE106.out) | exact HB.out)) hb); clear HO_9; clear HO_10; clear BK106; clear HB; have HO_9 := n0_; have HO_10 := n1_; have BK106 := n2_; have HB := n3_; clear n0_ n1_ n2_ n3_; (try clear hb); (try clear hb2); (try clear hk); (try clear hi)))
                             repeat (go_quiet (first | (go_at_call 70; (with_reducible refine (dovetailref08_Shows.calls ((rd_T41 l0_3 x12_2).f0) _ _ ((rd_T41 l0_3 x12_2).f1) a2 a3 false _ ?side1 ?side2 A25.out).mono ?_); (case side1 => repeat (first | exact (Kd.C_below HR116_1.out HB.out) | (with_reducible refine Kd.C_alloc ?_ _) | (with_reducible refine Kd.C_drewN ?_ _) | (with_reducible refine Kd.C_drew ?_))); (case side2 => exact HC116_1.out); rintro e w53 ⟨rfl, hb⟩; have n0_ := Aside0.mk (Kd.R_below (by (with_reducible repeat (first | apply Kd.R_alloc | apply Kd.R_drewN | apply Kd.R_drew)); exact HO_9.out) hb); have n1_ := Aside0.mk (Kd.R_below (by (with_reducible repeat (first | apply Kd.R_alloc | apply Kd.R_drewN | apply Kd.R_drew)); exact HO_10.out) hb); have n2_ := Aside0.mk (blk_below (g := gb106) (o := .cells #[.slice A0_0 l0_0.length c0_0, .slice A0_1 l0_1.length c0_1, .int .i64 a0_2, .slice (some ad114) l0_3.length c0_3] 32 (0, 0)) (by (with_reducible repeat (first | refine blk_drewN ?_ _ | refine blk_drew ?_ | refine blk_alloc ?_ _)); exact BK106.out) hb); have n3_ := Aside0.mk (below_step (by repeat (first | (with_reducible first | exact HB.out | apply below_alloc | apply pw_below_drewN | apply below_drew1 | refine below_set ?_ GE106.out) | exact HB.out)) hb); clear HO_9; clear HO_10; clear BK106; clear HB; have HO_9 := n0_; have HO_10 := n1_; have BK106 := n2_; have HB := n3_; clear n0_ n1_ n2_ n3_; (try clear hb); (try clear hb2); (try clear hk); (try clear hi); have hcz54_0 : w53.cell? ⟨gb106, 0, none⟩ = some (.slice A0_0 l0_0.length c0_0) := (blk_cell BK106.out 0).trans rfl; have hcz54_1 : w53.cell? ⟨gb106, 1, none⟩ = some (.slice A0_1 l0_1.length c0_1) := (blk_cell BK106.out 1).trans rfl; have hcz54_2 : w53.cell? ⟨gb106, 2, none⟩ = some (.int .i64 a0_2) := (blk_cell BK106.out 2).trans rfl; have hcz54_3 : w53.cell? ⟨gb106, 3, none⟩ = some (.slice (some ad114) l0_3.length c0_3) := (blk_cell BK106.out 3).trans rfl; have hfz54_0 := blk_frozen BK106.out 0; have hfz54_1 := blk_frozen BK106.out 1; have hfz54_2 := blk_frozen BK106.out 2; have hfz54_3 := blk_frozen BK106.out 3; have p118 : 0 ≤ (x12_2 : Int) := of_decide_eq_true (by first | (with_reducible assumption) | assumption); have q118 : x12_2 < (l0_3.length : Int) := of_decide_eq_true (by first | (with_reducible assumption) | assumption); obtain ⟨ad118, A118_1, c118_1, e118, hx118_0, hx118_1, hl118_1, hi118_1⟩ := at_T41 HR0_3.out x12_2 p118 q118; obtain rfl : ad114 = ad118 := (by injection e118); replace hx118_0 := (HB.out.cell (World.block_lt_of_cell? w _ hx118_0)).trans hx118_0; replace hx118_1 := (HB.out.cell (World.block_lt_of_cell? w _ hx118_1)).trans hx118_1; have HR118_1 := Aside0.mk hi118_1; have HC118_1 := Aside0.mk hl118_1; clear hi118_1 hl118_1; replace p118 := eq_true p118; replace q118 := eq_true q118) | (go_at_call 72; (with_reducible refine (dovetailref08_Leads.calls ((rd_T41 l0_3 x12_2).f0) _ _ ((rd_T41 l0_3 x12_2).f1) a3 t119 _ ?side1 ?side2 A30.out).mono ?_); (case side1 => repeat (first | exact (Kd.C_below HR118_1.out HB.out) | (with_reducible refine Kd.C_alloc ?_ _) | (with_reducible refine Kd.C_drewN ?_ _) | (with_reducible refine Kd.C_drew ?_))); (case side2 => exact HC118_1.out); rintro e w55 ⟨rfl, hb⟩; have n0_ := Aside0.mk (Kd.R_below (by (with_reducible repeat (first | apply Kd.R_alloc | apply Kd.R_drewN | apply Kd.R_drew)); exact HO_9.out) hb); have n1_ := Aside0.mk (Kd.R_below (by (with_reducible repeat (first | apply Kd.R_alloc | apply Kd.R_drewN | apply Kd.R_drew)); exact HO_10.out) hb); have n2_ := Aside0.mk (blk_below (g := gb106) (o := .cells #[.slice A0_0 l0_0.length c0_0, .slice A0_1 l0_1.length c0_1, .int .i64 a0_2, .slice (some ad114) l0_3.length c0_3] 32 (0, 0)) (by (with_reducible repeat (first | refine blk_drewN ?_ _ | refine blk_drew ?_ | refine blk_alloc ?_ _)); exact BK106.out) hb); have n3_ := Aside0.mk (below_step (by repeat (first | (with_reducible first | exact HB.out | apply below_alloc | apply pw_below_drewN | apply below_drew1 | refine below_set ?_ GE106.out) | exact HB.out)) hb); clear HO_9; clear HO_10; clear BK106; clear HB; have HO_9 := n0_; have HO_10 := n1_; have BK106 := n2_; have HB := n3_; clear n0_ n1_ n2_ n3_; (try clear hb); (try clear hb2); (try clear hk); (try clear hi))); try go_wp2_with (first | (go_at_call 70; (with_reducible refine (dovetailref08_Shows.calls ((rd_T41 l0_3 x12_2).f0) _ _ ((rd_T41 l0_3 x12_2).f1) a2 a3 false _ ?side1 ?side2 A25.out).mono ?_); (case side1 => repeat (first | exact (Kd.C_below HR116_1.out HB.out) | (with_reducible refine Kd.C_alloc ?_ _) | (with_reducible refine Kd.C_drewN ?_ _) | (with_reducible refine Kd.C_drew ?_))); (case side2 => exact HC116_1.out); rintro e w53 ⟨rfl, hb⟩; have n0_ := Aside0.mk (Kd.R_below (by (with_reducible repeat (first | apply Kd.R_alloc | apply Kd.R_drewN | apply Kd.R_drew)); exact HO_9.out) hb); have n1_ := Aside0.mk (Kd.R_below (by (with_reducible repeat (first | apply Kd.R_alloc | apply Kd.R_drewN | apply Kd.R_drew)); exact HO_10.out) hb); have n2_ := Aside0.mk (blk_below (g := gb106) (o := .cells #[.slice A0_0 l0_0.length c0_0, .slice A0_1 l0_1.length c0_1, .int .i64 a0_2, .slice (some ad114) l0_3.length c0_3] 32 (0, 0)) (by (with_reducible repeat (first | refine blk_drewN ?_ _ | refine blk_drew ?_ | refine blk_alloc ?_ _)); exact BK106.out) hb); have n3_ := Aside0.mk (below_step (by repeat (first | (with_reducible first | exact HB.out | apply below_alloc | apply pw_below_drewN | apply below_drew1 | refine below_set ?_ GE106.out) | exact HB.out)) hb); clear HO_9; clear HO_10; clear BK106; clear HB; have HO_9 := n0_; have HO_10 := n1_; have BK106 := n2_; have HB := n3_; clear n0_ n1_ n2_ n3_; (try clear hb); (try clear hb2); (try clear hk); (try clear hi); have hcz54_0 : w53.cell? ⟨gb106, 0, none⟩ = some (.slice A0_0 l0_0.length c0_0) := (blk_cell BK106.out 0).trans rfl; have hcz54_1 : w53.cell? ⟨gb106, 1, none⟩ = some (.slice A0_1 l0_1.length c0_1) := (blk_cell BK106.out 1).trans rfl; have hcz54_2 : w53.cell? ⟨gb106, 2, none⟩ = some (.int .i64 a0_2) := (blk_cell BK106.out 2).trans rfl; have hcz54_3 : w53.cell? ⟨gb106, 3, none⟩ = some (.slice (some ad114) l0_3.length c0_3) := (blk_cell BK106.out 3).trans rfl; have hfz54_0 := blk_frozen BK106.out 0; have hfz54_1 := blk_frozen BK106.out 1; have hfz54_2 := blk_frozen BK106.out 2; have hfz54_3 := blk_frozen BK106.out 3; have p118 : 0 ≤ (x12_2 : Int) := of_decide_eq_true (by first | (with_reducible assumption) | assumption); have q118 : x12_2 < (l0_3.length : Int) := of_decide_eq_true (by first | (with_reducible assumption) | assumption); obtain ⟨ad118, A118_1, c118_1, e118, hx118_0, hx118_1, hl118_1, hi118_1⟩ := at_T41 HR0_3.out x12_2 p118 q118; obtain rfl : ad114 = ad118 := (by injection e118); replace hx118_0 := (HB.out.cell (World.block_lt_of_cell? w _ hx118_0)).trans hx118_0; replace hx118_1 := (HB.out.cell (World.block_lt_of_cell? w _ hx118_1)).trans hx118_1; have HR118_1 := Aside0.mk hi118_1; have HC118_1 := Aside0.mk hl118_1; clear hi118_1 hl118_1; replace p118 := eq_true p118; replace q118 := eq_true q118) | (go_at_call 72; (with_reducible refine (dovetailref08_Leads.calls ((rd_T41 l0_3 x12_2).f0) _ _ ((rd_T41 l0_3 x12_2).f1) a3 t119 _ ?side1 ?side2 A30.out).mono ?_); (case side1 => repeat (first | exact (Kd.C_below HR118_1.out HB.out) | (with_reducible refine Kd.C_alloc ?_ _) | (with_reducible refine Kd.C_drewN ?_ _) | (with_reducible refine Kd.C_drew ?_))); (case side2 => exact HC118_1.out); rintro e w55 ⟨rfl, hb⟩; have n0_ := Aside0.mk (Kd.R_below (by (with_reducible repeat (first | apply Kd.R_alloc | apply Kd.R_drewN | apply Kd.R_drew)); exact HO_9.out) hb); have n1_ := Aside0.mk (Kd.R_below (by (with_reducible repeat (first | apply Kd.R_alloc | apply Kd.R_drewN | apply Kd.R_drew)); exact HO_10.out) hb); have n2_ := Aside0.mk (blk_below (g := gb106) (o := .cells #[.slice A0_0 l0_0.length c0_0, .slice A0_1 l0_1.length c0_1, .int .i64 a0_2, .slice (some ad114) l0_3.length c0_3] 32 (0, 0)) (by (with_reducible repeat (first | refine blk_drewN ?_ _ | refine blk_drew ?_ | refine blk_alloc ?_ _)); exact BK106.out) hb); have n3_ := Aside0.mk (below_step (by repeat (first | (with_reducible first | exact HB.out | apply below_alloc | apply pw_below_drewN | apply below_drew1 | refine below_set ?_ GE106.out) | exact HB.out)) hb); clear HO_9; clear HO_10; clear BK106; clear HB; have HO_9 := n0_; have HO_10 := n1_; have BK106 := n2_; have HB := n3_; clear n0_ n1_ n2_ n3_; (try clear hb); (try clear hb2); (try clear hk); (try clear hi))))
                             (try simp only [← hl9_2])
                             go_roundg k2
                             case measure => have := HK1.out; have := HK2.out; omega
                             case rel => exact ⟨(x9_2), (x10_2), (wrap64 (x12_2 + 1)), (by first | rfl | (simp; done) | (simp [*]; done)), H', ⟨by have := HK1.out; have := HK2.out; omega⟩, ⟨by (try simp only [hl9_1]); (try simp only [hl9_2]); (with_reducible repeat (first | apply Kd.R_alloc | apply Kd.R_drewN | apply Kd.R_drew)); exact HO_9.out⟩, ⟨by (try simp only [hl9_1]); (try simp only [hl9_2]); (with_reducible repeat (first | apply Kd.R_alloc | apply Kd.R_drewN | apply Kd.R_drew)); exact HO_10.out⟩, ⟨by (try simp only [hl9_1]); (try simp only [hl9_2]); (with_reducible repeat (first | refine blk_drewN ?_ _ | refine blk_drew ?_ | refine blk_alloc ?_ _)); exact BK106.out⟩, ⟨by repeat (first | (with_reducible first | exact HB.out | apply below_alloc | apply pw_below_drewN | apply below_drew1 | refine below_set ?_ GE106.out) | exact HB.out)⟩⟩
                       · rw [if_neg c24] at H
                         have c24b0 : (((rd_T41 l0_3 x12_2).f0) == (rd x10_2 x11_1)) = false := beq_eq_false_iff_ne.mpr c24
                         have c24b1 : (((rd_T41 l0_3 x12_2).f0) != (rd x10_2 x11_1)) = true := bne_iff_ne.mpr c24
                         have H' := Aside0.mk H
                         clear H
                         have hcz56_0 : wr.cell? ⟨gb106, 0, none⟩ = some (.slice A0_0 l0_0.length c0_0) := (blk_cell BK106.out 0).trans rfl
                         have hcz56_1 : wr.cell? ⟨gb106, 1, none⟩ = some (.slice A0_1 l0_1.length c0_1) := (blk_cell BK106.out 1).trans rfl
                         have hcz56_2 : wr.cell? ⟨gb106, 2, none⟩ = some (.int .i64 a0_2) := (blk_cell BK106.out 2).trans rfl
                         have hcz56_3 : wr.cell? ⟨gb106, 3, none⟩ = some (.slice A0_3 l0_3.length c0_3) := (blk_cell BK106.out 3).trans rfl
                         have hfz56_0 := blk_frozen BK106.out 0
                         have hfz56_1 := blk_frozen BK106.out 1
                         have hfz56_2 := blk_frozen BK106.out 2
                         have hfz56_3 := blk_frozen BK106.out 3
                         have p114 : 0 ≤ (x12_2 : Int) := of_decide_eq_true (by first | (with_reducible assumption) | assumption)
                         have q114 : x12_2 < (l0_3.length : Int) := of_decide_eq_true (by first | (with_reducible assumption) | assumption)
                         obtain ⟨ad114, A114_1, c114_1, e114, hx114_0, hx114_1, hl114_1, hi114_1⟩ := at_T41 HR0_3.out x12_2 p114 q114
                         cases e114
                         replace hx114_0 := (HB.out.cell (World.block_lt_of_cell? w _ hx114_0)).trans hx114_0
                         replace hx114_1 := (HB.out.cell (World.block_lt_of_cell? w _ hx114_1)).trans hx114_1
                         have HR114_1 := Aside0.mk hi114_1
                         have HC114_1 := Aside0.mk hl114_1
                         clear hi114_1 hl114_1
                         replace p114 := eq_true p114
                         replace q114 := eq_true q114
                         obtain ⟨Ao57, co57, eo57⟩ := Kd.R_slice HO_10.out
                         subst eo57
                         have p115 : 0 ≤ (x11_1 : Int) := of_decide_eq_true (by first | (with_reducible assumption) | assumption)
                         have q115 : x11_1 < (x10_2.length : Int) := of_decide_eq_true (by first | (with_reducible assumption) | assumption)
                         obtain ⟨ad115, e115, hx115_0⟩ := Kd.at_int (Kd.R_reads' HO_10.out).2.2 x11_1 p115 q115
                         cases e115
                         replace p115 := eq_true p115
                         replace q115 := eq_true q115
                         go_wp2
                         repeat (go_quiet (fail); try go_wp2)
                         (try simp only [← hl9_2])
                         go_roundg k2
                         case measure => have := HK1.out; have := HK2.out; omega
                         case rel => exact ⟨(x9_2), (x10_2), (wrap64 (x12_2 + 1)), (by first | rfl | (simp; done) | (simp [*]; done)), H', ⟨by have := HK1.out; have := HK2.out; omega⟩, ⟨by (try simp only [hl9_1]); (try simp only [hl9_2]); (with_reducible repeat (first | apply Kd.R_alloc | apply Kd.R_drewN | apply Kd.R_drew)); exact HO_9.out⟩, ⟨by (try simp only [hl9_1]); (try simp only [hl9_2]); (with_reducible repeat (first | apply Kd.R_alloc | apply Kd.R_drewN | apply Kd.R_drew)); exact HO_10.out⟩, ⟨by (try simp only [hl9_1]); (try simp only [hl9_2]); (with_reducible repeat (first | refine blk_drewN ?_ _ | refine blk_drew ?_ | refine blk_alloc ?_ _)); exact BK106.out⟩, ⟨by repeat (first | (with_reducible first | exact HB.out | apply below_alloc | apply pw_below_drewN | apply below_drew1 | refine below_set ?_ GE106.out) | exact HB.out)⟩⟩
                     · rw [if_neg c23] at H
                       exact absurd H (by simp)
                   · rw [if_neg c22] at H
                     exact absurd H (by simp)
                 · rw [if_neg c21] at H
                   exact absurd H (by simp)
               · rw [if_neg c20] at H
                 have c20b0 : decide (x12_2 < (l0_3.length : Int)) = false := decide_eq_false c20
                 clear c20
                 have H' := Aside0.mk H
                 clear H
                 have hcz58_0 : wr.cell? ⟨gb106, 0, none⟩ = some (.slice A0_0 l0_0.length c0_0) := (blk_cell BK106.out 0).trans rfl
                 have hcz58_1 : wr.cell? ⟨gb106, 1, none⟩ = some (.slice A0_1 l0_1.length c0_1) := (blk_cell BK106.out 1).trans rfl
                 have hcz58_2 : wr.cell? ⟨gb106, 2, none⟩ = some (.int .i64 a0_2) := (blk_cell BK106.out 2).trans rfl
                 have hcz58_3 : wr.cell? ⟨gb106, 3, none⟩ = some (.slice A0_3 l0_3.length c0_3) := (blk_cell BK106.out 3).trans rfl
                 have hfz58_0 := blk_frozen BK106.out 0
                 have hfz58_1 := blk_frozen BK106.out 1
                 have hfz58_2 := blk_frozen BK106.out 2
                 have hfz58_3 := blk_frozen BK106.out 3
                 go_wp2
                 repeat (go_quiet (fail); try go_wp2)
                 (try simp only [← hl9_1, ← hl9_2])
                 go_roundg k2
                 case measure => have := HK1.out; have := HK2.out; omega
                 case rel => exact ⟨(x9_2), (x10_2), (wrap64 (x11_1 + 1)), (by first | rfl | (simp; done) | (simp [*]; done)), H', ⟨by have := HK1.out; have := HK2.out; omega⟩, ⟨by (try simp only [hl9_1]); (try simp only [hl9_2]); (with_reducible repeat (first | apply Kd.R_alloc | apply Kd.R_drewN | apply Kd.R_drew)); exact HO_9.out⟩, ⟨by (try simp only [hl9_1]); (try simp only [hl9_2]); (with_reducible repeat (first | apply Kd.R_alloc | apply Kd.R_drewN | apply Kd.R_drew)); exact HO_10.out⟩, ⟨by (try simp only [hl9_1]); (try simp only [hl9_2]); (with_reducible repeat (first | refine blk_drewN ?_ _ | refine blk_drew ?_ | refine blk_alloc ?_ _)); exact BK106.out⟩, ⟨by repeat (first | (with_reducible first | exact HB.out | apply below_alloc | apply pw_below_drewN | apply below_drew1 | refine below_set ?_ GE106.out) | exact HB.out)⟩⟩
           · rw [if_neg c18] at H
             have c18b0 : decide (x11_1 < (x10_1.length : Int)) = false := decide_eq_false c18
             clear c18
             obtain rfl := Option.some.inj H
             obtain ⟨Ao59, co59, eo59⟩ := Kd.R_slice HO_10.out
             subst eo59
             go_wp2
             repeat (go_quiet (fail); try go_wp2)
             go_ret
             exact ⟨by first | rfl | (simp [errW_none, errW_some] <;> rfl) | (simp [*, errW_none, errW_some] <;> rfl), by repeat (first | (with_reducible first | exact HB.out | apply below_alloc | apply pw_below_drewN | apply below_drew1 | refine below_set ?_ GE106.out) | exact HB.out)⟩
       · rw [if_neg c8] at H
         exact absurd H (by simp)
     · rw [if_neg c7] at H
       exact absurd H (by simp)
   · rw [if_neg c6] at H
     exact absurd H (by simp)
 · rw [if_neg c5] at H
   exact absurd H (by simp)

/-! ### dovetailref08_sets: function 66 -/
mutual
def dovetailref08_sets.l0 : Nat → Bool → List Int → Int → List ByteArray → List ByteArray → Int → List (S41) → Option (List Int)
 | 0, _, _, _, _, _, _, _ => none
 | k + 1, x1, x5, x6, x126000, x126001, x126002, x126003 => if x6 < (x126001.length : Int) then (dovetailref08_sets.l1 k x1 x5 x6 0 0 x126000 x126001 x126002 x126003) else (some x5)
def dovetailref08_sets.l1 : Nat → Bool → List Int → Int → Int → Int → List ByteArray → List ByteArray → Int → List (S41) → Option (List Int)
 | 0, _, _, _, _, _, _, _, _, _ => none
 | k + 1, x1, x5, x6, x7, x8, x126000, x126001, x126002, x126003 => if x8 < (x126000.length : Int) then ((dovetailref08_In.f k x126000 x126001 x126002 x126003 x6 x8 x1).bind fun t126 => (if t126 = true then (if 0 ≤ (IntKind.u64.wrap (x8)) then (dovetailref08_sets.l1 k x1 x5 x6 (Go.bits .or .u64 x7 (shl .u64 1 (IntKind.u64.wrap (x8)))) (wrap64 (x8 + 1)) x126000 x126001 x126002 x126003) else (none)) else (dovetailref08_sets.l1 k x1 x5 x6 x7 (wrap64 (x8 + 1)) x126000 x126001 x126002 x126003))) else (if x5.length < 17592186044416 then (dovetailref08_sets.l0 k x1 (x5 ++ [x7]) (wrap64 (x6 + 1)) x126000 x126001 x126002 x126003) else (none))
end
def dovetailref08_sets.f (k : Nat) (l0_0 : List ByteArray) (l0_1 : List ByteArray) (a0_2 : Int) (l0_3 : List (S41)) (a1 : Bool) : Option (List Int) := dovetailref08_sets.l0 k a1 ([] : List Int) 0 l0_0 l0_1 a0_2 l0_3
theorem dovetailref08_sets.mono_l : ∀ k, (∀ y0 y1 y2 y3 y4 y5 y6, LeO (dovetailref08_sets.l0 k y0 y1 y2 y3 y4 y5 y6) (dovetailref08_sets.l0 (k + 1) y0 y1 y2 y3 y4 y5 y6)) ∧ (∀ y0 y1 y2 y3 y4 y5 y6 y7 y8, LeO (dovetailref08_sets.l1 k y0 y1 y2 y3 y4 y5 y6 y7 y8) (dovetailref08_sets.l1 (k + 1) y0 y1 y2 y3 y4 y5 y6 y7 y8))
 | 0 => ⟨fun _ _ _ _ _ _ _ r h => by simp [dovetailref08_sets.l0] at h, fun _ _ _ _ _ _ _ _ _ r h => by simp [dovetailref08_sets.l1] at h⟩
 | k + 1 => by
  obtain ⟨ih0, ih1⟩ := dovetailref08_sets.mono_l k
  refine ⟨?_, ?_⟩
  · intro y0 y1 y2 y3 y4 y5 y6
    unfold dovetailref08_sets.l0
    repeat' first
    | (with_reducible exact ih0 _ _ _ _ _ _ _)
    | (with_reducible exact ih1 _ _ _ _ _ _ _ _ _)
    | (with_reducible exact dovetailref08_In.mono _ _ _ _ _ _ _ _)
    | (with_reducible exact LeO.refl _)
    | (with_reducible exact LeO.none _)
    | (with_reducible refine LeO.ite ?_ ?_)
    | (with_reducible refine LeO.bind ?_ (fun _ => ?_))
    | exact ih0 _ _ _ _ _ _ _
    | exact ih1 _ _ _ _ _ _ _ _ _
    | exact dovetailref08_In.mono _ _ _ _ _ _ _ _
    | exact LeO.none _
    | refine LeO.ite ?_ ?_
    | refine LeO.bind ?_ (fun _ => ?_)
  · intro y0 y1 y2 y3 y4 y5 y6 y7 y8
    unfold dovetailref08_sets.l1
    repeat' first
    | (with_reducible exact ih0 _ _ _ _ _ _ _)
    | (with_reducible exact ih1 _ _ _ _ _ _ _ _ _)
    | (with_reducible exact dovetailref08_In.mono _ _ _ _ _ _ _ _)
    | (with_reducible exact LeO.refl _)
    | (with_reducible exact LeO.none _)
    | (with_reducible refine LeO.ite ?_ ?_)
    | (with_reducible refine LeO.bind ?_ (fun _ => ?_))
    | exact ih0 _ _ _ _ _ _ _
    | exact ih1 _ _ _ _ _ _ _ _ _
    | exact dovetailref08_In.mono _ _ _ _ _ _ _ _
    | exact LeO.none _
    | refine LeO.ite ?_ ?_
    | refine LeO.bind ?_ (fun _ => ?_)
theorem dovetailref08_sets.mono : ∀ a0 a1 a2 a3 a4 k, LeO (dovetailref08_sets.f k a0 a1 a2 a3 a4) (dovetailref08_sets.f (k + 1) a0 a1 a2 a3 a4) := by
 intro a0 a1 a2 a3 a4 k
 obtain ⟨ih0, ih1⟩ := dovetailref08_sets.mono_l k
 unfold dovetailref08_sets.f
 repeat' first
  | (with_reducible exact ih0 _ _ _ _ _ _ _)
  | (with_reducible exact ih1 _ _ _ _ _ _ _ _ _)
  | (with_reducible exact dovetailref08_In.mono _ _ _ _ _ _ _ _)
  | (with_reducible exact LeO.refl _)
  | (with_reducible exact LeO.none _)
  | (with_reducible refine LeO.ite ?_ ?_)
  | (with_reducible refine LeO.bind ?_ (fun _ => ?_))
  | exact ih0 _ _ _ _ _ _ _
  | exact ih1 _ _ _ _ _ _ _ _ _
  | exact dovetailref08_In.mono _ _ _ _ _ _ _ _
  | exact LeO.none _
  | refine LeO.ite ?_ ?_
  | refine LeO.bind ?_ (fun _ => ?_)
set_option maxHeartbeats 8000000 in
set_option maxRecDepth 100000 in
theorem dovetailref08_sets.calls (k : Nat) (A0_0 : Option Addr) (c0_0 : Nat) (l0_0 : List ByteArray) (A0_1 : Option Addr) (c0_1 : Nat) (l0_1 : List ByteArray) (a0_2 : Int) (A0_3 : Option Addr) (c0_3 : Nat) (l0_3 : List (S41)) (a1 : Bool) (r : List Int) (w : World) (hr0_0 : Kd.C Kd.string w A0_0 l0_0.length l0_0) (hc0_0 : l0_0.length ≤ c0_0) (hr0_1 : Kd.C Kd.string w A0_1 l0_1.length l0_1) (hc0_1 : l0_1.length ≤ c0_1) (hr0_3 : Kd.C k41 w A0_3 l0_3.length l0_3) (hc0_3 : l0_3.length ≤ c0_3) (h : dovetailref08_sets.f k l0_0 l0_1 a0_2 l0_3 a1 = some r) :
 Calls Tryd.prog 66 #[.agg #[.slice A0_0 l0_0.length c0_0, .slice A0_1 l0_1.length c0_1, .int .i64 a0_2, .slice A0_3 l0_3.length c0_3], .bool a1] w fun e w' => ∃ v0_ : Value, e = .returned (v0_) ∧ Kd.R (Kd.int .u64) 45 w' w.heap.size (fun _ => True) v0_ r ∧ Below w.heap.size w w' := by
 have hu32 := Tryd.underlying32
 have HR0_0 := Aside0.mk hr0_0
 have HC0_0 := Aside0.mk hc0_0
 clear hr0_0 hc0_0
 have HR0_1 := Aside0.mk hr0_1
 have HC0_1 := Aside0.mk hc0_1
 clear hr0_1 hc0_1
 have HR0_3 := Aside0.mk hr0_3
 have HC0_3 := Aside0.mk hc0_3
 clear hr0_3 hc0_3
 have HB := Aside0.mk (Below.refl w.heap.size w)
 have H : (dovetailref08_sets.l0 k a1 ([] : List Int) 0 l0_0 l0_1 a0_2 l0_3) = some r := h
 clear h
 have H' := Aside0.mk H
 clear H
 go_enter Tryd.func66, Tryd.ntmps66
 go_wp2_with (first | ((with_reducible refine gate_dst (N := 2) rfl ?_); refine box_event ?hg (N := 2) ?hd (cs := #[.slice A0_0 l0_0.length c0_0, .slice A0_1 l0_1.length c0_1, .int .i64 a0_2, .slice A0_3 l0_3.length c0_3]) (t := 32) ?hr ?_; (case hd => rfl); (case hg => rfl); (case hr => first | (go_simp; done) | (go_simp; rfl)); intro gb125 hg w3 hbox hb; have n0_ := Aside0.mk (below_step (by repeat (first | (with_reducible first | exact HB.out | apply below_alloc | apply pw_below_drewN | apply below_drew1) | exact HB.out)) hb); have n1_ := Aside0.mk (hbox); have n2_ := Aside0.mk ((by rw [hg]; exact (below_size (by repeat (first | (with_reducible first | exact HB.out | apply below_alloc | apply pw_below_drewN | apply below_drew1) | exact HB.out))) : w.heap.size ≤ gb125)); have n3_ := Aside0.mk ((by rw [hg]; exact (below_size (by repeat (first | (with_reducible first | exact HB.out | apply below_alloc | apply pw_below_drewN | apply below_drew1) | exact HB.out))) : w.heap.size ≤ gb125)); clear HB; have HB := n0_; have BK125 := n1_; have GW125 := n2_; have GE125 := n3_; clear n0_ n1_ n2_ n3_; clear hb hbox hg))
 go_loopg [5, 6] k (fun kq v5 v6 w' => ∃ (x5_1 : List Int) (x6_1 : Int), v6 = .int .i64 x6_1 ∧ Aside0 (dovetailref08_sets.l0 kq a1 x5_1 x6_1 l0_0 l0_1 a0_2 l0_3 = some r) ∧ Aside0 (kq ≤ k) ∧ Aside0 (Kd.R (Kd.int .u64) 45 w' w.heap.size (fun _ => True) v5 x5_1) ∧ Aside0 (w'.heap[gb125]? = some (.cells #[(.slice A0_0 l0_0.length c0_0), (.slice A0_1 l0_1.length c0_1), .int .i64 a0_2, (.slice A0_3 l0_3.length c0_3)] 32 (0, 0))) ∧ Aside0 (Below w.heap.size w w'))
 case atStart => exact ⟨(([] : List Int)), (0), (by first | rfl | (simp; done) | (simp [*]; done)), H', ⟨Nat.le_refl _⟩, ⟨by first | exact Kd.R_nil _ _ _ _ _ | exact Kd.N_nil _ _ _ _ _ | exact Kd.V_nil _ _ _ _ _ | exact Kd.Q_nil _ _ _ _ _ | exact Kd.S_nil _ _ _ _ _⟩, ⟨by (with_reducible repeat (first | refine blk_drewN ?_ _ | refine blk_drew ?_ | refine blk_alloc ?_ _)); exact BK125.out⟩, ⟨by repeat (first | (with_reducible first | exact HB.out | apply below_alloc | apply pw_below_drewN | apply below_drew1 | refine below_set ?_ GE125.out) | exact HB.out)⟩⟩
 case round =>
  clear H'
  try clear p2
  obtain ⟨x5_1, x6_1, rfl, HA, HK1, HO_5, BK125, HB⟩ := hrel
  cases gk with
  | zero => exact absurd HA.out (by simp [dovetailref08_sets.l0])
  | succ k1 =>
   have H := HA.out
   clear HA
   simp only [dovetailref08_sets.l0] at H
   by_cases c4 : x6_1 < (l0_1.length : Int)
   · rw [if_pos c4] at H
     have c4b0 : decide (x6_1 < (l0_1.length : Int)) = true := decide_eq_true c4
     clear c4
     have H' := Aside0.mk H
     clear H
     have hcz5_0 : wr.cell? ⟨gb125, 0, none⟩ = some (.slice A0_0 l0_0.length c0_0) := (blk_cell BK125.out 0).trans rfl
     have hcz5_1 : wr.cell? ⟨gb125, 1, none⟩ = some (.slice A0_1 l0_1.length c0_1) := (blk_cell BK125.out 1).trans rfl
     have hcz5_2 : wr.cell? ⟨gb125, 2, none⟩ = some (.int .i64 a0_2) := (blk_cell BK125.out 2).trans rfl
     have hcz5_3 : wr.cell? ⟨gb125, 3, none⟩ = some (.slice A0_3 l0_3.length c0_3) := (blk_cell BK125.out 3).trans rfl
     have hfz5_0 := blk_frozen BK125.out 0
     have hfz5_1 := blk_frozen BK125.out 1
     have hfz5_2 := blk_frozen BK125.out 2
     have hfz5_3 := blk_frozen BK125.out 3
     go_wp2
     go_loopg [7, 8] k1 (fun kq v7 v8 w' => ∃ (x7_2 : Int) (x8_2 : Int), v7 = .int .u64 x7_2 ∧ v8 = .int .i64 x8_2 ∧ Aside0 (dovetailref08_sets.l1 kq a1 x5_1 x6_1 x7_2 x8_2 l0_0 l0_1 a0_2 l0_3 = some r) ∧ Aside0 (kq ≤ k1) ∧ Aside0 (Kd.R (Kd.int .u64) 45 w' w.heap.size (fun _ => True) u5 x5_1) ∧ Aside0 (w'.heap[gb125]? = some (.cells #[(.slice A0_0 l0_0.length c0_0), (.slice A0_1 l0_1.length c0_1), .int .i64 a0_2, (.slice A0_3 l0_3.length c0_3)] 32 (0, 0))) ∧ Aside0 (Below w.heap.size w w'))
     case atStart => exact ⟨(0), (0), (by first | rfl | (simp; done) | (simp [*]; done)), (by first | rfl | (simp; done) | (simp [*]; done)), H', ⟨Nat.le_refl _⟩, ⟨by (with_reducible repeat (first | apply Kd.R_alloc | apply Kd.R_drewN | apply Kd.R_drew)); exact HO_5.out⟩, ⟨by (with_reducible repeat (first | refine blk_drewN ?_ _ | refine blk_drew ?_ | refine blk_alloc ?_ _)); exact BK125.out⟩, ⟨by repeat (first | (with_reducible first | exact HB.out | apply below_alloc | apply pw_below_drewN | apply below_drew1 | refine below_set ?_ GE125.out) | exact HB.out)⟩⟩
     case round =>
      clear H'
      try clear p2
      try clear c4
      try clear c4b0
      try clear hcz5_0
      try clear hcz5_1
      try clear hcz5_2
      try clear hcz5_3
      try clear hfz5_0
      try clear hfz5_1
      try clear hfz5_2
      try clear hfz5_3
      try clear p2
      obtain ⟨x7_2, x8_2, rfl, rfl, HA, HK2, HO_5, BK125, HB⟩ := hrel
      cases gk with
      | zero => exact absurd HA.out (by simp [dovetailref08_sets.l1])
      | succ k2 =>
       have H := HA.out
       clear HA
       simp only [dovetailref08_sets.l1] at H
       by_cases c6 : x8_2 < (l0_0.length : Int)
       · rw [if_pos c6] at H
         have c6b0 : decide (x8_2 < (l0_0.length : Int)) = true := decide_eq_true c6
         clear c6
         replace H := Option.bind_eq_some_iff.mp H
         obtain ⟨t126, A70, H⟩ := H
         replace H : (if t126 = true then (if 0 ≤ (IntKind.u64.wrap (x8_2)) then (dovetailref08_sets.l1 k2 a1 x5_1 x6_1 (Go.bits .or .u64 x7_2 (shl .u64 1 (IntKind.u64.wrap (x8_2)))) (wrap64 (x8_2 + 1)) l0_0 l0_1 a0_2 l0_3) else (none)) else (dovetailref08_sets.l1 k2 a1 x5_1 x6_1 x7_2 (wrap64 (x8_2 + 1)) l0_0 l0_1 a0_2 l0_3)) = some r := H
         have A7 := Aside0.mk A70
         clear A70
         by_cases c8 : t126 = true
         · subst c8
           have H1 : (if 0 ≤ (IntKind.u64.wrap (x8_2)) then (dovetailref08_sets.l1 k2 a1 x5_1 x6_1 (Go.bits .or .u64 x7_2 (shl .u64 1 (IntKind.u64.wrap (x8_2)))) (wrap64 (x8_2 + 1)) l0_0 l0_1 a0_2 l0_3) else (none)) = some r := by rw [if_pos rfl] at H; exact H
           clear H
           have H := H1
           clear H1
           obtain ⟨ji9, hji9⟩ : ∃ j_ : Int, (IntKind.u64.wrap (x8_2)) = j_ := ⟨_, rfl⟩
           replace H : (if 0 ≤ (ji9) then (dovetailref08_sets.l1 k2 a1 x5_1 x6_1 (Go.bits .or .u64 x7_2 (shl .u64 1 (ji9))) (wrap64 (x8_2 + 1)) l0_0 l0_1 a0_2 l0_3) else (none)) = some r := by first | (rw [hji9] at H; exact H) | (simp only [hji9] at H ⊢; exact H)
           (try rw [hji9] at A7)
           by_cases c10 : 0 ≤ (ji9)
           · rw [if_pos c10] at H
             have c10b0 := eq_true c10
             have c10b1 : decide (0 ≤ (ji9)) = true := decide_eq_true c10
             clear c10
             obtain ⟨ji11, hji11⟩ : ∃ j_ : Int, (shl .u64 1 (ji9)) = j_ := ⟨_, rfl⟩
             replace H : (dovetailref08_sets.l1 k2 a1 x5_1 x6_1 (Go.bits .or .u64 x7_2 (ji11)) (wrap64 (x8_2 + 1)) l0_0 l0_1 a0_2 l0_3) = some r := by first | (rw [hji11] at H; exact H) | (simp only [hji11] at H ⊢; exact H)
             (try rw [hji11] at A7)
             have hji11_ : (IntKind.u64.wrap (1 * 2 ^ min (ji9).toNat 64)) = ji11 := hji11
             have hji11z : (ji9) ≤ 64 → (IntKind.u64.wrap (1 * 2 ^ (ji9).toNat)) = ji11 := shl_small hji11
             have hji11u : (IntKind.u64.wrap (2 ^ min (ji9).toNat 64)) = ji11 := by have h_ := hji11_; rw [Int.one_mul] at h_; exact h_
             have hji11v : (ji9) ≤ 64 → (IntKind.u64.wrap (2 ^ (ji9).toNat)) = ji11 := fun hle_ => by have h_ := hji11z hle_; rw [Int.one_mul] at h_; exact h_
             have H' := Aside0.mk H
             clear H
             have hcz12_0 : wr.cell? ⟨gb125, 0, none⟩ = some (.slice A0_0 l0_0.length c0_0) := (blk_cell BK125.out 0).trans rfl
             have hcz12_1 : wr.cell? ⟨gb125, 1, none⟩ = some (.slice A0_1 l0_1.length c0_1) := (blk_cell BK125.out 1).trans rfl
             have hcz12_2 : wr.cell? ⟨gb125, 2, none⟩ = some (.int .i64 a0_2) := (blk_cell BK125.out 2).trans rfl
             have hcz12_3 : wr.cell? ⟨gb125, 3, none⟩ = some (.slice A0_3 l0_3.length c0_3) := (blk_cell BK125.out 3).trans rfl
             have hfz12_0 := blk_frozen BK125.out 0
             have hfz12_1 := blk_frozen BK125.out 1
             have hfz12_2 := blk_frozen BK125.out 2
             have hfz12_3 := blk_frozen BK125.out 3
             go_wp2_with (first | ((with_reducible refine gate_callee (f := 90) rfl ?_); refine goesL_ (some 27) rfl rfl Tryd.func90 (by kernel_rfl) rfl #[.agg #[.slice A0_0 l0_0.length c0_0, .slice A0_1 l0_1.length c0_1, .int .i64 a0_2, .slice A0_3 l0_3.length c0_3], .int .i64 x6_1, .int .i64 x8_2, .bool a1] rfl (by (try simp only [List.map_toArray, List.map_cons, List.map_nil]); first | done | rfl | (simp only [List.length_drop, List.length_take]; rfl)) ?_; (with_reducible refine (dovetailref08_In.calls k2 _ _ l0_0 _ _ l0_1 a0_2 _ _ l0_3 x6_1 x8_2 a1 true _ ?side1 ?side2 ?side3 ?side4 ?side5 ?side6 A7.out).mono ?_); (case side1 => repeat (first | exact (Kd.C_below HR0_0.out HB.out) | (with_reducible refine Kd.C_alloc ?_ _) | (with_reducible refine Kd.C_drewN ?_ _) | (with_reducible refine Kd.C_drew ?_))); (case side2 => exact HC0_0.out); (case side3 => repeat (first | exact (Kd.C_below HR0_1.out HB.out) | (with_reducible refine Kd.C_alloc ?_ _) | (with_reducible refine Kd.C_drewN ?_ _) | (with_reducible refine Kd.C_drew ?_))); (case side4 => exact HC0_1.out); (case side5 => repeat (first | exact (Kd.C_below HR0_3.out HB.out) | (with_reducible refine Kd.C_alloc ?_ _) | (with_reducible refine Kd.C_drewN ?_ _) | (with_reducible refine Kd.C_drew ?_))); (case side6 => exact HC0_3.out); rintro e w13 ⟨rfl, hb⟩; refine ⟨_, rfl, ?_⟩; have n0_ := Aside0.mk (Kd.R_below (by (with_reducible repeat (first | apply Kd.R_alloc | apply Kd.R_drewN | apply Kd.R_drew)); exact HO_5.out) hb); have n1_ := Aside0.mk (blk_below (g := gb125) (o := .cells #[.slice A0_0 l0_0.length c0_0, .slice A0_1 l0_1.length c0_1, .int .i64 a0_2, .slice A0_3 l0_3.length c0_3] 32 (0, 0)) (by (with_reducible repeat (first | refine blk_drewN ?_ _ | refine blk_drew ?_ | refine blk_alloc ?_ _)); exact BK125.out) hb); have n2_ := Aside0.mk (below_step (by repeat (first | (with_reducible first | exact HB.out | apply below_alloc | apply pw_below_drewN | apply below_drew1 | refine below_set ?_ GE125.out) | exact HB.out)) hb); clear HO_5; clear BK125; clear HB; have HO_5 := n0_; have BK125 := n1_; have HB := n2_; clear n0_ n1_ n2_; (try clear hb); (try clear hb2); (try clear hk); (try clear hi)))
             go_roundg k2
             case measure => have := HK1.out; have := HK2.out; omega
             case rel => exact ⟨(Go.bits .or .u64 x7_2 (ji11)), (wrap64 (x8_2 + 1)), (by first | rfl | (simp; done) | (simp only [← hji11] <;> (first | rfl | simp)) | (simp [*]; done)), (by first | rfl | (simp; done) | (simp [*]; done)), H', ⟨by have := HK1.out; have := HK2.out; omega⟩, ⟨by (with_reducible repeat (first | apply Kd.R_alloc | apply Kd.R_drewN | apply Kd.R_drew)); exact HO_5.out⟩, ⟨by (with_reducible repeat (first | refine blk_drewN ?_ _ | refine blk_drew ?_ | refine blk_alloc ?_ _)); exact BK125.out⟩, ⟨by repeat (first | (with_reducible first | exact HB.out | apply below_alloc | apply pw_below_drewN | apply below_drew1 | refine below_set ?_ GE125.out) | exact HB.out)⟩⟩
           · rw [if_neg c10] at H
             exact absurd H (by simp)
         · replace c8 := Bool.eq_false_iff.mpr c8
           subst c8
           have H1 : (dovetailref08_sets.l1 k2 a1 x5_1 x6_1 x7_2 (wrap64 (x8_2 + 1)) l0_0 l0_1 a0_2 l0_3) = some r := by rw [if_neg (show ¬ (false = true) by decide)] at H; exact H
           clear H
           have H := H1
           clear H1
           have H' := Aside0.mk H
           clear H
           have hcz14_0 : wr.cell? ⟨gb125, 0, none⟩ = some (.slice A0_0 l0_0.length c0_0) := (blk_cell BK125.out 0).trans rfl
           have hcz14_1 : wr.cell? ⟨gb125, 1, none⟩ = some (.slice A0_1 l0_1.length c0_1) := (blk_cell BK125.out 1).trans rfl
           have hcz14_2 : wr.cell? ⟨gb125, 2, none⟩ = some (.int .i64 a0_2) := (blk_cell BK125.out 2).trans rfl
           have hcz14_3 : wr.cell? ⟨gb125, 3, none⟩ = some (.slice A0_3 l0_3.length c0_3) := (blk_cell BK125.out 3).trans rfl
           have hfz14_0 := blk_frozen BK125.out 0
           have hfz14_1 := blk_frozen BK125.out 1
           have hfz14_2 := blk_frozen BK125.out 2
           have hfz14_3 := blk_frozen BK125.out 3
           go_wp2_with (first | ((with_reducible refine gate_callee (f := 90) rfl ?_); refine goesL_ (some 27) rfl rfl Tryd.func90 (by kernel_rfl) rfl #[.agg #[.slice A0_0 l0_0.length c0_0, .slice A0_1 l0_1.length c0_1, .int .i64 a0_2, .slice A0_3 l0_3.length c0_3], .int .i64 x6_1, .int .i64 x8_2, .bool a1] rfl (by (try simp only [List.map_toArray, List.map_cons, List.map_nil]); first | done | rfl | (simp only [List.length_drop, List.length_take]; rfl)) ?_; (with_reducible refine (dovetailref08_In.calls k2 _ _ l0_0 _ _ l0_1 a0_2 _ _ l0_3 x6_1 x8_2 a1 false _ ?side1 ?side2 ?side3 ?side4 ?side5 ?side6 A7.out).mono ?_); (case side1 => repeat (first | exact (Kd.C_below HR0_0.out HB.out) | (with_reducible refine Kd.C_alloc ?_ _) | (with_reducible refine Kd.C_drewN ?_ _) | (with_reducible refine Kd.C_drew ?_))); (case side2 => exact HC0_0.out); (case side3 => repeat (first | exact (Kd.C_below HR0_1.out HB.out) | (with_reducible refine Kd.C_alloc ?_ _) | (with_reducible refine Kd.C_drewN ?_ _) | (with_reducible refine Kd.C_drew ?_))); (case side4 => exact HC0_1.out); (case side5 => repeat (first | exact (Kd.C_below HR0_3.out HB.out) | (with_reducible refine Kd.C_alloc ?_ _) | (with_reducible refine Kd.C_drewN ?_ _) | (with_reducible refine Kd.C_drew ?_))); (case side6 => exact HC0_3.out); rintro e w15 ⟨rfl, hb⟩; refine ⟨_, rfl, ?_⟩; have n0_ := Aside0.mk (Kd.R_below (by (with_reducible repeat (first | apply Kd.R_alloc | apply Kd.R_drewN | apply Kd.R_drew)); exact HO_5.out) hb); have n1_ := Aside0.mk (blk_below (g := gb125) (o := .cells #[.slice A0_0 l0_0.length c0_0, .slice A0_1 l0_1.length c0_1, .int .i64 a0_2, .slice A0_3 l0_3.length c0_3] 32 (0, 0)) (by (with_reducible repeat (first | refine blk_drewN ?_ _ | refine blk_drew ?_ | refine blk_alloc ?_ _)); exact BK125.out) hb); have n2_ := Aside0.mk (below_step (by repeat (first | (with_reducible first | exact HB.out | apply below_alloc | apply pw_below_drewN | apply below_drew1 | refine below_set ?_ GE125.out) | exact HB.out)) hb); clear HO_5; clear BK125; clear HB; have HO_5 := n0_; have BK125 := n1_; have HB := n2_; clear n0_ n1_ n2_; (try clear hb); (try clear hb2); (try clear hk); (try clear hi)))
           go_roundg k2
           case measure => have := HK1.out; have := HK2.out; omega
           case rel => exact ⟨(x7_2), (wrap64 (x8_2 + 1)), (by first | rfl | (simp; done) | (simp [*]; done)), (by first | rfl | (simp; done) | (simp [*]; done)), H', ⟨by have := HK1.out; have := HK2.out; omega⟩, ⟨by (with_reducible repeat (first | apply Kd.R_alloc | apply Kd.R_drewN | apply Kd.R_drew)); exact HO_5.out⟩, ⟨by (with_reducible repeat (first | refine blk_drewN ?_ _ | refine blk_drew ?_ | refine blk_alloc ?_ _)); exact BK125.out⟩, ⟨by repeat (first | (with_reducible first | exact HB.out | apply below_alloc | apply pw_below_drewN | apply below_drew1 | refine below_set ?_ GE125.out) | exact HB.out)⟩⟩
       · rw [if_neg c6] at H
         have c6b0 : decide (x8_2 < (l0_0.length : Int)) = false := decide_eq_false c6
         clear c6
         by_cases c16 : x5_1.length < 17592186044416
         · rw [if_pos c16] at H
           have LMc16 := Aside0.mk c16
           clear c16
           obtain ⟨y127, hy127⟩ : ∃ y_ : List Int, y_ = (x5_1 ++ [x7_2]) := ⟨_, rfl⟩
           replace H : (dovetailref08_sets.l0 k2 a1 y127 (wrap64 (x6_1 + 1)) l0_0 l0_1 a0_2 l0_3) = some r := by first | (rw [hy127]; with_reducible exact H) | (have H2_ := (Option.bind_some _ _).symm.trans H; rw [hy127]; with_reducible exact H2_) | (have H2_ := (Option.bind_some _ _).symm.trans H; with_reducible exact H2_) | with_reducible exact H | (rw [hy127]; exact H) | exact H
           have Ny127 := Aside0.mk hy127
           clear hy127
           have H' := Aside0.mk H
           clear H
           have hcz17_0 : wr.cell? ⟨gb125, 0, none⟩ = some (.slice A0_0 l0_0.length c0_0) := (blk_cell BK125.out 0).trans rfl
           have hcz17_1 : wr.cell? ⟨gb125, 1, none⟩ = some (.slice A0_1 l0_1.length c0_1) := (blk_cell BK125.out 1).trans rfl
           have hcz17_2 : wr.cell? ⟨gb125, 2, none⟩ = some (.int .i64 a0_2) := (blk_cell BK125.out 2).trans rfl
           have hcz17_3 : wr.cell? ⟨gb125, 3, none⟩ = some (.slice A0_3 l0_3.length c0_3) := (blk_cell BK125.out 3).trans rfl
           have hfz17_0 := blk_frozen BK125.out 0
           have hfz17_1 := blk_frozen BK125.out 1
           have hfz17_2 := blk_frozen BK125.out 2
           have hfz17_3 := blk_frozen BK125.out 3
           go_wp2_with (first | ((with_reducible refine gate_builtin (b := .append) (xs := #[.tmp 33, .tmp 35]) rfl ?_); at_builtin; refine Kd.R_append (Kd.int .u64) (w0 := w) w.heap.size rfl (.tmp 33) (.tmp 35) 34 45 (.int .u64 0) 8 rfl Tryd.underlying34 info45 rfl (by decide) (by omega) u5 x5_1 x7_2 [.int .u64 x7_2] (fun _ => True) (fun _ => False) rfl rfl ?aP (fun _ hk => hk.elim) ?aF ?aO ?aB ?aS ?aL ?_; (case aP => exact rfl); (case aB => exact (by repeat (first | (with_reducible first | exact HB.out | apply below_alloc | apply pw_below_drewN | apply below_drew1 | refine below_set ?_ GE125.out) | exact HB.out))); (case aF => exact (fun _ _ => trivial)); (case aO => exact (by (with_reducible repeat (first | apply Kd.R_alloc | apply Kd.R_drewN | apply Kd.R_drew)); exact HO_5.out)); (case aS => exact (below_size (by repeat (first | (with_reducible first | exact HB.out | apply below_alloc | apply pw_below_drewN | apply below_drew1 | refine below_set ?_ GE125.out) | exact HB.out)))); (case aL => have := LMc16.out; omega); intro v128 w18 ho hb hg hat; rw [← Ny127.out] at ho; have n0_ := Aside0.mk (blk_grown (g := gb125) (o := .cells #[.slice A0_0 l0_0.length c0_0, .slice A0_1 l0_1.length c0_1, .int .i64 a0_2, .slice A0_3 l0_3.length c0_3] 32 (0, 0)) (by (with_reducible repeat (first | refine blk_drewN ?_ _ | refine blk_drew ?_ | refine blk_alloc ?_ _)); exact BK125.out) hg (Kd.R_ne HO_5.out BK125.out (by decide))); have n1_ := Aside0.mk (hb); have n2_ := Aside0.mk (ho); clear BK125; clear HB; clear HO_5; have BK125 := n0_; have HB := n1_; have HO129 := n2_; clear n0_ n1_ n2_; clear ho hb hg hat))
           go_roundg k2
           case measure => have := HK1.out; have := HK2.out; omega
           case rel => exact ⟨(y127), (wrap64 (x6_1 + 1)), (by first | rfl | (simp; done) | (simp [*]; done)), H', ⟨by have := HK1.out; have := HK2.out; omega⟩, ⟨by (with_reducible repeat (first | apply Kd.R_alloc | apply Kd.R_drewN | apply Kd.R_drew)); exact HO129.out⟩, ⟨by (with_reducible repeat (first | refine blk_drewN ?_ _ | refine blk_drew ?_ | refine blk_alloc ?_ _)); exact BK125.out⟩, ⟨by repeat (first | (with_reducible first | exact HB.out | apply below_alloc | apply pw_below_drewN | apply below_drew1 | refine below_set ?_ GE125.out) | exact HB.out)⟩⟩
         · rw [if_neg c16] at H
           exact absurd H (by simp)
   · rw [if_neg c4] at H
     have c4b0 : decide (x6_1 < (l0_1.length : Int)) = false := decide_eq_false c4
     clear c4
     obtain rfl := Option.some.inj H
     have hcz19_0 : wr.cell? ⟨gb125, 0, none⟩ = some (.slice A0_0 l0_0.length c0_0) := (blk_cell BK125.out 0).trans rfl
     have hcz19_1 : wr.cell? ⟨gb125, 1, none⟩ = some (.slice A0_1 l0_1.length c0_1) := (blk_cell BK125.out 1).trans rfl
     have hcz19_2 : wr.cell? ⟨gb125, 2, none⟩ = some (.int .i64 a0_2) := (blk_cell BK125.out 2).trans rfl
     have hcz19_3 : wr.cell? ⟨gb125, 3, none⟩ = some (.slice A0_3 l0_3.length c0_3) := (blk_cell BK125.out 3).trans rfl
     have hfz19_0 := blk_frozen BK125.out 0
     have hfz19_1 := blk_frozen BK125.out 1
     have hfz19_2 := blk_frozen BK125.out 2
     have hfz19_3 := blk_frozen BK125.out 3
     go_wp2
     go_ret
     exact ⟨_, by first | rfl | (simp [errW_none, errW_some] <;> rfl) | (simp [*, errW_none, errW_some] <;> rfl), by (with_reducible repeat (first | apply Kd.R_alloc | apply Kd.R_drewN | apply Kd.R_drew)); exact HO_5.out, by repeat (first | (with_reducible first | exact HB.out | apply below_alloc | apply pw_below_drewN | apply below_drew1 | refine below_set ?_ GE125.out) | exact HB.out)⟩

end Go.Proofs.YtjkifeladmhkoaaDoor.Er
namespace Go.Proofs.YtjkifeladmhkoaaDoor.Er
open Go.Proofs.YtjkifeladmhkoaaDoor.B (S41 z41 k41 k41_open k41_openM k41_mk k41_mkM rd_T41 at_T41 dovetailref03_Check.f dovetailref03_Check.calls dovetailref03_Check.mono)
open Go.Proofs.YtjkifeladmhkoaaDoor.E8 (dovetailref08_Shows.f dovetailref08_Shows.calls dovetailref08_Leads.f dovetailref08_Leads.calls)
open Go.RowKit Go.Proofs.YtjkifeladmhkoaaDoorW.PrintWords Go.Proofs.YtjkifeladmhkoaaDoorW.PrintLast Go.Proofs.YtjkifeladmhkoaaDoorW.PrintMore
attribute [local go_sem] max2_int min2_int max_two min_two max_three min_three max_four min_four   -- for this text's walks alone
set_option linter.unusedVariables false
set_option linter.unusedSimpArgs false

/-! ### dovetailref08_Of: function 27 -/
def dovetailref08_Of.f (k : Nat) (l0_0 : List ByteArray) (l0_1 : List ByteArray) (a0_2 : Int) (l0_3 : List (S41)) : Option (List Int × List Int × Int × Int) := (dovetailref03_Check.f k l0_0 l0_1 a0_2 l0_3).bind fun bt131 => (if bt131.1 = 0 then ((dovetailref08_sets.f k l0_0 l0_1 a0_2 l0_3 false).bind fun t133 => ((dovetailref08_sets.f k l0_0 l0_1 a0_2 l0_3 true).bind fun t136 => (some (t133, t136, 0, (-1))))) else (some (([] : List Int), ([] : List Int), bt131.1, bt131.2)))
theorem dovetailref08_Of.mono : ∀ a0 a1 a2 a3 k, LeO (dovetailref08_Of.f k a0 a1 a2 a3) (dovetailref08_Of.f (k + 1) a0 a1 a2 a3) := by
 intro a0 a1 a2 a3 k
 unfold dovetailref08_Of.f
 repeat' first
  | (with_reducible exact dovetailref03_Check.mono _ _ _ _ _)
  | (with_reducible exact dovetailref08_sets.mono _ _ _ _ _ _)
  | (with_reducible exact LeO.refl _)
  | (with_reducible exact LeO.none _)
  | (with_reducible refine LeO.ite ?_ ?_)
  | (with_reducible refine LeO.bind ?_ (fun _ => ?_))
  | exact dovetailref03_Check.mono _ _ _ _ _
  | exact dovetailref08_sets.mono _ _ _ _ _ _
  | exact LeO.none _
  | refine LeO.ite ?_ ?_
  | refine LeO.bind ?_ (fun _ => ?_)
def dovetailref08_Of.T4 : Bool × List (List Nat × List Nat) := (true, [([], []), ([0], [0]), ([], []), ([2, 1], [2]), ([1, 3, 0, 1], [1]), ([3, 4, 0, 1, 2, 3, 4], [3]), ([5, 0, 1, 2, 3, 4, 5], []), ([6, 0, 1, 2, 3, 4, 5, 6], [])])
def dovetailref08_Of.B4 : List Nat := [0, 1, 0, 7, 15, 31, 63, 127]
theorem dovetailref08_Of.tab4 : rtab .any (opsOf Tryd.f27 4) = dovetailref08_Of.T4 := by kernel_rfl
theorem dovetailref08_Of.bits4 : waitsOk dovetailref08_Of.T4.2 dovetailref08_Of.B4 = true := by kernel_rfl
set_option maxHeartbeats 8000000 in
set_option maxRecDepth 100000 in
theorem dovetailref08_Of.calls (k : Nat) (A0_0 : Option Addr) (c0_0 : Nat) (l0_0 : List ByteArray) (A0_1 : Option Addr) (c0_1 : Nat) (l0_1 : List ByteArray) (a0_2 : Int) (A0_3 : Option Addr) (c0_3 : Nat) (l0_3 : List (S41)) (r1 : List Int) (r2 : List Int) (r3 : Int) (r4 : Int) (w : World) (hr0_0 : Kd.C Kd.string w A0_0 l0_0.length l0_0) (hc0_0 : l0_0.length ≤ c0_0) (hr0_1 : Kd.C Kd.string w A0_1 l0_1.length l0_1) (hc0_1 : l0_1.length ≤ c0_1) (hr0_3 : Kd.C k41 w A0_3 l0_3.length l0_3) (hc0_3 : l0_3.length ≤ c0_3) (h : dovetailref08_Of.f k l0_0 l0_1 a0_2 l0_3 = some (r1, r2, r3, r4)) :
 Calls Tryd.prog 27 #[.agg #[.slice A0_0 l0_0.length c0_0, .slice A0_1 l0_1.length c0_1, .int .i64 a0_2, .slice A0_3 l0_3.length c0_3]] w fun e w' => ∃ v0_ v1_ : Value, e = .returned (.tuple #[v0_, v1_, .int .i64 r3, .int .i64 r4]) ∧ Kd.R (Kd.int .u64) 45 w' w.heap.size (fun k_ => some k_ ≠ (v1_ : Value).ownBlock) v0_ r1 ∧ Kd.R (Kd.int .u64) 45 w' w.heap.size (fun k_ => some k_ ≠ (v0_ : Value).ownBlock) v1_ r2 ∧ Below w.heap.size w w' := by
 have hu32 := Tryd.underlying32
 have HR0_0 := Aside0.mk hr0_0
 have HC0_0 := Aside0.mk hc0_0
 clear hr0_0 hc0_0
 have HR0_1 := Aside0.mk hr0_1
 have HC0_1 := Aside0.mk hc0_1
 clear hr0_1 hc0_1
 have HR0_3 := Aside0.mk hr0_3
 have HC0_3 := Aside0.mk hc0_3
 clear hr0_3 hc0_3
 have HB := Aside0.mk (Below.refl w.heap.size w)
 have H : ((dovetailref03_Check.f k l0_0 l0_1 a0_2 l0_3).bind fun bt131 => (if bt131.1 = 0 then ((dovetailref08_sets.f k l0_0 l0_1 a0_2 l0_3 false).bind fun t133 => ((dovetailref08_sets.f k l0_0 l0_1 a0_2 l0_3 true).bind fun t136 => (some (t133, t136, 0, (-1))))) else (some (([] : List Int), ([] : List Int), bt131.1, bt131.2)))) = some (r1, r2, r3, r4) := h
 clear h
 replace H := Option.bind_eq_some_iff.mp H
 obtain ⟨⟨t131, t132⟩, A20, H⟩ := H
 replace H : (if t131 = 0 then ((dovetailref08_sets.f k l0_0 l0_1 a0_2 l0_3 false).bind fun t133 => ((dovetailref08_sets.f k l0_0 l0_1 a0_2 l0_3 true).bind fun t136 => (some (t133, t136, 0, (-1))))) else (some (([] : List Int), ([] : List Int), t131, t132))) = some (r1, r2, r3, r4) := H
 have A2 := Aside0.mk A20
 clear A20
 by_cases c3 : t131 = 0
 · rw [if_pos c3] at H
   have c3b0 : (t131 == 0) = true := beq_iff_eq.mpr c3
   have c3b1 : (t131 != 0) = false := bne_eq_false_iff_eq.mpr c3
   clear c3
   replace H := Option.bind_eq_some_iff.mp H
   obtain ⟨t133, A40, H⟩ := H
   replace H : ((dovetailref08_sets.f k l0_0 l0_1 a0_2 l0_3 true).bind fun t136 => (some (t133, t136, 0, (-1)))) = some (r1, r2, r3, r4) := H
   have A4 := Aside0.mk A40
   clear A40
   replace H := Option.bind_eq_some_iff.mp H
   obtain ⟨t136, A50, H⟩ := H
   replace H : (some (t133, t136, 0, (-1))) = some (r1, r2, r3, r4) := H
   have A5 := Aside0.mk A50
   clear A50
   simp only [Option.some.injEq, Prod.mk.injEq] at H
   obtain ⟨rfl, rfl, rfl, rfl⟩ := H
   go_enter Tryd.func27, Tryd.ntmps27
   try go_wp2_with (first | ((with_reducible refine gate_dst (N := 1) rfl ?_); refine box_event ?hg (N := 1) ?hd (cs := #[.slice A0_0 l0_0.length c0_0, .slice A0_1 l0_1.length c0_1, .int .i64 a0_2, .slice A0_3 l0_3.length c0_3]) (t := 32) ?hr ?_; (case hd => rfl); (case hg => rfl); (case hr => first | (go_simp; done) | (go_simp; rfl)); intro gb130 hg w6 hbox hb; have n0_ := Aside0.mk (below_step (by repeat (first | (with_reducible first | exact HB.out | apply below_alloc | apply pw_below_drewN | apply below_drew1) | exact HB.out)) hb); have n1_ := Aside0.mk (hbox); have n2_ := Aside0.mk ((by rw [hg]; exact (below_size (by repeat (first | (with_reducible first | exact HB.out | apply below_alloc | apply pw_below_drewN | apply below_drew1) | exact HB.out))) : w.heap.size ≤ gb130)); have n3_ := Aside0.mk ((by rw [hg]; exact (below_size (by repeat (first | (with_reducible first | exact HB.out | apply below_alloc | apply pw_below_drewN | apply below_drew1) | exact HB.out))) : w.heap.size ≤ gb130)); clear HB; have HB := n0_; have BK130 := n1_; have GW130 := n2_; have GE130 := n3_; clear n0_ n1_ n2_ n3_; clear hb hbox hg; have hcz7_0 : w6.cell? ⟨gb130, 0, none⟩ = some (.slice A0_0 l0_0.length c0_0) := (blk_cell BK130.out 0).trans rfl; have hcz7_1 : w6.cell? ⟨gb130, 1, none⟩ = some (.slice A0_1 l0_1.length c0_1) := (blk_cell BK130.out 1).trans rfl; have hcz7_2 : w6.cell? ⟨gb130, 2, none⟩ = some (.int .i64 a0_2) := (blk_cell BK130.out 2).trans rfl; have hcz7_3 : w6.cell? ⟨gb130, 3, none⟩ = some (.slice A0_3 l0_3.length c0_3) := (blk_cell BK130.out 3).trans rfl; have hfz7_0 := blk_frozen BK130.out 0; have hfz7_1 := blk_frozen BK130.out 1; have hfz7_2 := blk_frozen BK130.out 2; have hfz7_3 := blk_frozen BK130.out 3) | ((with_reducible refine gate_callee (f := 65) rfl ?_); refine goesL_ (some 10) rfl rfl Tryd.func65 (by kernel_rfl) rfl #[.agg #[.slice A0_0 l0_0.length c0_0, .slice A0_1 l0_1.length c0_1, .int .i64 a0_2, .slice A0_3 l0_3.length c0_3]] rfl (by (try simp only [List.map_toArray, List.map_cons, List.map_nil]); first | done | rfl | (simp only [List.length_drop, List.length_take]; rfl)) ?_; (with_reducible refine (dovetailref03_Check.calls k _ _ l0_0 _ _ l0_1 a0_2 _ _ l0_3 t131 t132 _ ?side1 ?side2 ?side3 ?side4 ?side5 ?side6 A2.out).mono ?_); (case side1 => repeat (first | exact (Kd.C_below HR0_0.out HB.out) | (with_reducible refine Kd.C_alloc ?_ _) | (with_reducible refine Kd.C_drewN ?_ _) | (with_reducible refine Kd.C_drew ?_))); (case side2 => exact HC0_0.out); (case side3 => repeat (first | exact (Kd.C_below HR0_1.out HB.out) | (with_reducible refine Kd.C_alloc ?_ _) | (with_reducible refine Kd.C_drewN ?_ _) | (with_reducible refine Kd.C_drew ?_))); (case side4 => exact HC0_1.out); (case side5 => repeat (first | exact (Kd.C_below HR0_3.out HB.out) | (with_reducible refine Kd.C_alloc ?_ _) | (with_reducible refine Kd.C_drewN ?_ _) | (with_reducible refine Kd.C_drew ?_))); (case side6 => exact HC0_3.out); rintro e w8 ⟨rfl, hb⟩; refine ⟨_, rfl, ?_⟩; have n0_ := Aside0.mk (blk_below (g := gb130) (o := .cells #[.slice A0_0 l0_0.length c0_0, .slice A0_1 l0_1.length c0_1, .int .i64 a0_2, .slice A0_3 l0_3.length c0_3] 32 (0, 0)) (by (with_reducible repeat (first | refine blk_drewN ?_ _ | refine blk_drew ?_ | refine blk_alloc ?_ _)); exact BK130.out) hb); have n1_ := Aside0.mk (below_step (by repeat (first | (with_reducible first | exact HB.out | apply below_alloc | apply pw_below_drewN | apply below_drew1 | refine below_set ?_ GE130.out) | exact HB.out)) hb); clear BK130; clear HB; have BK130 := n0_; have HB := n1_; clear n0_ n1_; (try clear hb); (try clear hb2); (try clear hk); (try clear hi)))
   have n0_ := Aside0.mk (blk_drew BK130.out)
   have n1_ := Aside0.mk (below_drew1 HB.out)
   clear BK130
   clear HB
   have BK130 := n0_
   have HB := n1_
   clear n0_ n1_
   refine start_ (n := 8) (S := fun w' => w'.cell? ⟨gb130, 0, none⟩ = some (.slice A0_0 l0_0.length c0_0) ∧ w'.cell? ⟨gb130, 1, none⟩ = some (.slice A0_1 l0_1.length c0_1) ∧ w'.cell? ⟨gb130, 2, none⟩ = some (.int .i64 a0_2) ∧ w'.cell? ⟨gb130, 3, none⟩ = some (.slice A0_3 l0_3.length c0_3)) (ds := []) #[false, false, false, false, false, false, false, false] (by kernel_rfl) rfl rfl ⟨(blk_cell BK130.out 0).trans rfl, (blk_cell BK130.out 1).trans rfl, (blk_cell BK130.out 2).trans rfl, (blk_cell BK130.out 3).trans rfl⟩ (fun hHeld => ?_); refine with_tabW dovetailref08_Of.tab4 dovetailref08_Of.bits4 (fun HT_ HW_ => ?_)
   generalize w8.drew = w9 at BK130 HB hHeld ⊢
   refine take_ (i := 0) (N := some 17) (v := ?_) (a' := ?_) #[true, false, false, false, false, false, false, false] rfl rfl (take_ofW HT_.out HW_.out (by kernel_rfl)) (fun _ _ _ h => h) (Or.inl ⟨by rfl, ?_⟩) hHeld ?_ ?_
   rotate_left
   · rintro w' ⟨s0, s1, s2, s3⟩
     go_simp
     with_reducible rfl
   rotate_left
   · simp only [Act.put, List.setIfInBounds_toArray, List.set_cons_zero, List.set_cons_succ, i64_w, i32_w]
     rfl
   refine take_ (i := 2) (N := some 19) (v := ?_) (a' := ?_) #[true, false, true, false, false, false, false, false] rfl rfl (take_ofW HT_.out HW_.out (by kernel_rfl)) (fun _ _ _ h => h) (Or.inl ⟨by rfl, ?_⟩) hHeld ?_ ?_
   rotate_left
   · rintro w' ⟨s0, s1, s2, s3⟩
     go_simp
     with_reducible rfl
   rotate_left
   · simp only [Act.put, List.setIfInBounds_toArray, List.set_cons_zero, List.set_cons_succ, i64_w, i32_w]
     rfl
   refine one_ (i := 1) (N := some 18) #[true, true, true, false, false, false, false, false] rfl rfl (one_of HT_.out (by kernel_rfl)) (by decide) (fun K hK => ?_)
   refine goes_ Tryd.func66 (by kernel_rfl) rfl #[.agg #[.slice A0_0 l0_0.length c0_0, .slice A0_1 l0_1.length c0_1, .int .i64 a0_2, .slice A0_3 l0_3.length c0_3], .bool false] (by rfl) rfl rfl (by (try simp only [List.map_toArray, List.map_cons, List.map_nil]); first | done | rfl | (simp only [List.length_drop, List.length_take]; rfl)) ?_
   with_reducible refine (dovetailref08_sets.calls k _ _ l0_0 _ _ l0_1 a0_2 _ _ l0_3 false t133 _ ?side1 ?side2 ?side3 ?side4 ?side5 ?side6 A4.out).mono ?_
   (case side1 => repeat (first | exact (Kd.C_below HR0_0.out HB.out) | (with_reducible refine Kd.C_alloc ?_ _) | (with_reducible refine Kd.C_drewN ?_ _) | (with_reducible refine Kd.C_drew ?_)))
   (case side2 => exact HC0_0.out)
   (case side3 => repeat (first | exact (Kd.C_below HR0_1.out HB.out) | (with_reducible refine Kd.C_alloc ?_ _) | (with_reducible refine Kd.C_drewN ?_ _) | (with_reducible refine Kd.C_drew ?_)))
   (case side4 => exact HC0_1.out)
   (case side5 => repeat (first | exact (Kd.C_below HR0_3.out HB.out) | (with_reducible refine Kd.C_alloc ?_ _) | (with_reducible refine Kd.C_drewN ?_ _) | (with_reducible refine Kd.C_drew ?_)))
   (case side6 => exact HC0_3.out)
   rintro e w10 ⟨v134, rfl, ho0, hb⟩
   refine ⟨_, rfl, ?_⟩
   have n0_ := Aside0.mk (Kd.R_lower ho0 (below_size (by repeat (first | (with_reducible first | exact HB.out | apply below_alloc | apply pw_below_drewN | apply below_drew1 | refine below_set ?_ GE130.out) | exact HB.out))))
   have n1_ := Aside0.mk (blk_below (g := gb130) (o := .cells #[.slice A0_0 l0_0.length c0_0, .slice A0_1 l0_1.length c0_1, .int .i64 a0_2, .slice A0_3 l0_3.length c0_3] 32 (0, 0)) (by (with_reducible repeat (first | refine blk_drewN ?_ _ | refine blk_drew ?_ | refine blk_alloc ?_ _)); exact BK130.out) hb)
   have n2_ := Aside0.mk (below_step (by repeat (first | (with_reducible first | exact HB.out | apply below_alloc | apply pw_below_drewN | apply below_drew1 | refine below_set ?_ GE130.out) | exact HB.out)) hb)
   clear BK130
   clear HB
   have HO135 := n0_
   have BK130 := n1_
   have HB := n2_
   clear n0_ n1_ n2_
   (try clear hb)
   (try clear hb2)
   (try clear hk)
   (try clear hi)
   (try clear ho0)
   refine hK.out _ _ ⟨(blk_cell BK130.out 0).trans rfl, (blk_cell BK130.out 1).trans rfl, (blk_cell BK130.out 2).trans rfl, (blk_cell BK130.out 3).trans rfl⟩ (fun hHeld => ?_)
   clear hK K
   refine norm_ (a' := ?_) ?_ ?_
   rotate_left
   · show Act.put _ (some 18) _ = _
     simp only [Act.put, List.setIfInBounds_toArray, List.set_cons_zero, List.set_cons_succ, i64_w, i32_w]
     rfl
   refine one_ (i := 3) (N := some 20) #[true, true, true, true, false, false, false, false] rfl rfl (one_of HT_.out (by kernel_rfl)) (by decide) (fun K hK => ?_)
   refine goes_ Tryd.func66 (by kernel_rfl) rfl #[.agg #[.slice A0_0 l0_0.length c0_0, .slice A0_1 l0_1.length c0_1, .int .i64 a0_2, .slice A0_3 l0_3.length c0_3], .bool true] (by rfl) rfl rfl (by (try simp only [List.map_toArray, List.map_cons, List.map_nil]); first | done | rfl | (simp only [List.length_drop, List.length_take]; rfl)) ?_
   with_reducible refine (dovetailref08_sets.calls k _ _ l0_0 _ _ l0_1 a0_2 _ _ l0_3 true t136 _ ?side1 ?side2 ?side3 ?side4 ?side5 ?side6 A5.out).mono ?_
   (case side1 => repeat (first | exact (Kd.C_below HR0_0.out HB.out) | (with_reducible refine Kd.C_alloc ?_ _) | (with_reducible refine Kd.C_drewN ?_ _) | (with_reducible refine Kd.C_drew ?_)))
   (case side2 => exact HC0_0.out)
   (case side3 => repeat (first | exact (Kd.C_below HR0_1.out HB.out) | (with_reducible refine Kd.C_alloc ?_ _) | (with_reducible refine Kd.C_drewN ?_ _) | (with_reducible refine Kd.C_drew ?_)))
   (case side4 => exact HC0_1.out)
   (case side5 => repeat (first | exact (Kd.C_below HR0_3.out HB.out) | (with_reducible refine Kd.C_alloc ?_ _) | (with_reducible refine Kd.C_drewN ?_ _) | (with_reducible refine Kd.C_drew ?_)))
   (case side6 => exact HC0_3.out)
   rintro e w11 ⟨v137, rfl, ho0, hb⟩
   refine ⟨_, rfl, ?_⟩
   have n0_ := Aside0.mk (Kd.R_elder' (by (with_reducible repeat (first | apply Kd.R_alloc | apply Kd.R_drewN | apply Kd.R_drew)); exact HO135.out) (Kd.R_base ho0) hb)
   have n1_ := Aside0.mk (Kd.R_lower (Kd.R_new' ho0 (Kd.R_lt (by (with_reducible repeat (first | apply Kd.R_alloc | apply Kd.R_drewN | apply Kd.R_drew)); exact HO135.out))) (below_size (by repeat (first | (with_reducible first | exact HB.out | apply below_alloc | apply pw_below_drewN | apply below_drew1 | refine below_set ?_ GE130.out) | exact HB.out))))
   have n2_ := Aside0.mk (blk_below (g := gb130) (o := .cells #[.slice A0_0 l0_0.length c0_0, .slice A0_1 l0_1.length c0_1, .int .i64 a0_2, .slice A0_3 l0_3.length c0_3] 32 (0, 0)) (by (with_reducible repeat (first | refine blk_drewN ?_ _ | refine blk_drew ?_ | refine blk_alloc ?_ _)); exact BK130.out) hb)
   have n3_ := Aside0.mk (below_step (by repeat (first | (with_reducible first | exact HB.out | apply below_alloc | apply pw_below_drewN | apply below_drew1 | refine below_set ?_ GE130.out) | exact HB.out)) hb)
   clear HO135
   clear BK130
   clear HB
   have HO135 := n0_
   have HO138 := n1_
   have BK130 := n2_
   have HB := n3_
   clear n0_ n1_ n2_ n3_
   (try clear hb)
   (try clear hb2)
   (try clear hk)
   (try clear hi)
   (try clear ho0)
   refine hK.out _ _ ⟨(blk_cell BK130.out 0).trans rfl, (blk_cell BK130.out 1).trans rfl, (blk_cell BK130.out 2).trans rfl, (blk_cell BK130.out 3).trans rfl⟩ (fun hHeld => ?_)
   clear hK K
   refine norm_ (a' := ?_) ?_ ?_
   rotate_left
   · show Act.put _ (some 20) _ = _
     simp only [Act.put, List.setIfInBounds_toArray, List.set_cons_zero, List.set_cons_succ, i64_w, i32_w]
     rfl
   refine pure_ (i := 4) (N := some 2) (v := ?_) (a' := ?_) #[true, true, true, true, true, false, false, false] rfl rfl (any_of HT_.out (by kernel_rfl)) (fun _ _ _ h => h) (Or.inl ⟨by rfl, ?_⟩) ?_ ?_
   rotate_left
   · intro w'
     go_simp
     with_reducible rfl
   rotate_left
   · simp only [Act.put, List.setIfInBounds_toArray, List.set_cons_zero, List.set_cons_succ, i64_w, i32_w]
     rfl
   refine pure_ (i := 5) (N := some 3) (v := ?_) (a' := ?_) #[true, true, true, true, true, true, false, false] rfl rfl (any_of HT_.out (by kernel_rfl)) (fun _ _ _ h => h) (Or.inl ⟨by rfl, ?_⟩) ?_ ?_
   rotate_left
   · intro w'
     go_simp
     with_reducible rfl
   rotate_left
   · simp only [Act.put, List.setIfInBounds_toArray, List.set_cons_zero, List.set_cons_succ, i64_w, i32_w]
     rfl
   refine pure_ (i := 6) (N := some 4) (v := ?_) (a' := ?_) #[true, true, true, true, true, true, true, false] rfl rfl (any_of HT_.out (by kernel_rfl)) (fun _ _ _ h => h) (Or.inl ⟨by rfl, ?_⟩) ?_ ?_
   rotate_left
   · intro w'
     go_simp
     with_reducible rfl
   rotate_left
   · simp only [Act.put, List.setIfInBounds_toArray, List.set_cons_zero, List.set_cons_succ, i64_w, i32_w]
     rfl
   refine pure_ (i := 7) (N := some 5) (v := ?_) (a' := ?_) #[true, true, true, true, true, true, true, true] rfl rfl (any_of HT_.out (by kernel_rfl)) (fun _ _ _ h => h) (Or.inl ⟨by rfl, ?_⟩) ?_ ?_
   rotate_left
   · intro w'
     go_simp
     with_reducible rfl
   rotate_left
   · simp only [Act.put, List.setIfInBounds_toArray, List.set_cons_zero, List.set_cons_succ, i64_w, i32_w]
     rfl
   refine done_ (done_of HT_.out (by kernel_rfl)) ?_
   try go_wp2
   refine bodyPost_ret (results_list (rs := [.tmp 2, .tmp 3, .tmp 4, .tmp 5]) rfl (by simp) (.tmp (.tmp (.tmp (.tmp .nil))))) rfl ?_
   exact ⟨_, _, by first | rfl | (simp [errW_none, errW_some] <;> rfl) | (simp [*, errW_none, errW_some] <;> rfl), by (with_reducible repeat (first | apply Kd.R_alloc | apply Kd.R_drewN | apply Kd.R_drew)); exact Kd.R_mono HO135.out (fun _ hk => hk.2), by (with_reducible repeat (first | apply Kd.R_alloc | apply Kd.R_drewN | apply Kd.R_drew)); exact Kd.R_mono HO138.out (fun _ hk => hk.2), by repeat (first | (with_reducible first | exact HB.out | apply below_alloc | apply pw_below_drewN | apply below_drew1 | refine below_set ?_ GE130.out) | exact HB.out)⟩
 · rw [if_neg c3] at H
   have c3b0 : (t131 == 0) = false := beq_eq_false_iff_ne.mpr c3
   have c3b1 : (t131 != 0) = true := bne_iff_ne.mpr c3
   simp only [Option.some.injEq, Prod.mk.injEq] at H
   obtain ⟨rfl, rfl, rfl, rfl⟩ := H
   go_enter Tryd.func27, Tryd.ntmps27
   go_wp2_with (first | ((with_reducible refine gate_dst (N := 1) rfl ?_); refine box_event ?hg (N := 1) ?hd (cs := #[.slice A0_0 l0_0.length c0_0, .slice A0_1 l0_1.length c0_1, .int .i64 a0_2, .slice A0_3 l0_3.length c0_3]) (t := 32) ?hr ?_; (case hd => rfl); (case hg => rfl); (case hr => first | (go_simp; done) | (go_simp; rfl)); intro gb130 hg w12 hbox hb; have n0_ := Aside0.mk (below_step (by repeat (first | (with_reducible first | exact HB.out | apply below_alloc | apply pw_below_drewN | apply below_drew1) | exact HB.out)) hb); have n1_ := Aside0.mk (hbox); have n2_ := Aside0.mk ((by rw [hg]; exact (below_size (by repeat (first | (with_reducible first | exact HB.out | apply below_alloc | apply pw_below_drewN | apply below_drew1) | exact HB.out))) : w.heap.size ≤ gb130)); have n3_ := Aside0.mk ((by rw [hg]; exact (below_size (by repeat (first | (with_reducible first | exact HB.out | apply below_alloc | apply pw_below_drewN | apply below_drew1) | exact HB.out))) : w.heap.size ≤ gb130)); clear HB; have HB := n0_; have BK130 := n1_; have GW130 := n2_; have GE130 := n3_; clear n0_ n1_ n2_ n3_; clear hb hbox hg; have hcz13_0 : w12.cell? ⟨gb130, 0, none⟩ = some (.slice A0_0 l0_0.length c0_0) := (blk_cell BK130.out 0).trans rfl; have hcz13_1 : w12.cell? ⟨gb130, 1, none⟩ = some (.slice A0_1 l0_1.length c0_1) := (blk_cell BK130.out 1).trans rfl; have hcz13_2 : w12.cell? ⟨gb130, 2, none⟩ = some (.int .i64 a0_2) := (blk_cell BK130.out 2).trans rfl; have hcz13_3 : w12.cell? ⟨gb130, 3, none⟩ = some (.slice A0_3 l0_3.length c0_3) := (blk_cell BK130.out 3).trans rfl; have hfz13_0 := blk_frozen BK130.out 0; have hfz13_1 := blk_frozen BK130.out 1; have hfz13_2 := blk_frozen BK130.out 2; have hfz13_3 := blk_frozen BK130.out 3) | ((with_reducible refine gate_callee (f := 65) rfl ?_); refine goesL_ (some 10) rfl rfl Tryd.func65 (by kernel_rfl) rfl #[.agg #[.slice A0_0 l0_0.length c0_0, .slice A0_1 l0_1.length c0_1, .int .i64 a0_2, .slice A0_3 l0_3.length c0_3]] rfl (by (try simp only [List.map_toArray, List.map_cons, List.map_nil]); first | done | rfl | (simp only [List.length_drop, List.length_take]; rfl)) ?_; (with_reducible refine (dovetailref03_Check.calls k _ _ l0_0 _ _ l0_1 a0_2 _ _ l0_3 t131 t132 _ ?side1 ?side2 ?side3 ?side4 ?side5 ?side6 A2.out).mono ?_); (case side1 => repeat (first | exact (Kd.C_below HR0_0.out HB.out) | (with_reducible refine Kd.C_alloc ?_ _) | (with_reducible refine Kd.C_drewN ?_ _) | (with_reducible refine Kd.C_drew ?_))); (case side2 => exact HC0_0.out); (case side3 => repeat (first | exact (Kd.C_below HR0_1.out HB.out) | (with_reducible refine Kd.C_alloc ?_ _) | (with_reducible refine Kd.C_drewN ?_ _) | (with_reducible refine Kd.C_drew ?_))); (case side4 => exact HC0_1.out); (case side5 => repeat (first | exact (Kd.C_below HR0_3.out HB.out) | (with_reducible refine Kd.C_alloc ?_ _) | (with_reducible refine Kd.C_drewN ?_ _) | (with_reducible refine Kd.C_drew ?_))); (case side6 => exact HC0_3.out); rintro e w14 ⟨rfl, hb⟩; refine ⟨_, rfl, ?_⟩; have n0_ := Aside0.mk (blk_below (g := gb130) (o := .cells #[.slice A0_0 l0_0.length c0_0, .slice A0_1 l0_1.length c0_1, .int .i64 a0_2, .slice A0_3 l0_3.length c0_3] 32 (0, 0)) (by (with_reducible repeat (first | refine blk_drewN ?_ _ | refine blk_drew ?_ | refine blk_alloc ?_ _)); exact BK130.out) hb); have n1_ := Aside0.mk (below_step (by repeat (first | (with_reducible first | exact HB.out | apply below_alloc | apply pw_below_drewN | apply below_drew1 | refine below_set ?_ GE130.out) | exact HB.out)) hb); clear BK130; clear HB; have BK130 := n0_; have HB := n1_; clear n0_ n1_; (try clear hb); (try clear hb2); (try clear hk); (try clear hi)))
   refine bodyPost_ret (results_list (rs := [.tmp 2, .tmp 3, .tmp 4, .tmp 5]) rfl (by simp) (.tmp (.tmp (.tmp (.tmp .nil))))) rfl ?_
   exact ⟨_, _, by first | rfl | (simp [errW_none, errW_some] <;> rfl) | (simp [*, errW_none, errW_some] <;> rfl), by first | exact Kd.R_nil _ _ _ _ _ | exact Kd.N_nil _ _ _ _ _ | exact Kd.V_nil _ _ _ _ _ | exact Kd.Q_nil _ _ _ _ _ | exact Kd.S_nil _ _ _ _ _, by first | exact Kd.R_nil _ _ _ _ _ | exact Kd.N_nil _ _ _ _ _ | exact Kd.V_nil _ _ _ _ _ | exact Kd.Q_nil _ _ _ _ _ | exact Kd.S_nil _ _ _ _ _, by repeat (first | (with_reducible first | exact HB.out | apply below_alloc | apply pw_below_drewN | apply below_drew1 | refine below_set ?_ GE130.out) | exact HB.out)⟩

end Go.Proofs.YtjkifeladmhkoaaDoor.Er
/- The document's sets of chapter 8, in plain Lean: those that ends.Of tells. -/
set_option linter.unusedVariables false
set_option linter.unusedSimpArgs false
namespace Go.Proofs.YtjkifeladmhkoaaDoor.E8
open Go.RowKit Go.Proofs.YtjkifeladmhkoaaDoorW.PrintWords Go.Proofs.YtjkifeladmhkoaaDoorW.PrintLast Go.Proofs.YtjkifeladmhkoaaDoorW.PrintMore
open Go.Proofs.YtjkifeladmhkoaaDoor.B Go.Proofs.YtjkifeladmhkoaaDoor.Er

/-- How many are true. -/
def cntE : List Bool → Nat
  | [] => 0
  | b :: l => (if b = true then 1 else 0) + cntE l
theorem cntE_le : ∀ l : List Bool, cntE l ≤ l.length
  | [] => Nat.le_refl _
  | b :: l => by
    have := cntE_le l
    unfold cntE
    rw [List.length_cons]
    split <;> omega
theorem cntE_set : ∀ (l : List Bool) (m : Nat), m < l.length → l.getD m false = false → cntE (l.set m true) = cntE l + 1
  | [], m, h, _ => by simp at h
  | b :: l, 0, _, h => by
    have hb : b = false := by simpa using h
    subst hb
    simp [cntE]; omega
  | b :: l, m + 1, h, h0 => by
    have := cntE_set l m (by simpa using h) (by simpa using h0)
    rw [List.set_cons_succ]
    unfold cntE
    rw [this]; omega
theorem cntE_replicate (n : Nat) : cntE (List.replicate n false) = 0 := by
  induction n with
  | zero => rfl
  | succ n ih => rw [List.replicate_succ]; simp [cntE, ih]
theorem rdE_B (l : List Bool) (i : Nat) : rdOf false l (i : Int) = l.getD i false := by simp [rdOf]
/-- a comes to b. -/
inductive Rch (R : List S41) (r : Bool) : Nat → Nat → Prop
  | refl (a : Nat) : Rch R r a a
  | snoc {a b c : Nat} {x : S41} : Rch R r a b → x ∈ R → x.f0 = (b : Int) → led r x.f1 = some c → Rch R r a c
theorem Rch.beg {R : List S41} {r : Bool} {a b t : Nat} (h : Rch R r a b) (hb : Beg R r b t) : Beg R r a t := by
  induction h with
  | refl => exact hb
  | snoc _ hx h0 hl ih => exact ih (.lead hx h0 hl hb)
theorem Beg.lt {R : List S41} {r : Bool} {t n i j : Nat} (hR : ∀ x ∈ R, okR t n x = true) (h : Beg R r i j) : j < t := by
  induction h with
  | «show» hx _ hs => exact shw_lt (hR _ hx) hs
  | lead _ _ _ _ ih => exact ih
theorem showsB_iff (r : Bool) (l : List Int) (t : Nat) : showsB r l (t : Int) = decide (shw r l = some t) := by
  unfold showsB shw
  by_cases c : 0 < l.length ∧ 0 ≤ rdE r l 0
  · rw [if_pos c, if_pos c]
    rw [decide_eq_decide]
    constructor
    · intro h; rw [h]; rfl
    · intro h; have := Option.some.inj h; omega
  · rw [if_neg c, if_neg c]
    by_cases c1 : 1 < l.length
    · rw [decide_eq_true c1, Bool.true_and]
      by_cases c2 : 0 ≤ rdE r l 1
      · rw [if_pos ⟨c1, c2⟩, decide_eq_decide]
        constructor
        · intro h; rw [h]; rfl
        · intro h; have := Option.some.inj h; omega
      · rw [if_neg (fun h => c2 h.2), decide_eq_false (by omega)]; rfl
    · rw [decide_eq_false c1, Bool.false_and, if_neg (fun h => c1 h.1)]; rfl
theorem leadsB_is (r : Bool) (l : List Int) : leadsB r l = match led r l with | some m => (m : Int) | none => -1 := by
  unfold leadsB led
  by_cases c : 0 < l.length ∧ rdE r l 0 < 0
  · rw [if_pos c, if_pos c]; dsimp only; rw [Int.toNat_of_nonneg (by omega)]
  · rw [if_neg c, if_neg c]
theorem shows_f {t n : Nat} {x : S41} (h : okR t n x = true) (r : Bool) (q : Nat) : dovetailref08_Shows.f x.f0 x.f1 (q : Int) r = some (decide (shw r x.f1 = some q)) := by
  have := (okR_sides h).1
  unfold dovetailref08_Shows.f
  rw [if_pos (by omega), showsB_iff]
theorem leads_f {t n : Nat} (hn : n ≤ 60) {x : S41} (h : okR t n x = true) (r : Bool) : dovetailref08_Leads.f x.f0 x.f1 r = some (match led r x.f1 with | some m => (m : Int) | none => -1) := by
  have h1 := (okR_sides h).1
  have hs := (okR_sides h).2.2.2
  unfold dovetailref08_Leads.f
  rw [if_pos ⟨by omega, List.all_eq_true.2 fun s hh => decide_eq_true (by have := (hs s hh).2; omega)⟩, leadsB_is]
/-- What has been seen, and what is to be done. -/
structure BfsE (R : List S41) (r : Bool) (n f : Nat) (seen : List Bool) (todo : List Int) : Prop where
  len : seen.length = n
  cnt : cntE seen = todo.length
  elem : ∀ v ∈ todo, ∃ m : Nat, v = (m : Int) ∧ m < n ∧ Rch R r f m
  back : ∀ m, seen.getD m false = true → (m : Int) ∈ todo
  at0 : seen.getD f false = true
theorem BfsE.small {R : List S41} {r : Bool} {n f : Nat} {seen : List Bool} {todo : List Int} (h : BfsE R r n f seen todo) : todo.length ≤ n := by
  have := cntE_le seen
  have := h.len
  have := h.cnt
  omega
/-- It shows nothing, and whatever it leads to has been seen. -/
def ShutE (R : List S41) (r : Bool) (t : Nat) (seen : List Bool) (v : Int) : Prop := ∀ x ∈ R, x.f0 = v → shw r x.f1 ≠ some t ∧ ∀ m, led r x.f1 = some m → seen.getD m false = true
theorem ShutE.mono {R : List S41} {r : Bool} {t : Nat} {seen : List Bool} {v : Int} (h : ShutE R r t seen v) (m : Nat) : ShutE R r t (seen.set m true) v := by
  intro x hx hv
  refine ⟨(h x hx hv).1, fun q hq => ?_⟩
  have := (h x hx hv).2 q hq
  rw [getD_set]
  split
  · rfl
  · exact this
theorem BfsE.none {R : List S41} {r : Bool} {n f t : Nat} {seen : List Bool} {todo : List Int} (h : BfsE R r n f seen todo) (hs : ∀ v ∈ todo, ShutE R r t seen v) : ¬ Beg R r f t := by
  intro hb
  have : ∀ a q, Beg R r a q → q = t → seen.getD a false = true → False := by
    intro a q hab
    induction hab with
    | «show» hx h0 hsh =>
      intro hq ha
      subst hq
      exact (hs _ (h.back _ ha) _ hx h0).1 hsh
    | lead hx h0 hl _ ih =>
      intro hq ha
      exact ih hq ((hs _ (h.back _ ha) _ hx h0).2 _ hl)
  exact this f t hb rfl h.at0
section
variable {R : List S41} {r : Bool} {tt n f t : Nat} {l0 l1 : List ByteArray} {a2 : Int}
theorem in_in (hn : n ≤ 60) (hR : ∀ x ∈ R, okR tt n x = true) (hl : R.length ≤ 120) (rb : Bool) (hrb : rb = true ↔ Beg R r f t) (i : Nat)
    (hnext : ∀ seen todo, BfsE R r n f seen todo → i + 1 ≤ todo.length → (∀ v ∈ todo.take (i + 1), ShutE R r t seen v) → ∃ k, dovetailref08_In.l0 k (t : Int) r seen todo ((i + 1 : Nat) : Int) l0 l1 a2 R = some rb) :
    ∀ (e j : Nat) (seen : List Bool) (todo : List Int), R.length - j = e → j ≤ R.length → BfsE R r n f seen todo → i < todo.length → (∀ v ∈ todo.take i, ShutE R r t seen v) → (∀ x ∈ R.take j, x.f0 = todo.getD i 0 → shw r x.f1 ≠ some t ∧ ∀ m, led r x.f1 = some m → seen.getD m false = true) →
      ∃ k, dovetailref08_In.l1 k (t : Int) r seen todo (i : Int) (j : Int) l0 l1 a2 R = some rb := by
  intro e
  induction e with
  | zero =>
    intro j seen todo he hj hb hi hs hx
    have : j = R.length := by omega
    subst this
    rw [List.take_length] at hx
    have hsm := hb.small
    obtain ⟨k, hk⟩ := hnext seen todo hb (by omega) (fun v hv => by
      rw [List.take_succ_eq_append_getElem hi] at hv
      rcases List.mem_append.1 hv with hv | hv
      · exact hs v hv
      · obtain rfl := List.mem_singleton.1 hv
        intro x hxR hxv
        exact hx x hxR (by rw [getD_lt _ _ _ hi]; exact hxv))
    refine ⟨k + 1, ?_⟩
    rw [dovetailref08_In.l1, if_neg (by omega), w64 i (by omega)]
    exact hk
  | succ e ih =>
    intro j seen todo he hj hb hi hs hx
    have hlt : j < R.length := by omega
    have hok := hR R[j] (List.getElem_mem hlt)
    have hsm := hb.small
    have htk : R.take (j + 1) = R.take j ++ [R[j]] := List.take_succ_eq_append_getElem hlt
    have hmem : R[j] ∈ R := List.getElem_mem hlt
    have hrd : rd_T41 R (j : Int) = R[j] := by rw [rdR_D, getD_lt R j _ hlt]
    generalize R[j] = x at hok htk hmem hrd
    have step : ∀ seen' todo', BfsE R r n f seen' todo' → i < todo'.length → (∀ v ∈ todo'.take i, ShutE R r t seen' v) → (∀ y ∈ R.take j, y.f0 = todo'.getD i 0 → shw r y.f1 ≠ some t ∧ ∀ m, led r y.f1 = some m → seen'.getD m false = true) → (x.f0 = todo'.getD i 0 → shw r x.f1 ≠ some t ∧ ∀ m, led r x.f1 = some m → seen'.getD m false = true) →
        ∃ k, dovetailref08_In.l1 k (t : Int) r seen' todo' (i : Int) ((j + 1 : Nat) : Int) l0 l1 a2 R = some rb := by
      intro seen' todo' h1 h2 h3 h4 h5
      refine ih (j + 1) seen' todo' (by omega) (by omega) h1 h2 h3 (fun y hy => ?_)
      rw [htk] at hy
      rcases List.mem_append.1 hy with hy | hy
      · exact h4 y hy
      · obtain rfl := List.mem_singleton.1 hy
        exact h5
    by_cases c : x.f0 = todo.getD i 0
    rotate_left
    · obtain ⟨k, hk⟩ := step seen todo hb hi hs hx (fun h => absurd h c)
      refine ⟨k + 1, ?_⟩
      rw [dovetailref08_In.l1, if_pos (by omega), if_pos (by omega), if_pos (by omega), if_pos (by omega), hrd, rd_D, if_neg c, w64 j (by omega)]
      exact hk
    have hfn : ∃ a : Nat, x.f0 = (a : Int) ∧ Rch R r f a := by
      obtain ⟨a, ha, _, hra⟩ := hb.elem _ (List.getElem_mem hi)
      rw [getD_lt _ _ _ hi] at c
      exact ⟨a, by rw [c, ha], hra⟩
    obtain ⟨a, ha, hra⟩ := hfn
    by_cases hsh : shw r x.f1 = some t
    · have hrt : rb = true := hrb.2 (hra.beg (.show hmem ha hsh))
      refine ⟨1, ?_⟩
      rw [dovetailref08_In.l1, if_pos (by omega), if_pos (by omega), if_pos (by omega), if_pos (by omega), hrd, rd_D, if_pos c, shows_f hok, Option.bind_some, decide_eq_true hsh, if_pos rfl, hrt]
    have hhead : ∀ k, dovetailref08_In.l1 (k + 1) (t : Int) r seen todo (i : Int) (j : Int) l0 l1 a2 R = (match led r x.f1 with
        | some m => if seen.getD m false = true then dovetailref08_In.l1 k (t : Int) r seen todo (i : Int) ((j + 1 : Nat) : Int) l0 l1 a2 R else dovetailref08_In.l1 k (t : Int) r (seen.set m true) (todo ++ [(m : Int)]) (i : Int) ((j + 1 : Nat) : Int) l0 l1 a2 R
        | none => dovetailref08_In.l1 k (t : Int) r seen todo (i : Int) ((j + 1 : Nat) : Int) l0 l1 a2 R) := by
      intro k
      rw [dovetailref08_In.l1, if_pos (by omega), if_pos (by omega), if_pos (by omega), if_pos (by omega), hrd, rd_D, if_pos c, shows_f hok, Option.bind_some, decide_eq_false hsh, if_neg (by decide), leads_f hn hok, Option.bind_some, w64 j (by omega)]
      cases hr : led r x.f1 with
      | none => dsimp only; rw [if_neg (by decide)]
      | some m =>
        have hm := led_lt hok hr
        dsimp only
        rw [if_pos (by omega), if_pos (by omega), if_pos (by rw [hb.len]; omega), rdE_B, Int.toNat_natCast, if_pos (show todo.length < 17592186044416 by omega)]
    cases hr : led r x.f1 with
    | none =>
      obtain ⟨k, hk⟩ := step seen todo hb hi hs hx (fun _ => ⟨hsh, fun m hm => by rw [hr] at hm; cases hm⟩)
      exact ⟨k + 1, by rw [hhead, hr]; exact hk⟩
    | some m =>
      have hm := led_lt hok hr
      cases hsn : seen.getD m false with
      | true =>
        obtain ⟨k, hk⟩ := step seen todo hb hi hs hx (fun _ => ⟨hsh, fun q hq => by
          rw [hr] at hq
          obtain rfl := Option.some.inj hq
          exact hsn⟩)
        exact ⟨k + 1, by rw [hhead, hr]; dsimp only; rw [if_pos hsn]; exact hk⟩
      | false =>
        have hset : ∀ q, (seen.set m true).getD q false = true ↔ seen.getD q false = true ∨ q = m := by
          intro q
          rw [getD_set]
          by_cases hq : m = q
          · subst hq; rw [if_pos ⟨rfl, by rw [hb.len]; exact hm⟩]; simp
          · rw [if_neg (fun h => hq h.1)]
            constructor
            · exact .inl
            · rintro (h | h)
              · exact h
              · exact absurd h.symm hq
        have hgd : (todo ++ [(m : Int)]).getD i 0 = todo.getD i 0 := by
          rw [getD_lt _ _ _ (by rw [List.length_append]; omega), getD_lt _ _ _ hi, List.getElem_append_left hi]
        obtain ⟨k, hk⟩ := step (seen.set m true) (todo ++ [(m : Int)]) ⟨by rw [List.length_set]; exact hb.len, by rw [cntE_set seen m (by rw [hb.len]; exact hm) hsn, hb.cnt, List.length_append]; rfl, fun v hv => by
            rcases List.mem_append.1 hv with hv | hv
            · exact hb.elem v hv
            · obtain rfl := List.mem_singleton.1 hv
              exact ⟨m, rfl, hm, hra.snoc hmem ha hr⟩, fun q hq => by
            rcases (hset q).1 hq with h | h
            · exact List.mem_append_left _ (hb.back q h)
            · rw [h]; exact List.mem_append_right _ (List.mem_singleton.2 rfl), (hset f).2 (.inl hb.at0)⟩ (by rw [List.length_append]; omega)
          (by rw [List.take_append_of_le_length (by omega)]; exact fun v hv => (hs v hv).mono m)
          (by rw [hgd]; exact fun y hy h => ⟨(hx y hy h).1, fun q hq => (hset q).2 (.inl ((hx y hy h).2 q hq))⟩)
          (by rw [hgd]; exact fun _ => ⟨hsh, fun q hq => by
            rw [hr] at hq
            obtain rfl := Option.some.inj hq
            exact (hset _).2 (.inr rfl)⟩)
        exact ⟨k + 1, by rw [hhead, hr]; dsimp only; rw [hsn, if_neg (by decide)]; exact hk⟩
theorem in_l (hn : n ≤ 60) (hR : ∀ x ∈ R, okR tt n x = true) (hl : R.length ≤ 120) (rb : Bool) (hrb : rb = true ↔ Beg R r f t) :
    ∀ (d i : Nat) (seen : List Bool) (todo : List Int), n - i ≤ d → i ≤ todo.length → BfsE R r n f seen todo → (∀ v ∈ todo.take i, ShutE R r t seen v) → ∃ k, dovetailref08_In.l0 k (t : Int) r seen todo (i : Int) l0 l1 a2 R = some rb := by
  have hend : ∀ (seen : List Bool) (todo : List Int), BfsE R r n f seen todo → (∀ v ∈ todo, ShutE R r t seen v) → ∃ k, dovetailref08_In.l0 k (t : Int) r seen todo (todo.length : Int) l0 l1 a2 R = some rb := by
    intro seen todo hb hs
    refine ⟨1, ?_⟩
    rw [dovetailref08_In.l0, if_neg (by omega)]
    have : rb = false := by
      cases rb with
      | false => rfl
      | true => exact absurd (hrb.1 rfl) (hb.none hs)
    rw [this]
  intro d
  induction d with
  | zero =>
    intro i seen todo hd hi hb hs
    have hsm := hb.small
    have : i = todo.length := by omega
    subst this
    rw [List.take_length] at hs
    exact hend seen todo hb hs
  | succ d ih =>
    intro i seen todo hd hi hb hs
    by_cases hlt : i < todo.length
    rotate_left
    · have : i = todo.length := by omega
      subst this
      rw [List.take_length] at hs
      exact hend seen todo hb hs
    have hsm := hb.small
    obtain ⟨k, hk⟩ := in_in (l0 := l0) (l1 := l1) (a2 := a2) hn hR hl rb hrb i (fun seen' todo' h1 h2 h3 => ih (i + 1) seen' todo' (by omega) h2 h1 h3) R.length 0 seen todo (by omega) (by omega) hb hlt hs (fun x hx => by rw [List.take_zero] at hx; cases hx)
    refine ⟨k + 1, ?_⟩
    rw [dovetailref08_In.l0, if_pos (by omega)]
    exact hk
end
theorem in_f {R : List S41} {tt : Nat} (l0 l1 : List ByteArray) (a2 : Int) (r : Bool) (f t : Nat) (hn : l1.length ≤ 60) (hf : f < l1.length) (hR : ∀ x ∈ R, okR tt l1.length x = true) (hl : R.length ≤ 120) (rb : Bool) (hrb : rb = true ↔ Beg R r f t) : ∃ k, dovetailref08_In.f k l0 l1 a2 R (f : Int) (t : Int) r = some rb := by
  have hrep : ∀ q, ((List.replicate l1.length false).set f true).getD q false = true ↔ q = f := by
    intro q
    rw [getD_set]
    by_cases hq : f = q
    · subst hq; rw [if_pos ⟨rfl, by rw [List.length_replicate]; exact hf⟩]; simp
    · rw [if_neg (fun h => hq h.1)]
      constructor
      · intro h
        simp [List.getD_eq_getElem?_getD, List.getElem?_replicate] at h
        split at h <;> simp at h
      · intro h; exact absurd h.symm hq
  obtain ⟨k, hk⟩ := in_l (l0 := l0) (l1 := l1) (a2 := a2) hn hR hl rb hrb l1.length 0 ((List.replicate l1.length false).set f true) [(f : Int)] (by omega) (by omega) ⟨by rw [List.length_set, List.length_replicate], by rw [cntE_set _ f (by rw [List.length_replicate]; exact hf) (by simp [List.getD_eq_getElem?_getD, List.getElem?_replicate, hf]), cntE_replicate]; rfl, fun v hv => by
    obtain rfl := List.mem_singleton.1 hv
    exact ⟨f, rfl, hf, .refl f⟩, fun m hm => by rw [(hrep m).1 hm]; exact List.mem_singleton.2 rfl, (hrep f).2 rfl⟩ (fun v hv => by rw [List.take_zero] at hv; cases hv)
  refine ⟨k, ?_⟩
  unfold dovetailref08_In.f
  rw [if_pos (by omega), Int.toNat_natCast, if_pos (by omega), Option.bind_some, if_pos (by omega), if_pos (by rw [List.length_replicate]; omega), Int.toNat_natCast]
  exact hk
section
variable {R : List S41} {r : Bool} {l0 l1 : List ByteArray} {a2 : Int} {S : List Int}
theorem sets_in (hn0 : l0.length ≤ 60) (hn : l1.length ≤ 60) (hR : ∀ x ∈ R, okR l0.length l1.length x = true) (hl : R.length ≤ 120) (hS : EndsIs R r l1.length S) (i : Nat) (hi : i < l1.length)
    (hnext : ∃ k, dovetailref08_sets.l0 k r (S.take i ++ [S.getD i 0]) ((i + 1 : Nat) : Int) l0 l1 a2 R = some S) :
    ∀ (d j : Nat) (s : Int), l0.length - j = d → j ≤ l0.length → U s → (∀ q, mem s q = true ↔ q < j ∧ Beg R r i q) → ∃ k, dovetailref08_sets.l1 k r (S.take i) (i : Int) s (j : Int) l0 l1 a2 R = some S := by
  intro d
  induction d with
  | zero =>
    intro j s hd hj hu hq
    have : j = l0.length := by omega
    subst this
    obtain ⟨k, hk⟩ := hnext
    have hs : s = S.getD i 0 := U_ext hu (hS.u i hi) (fun q => by
      rw [Bool.eq_iff_iff, hq q, hS.iff i hi q]
      exact ⟨fun h => h.2, fun h => ⟨h.lt hR, h⟩⟩)
    have hlen := hS.len
    refine ⟨k + 1, ?_⟩
    rw [dovetailref08_sets.l1, if_neg (by omega), if_pos (by rw [List.length_take]; omega), w64 i (by omega), hs]
    exact hk
  | succ d ih =>
    intro j s hd hj hu hq
    have hlt : j < l0.length := by omega
    obtain ⟨rb, hrb⟩ : ∃ rb : Bool, rb = true ↔ Beg R r i j := by
      by_cases h : Beg R r i j
      · exact ⟨true, by simp [h]⟩
      · exact ⟨false, by simp [h]⟩
    have hwj : IntKind.u64.wrap (j : Int) = (j : Int) := wraps_u64 _ (by omega) (by omega)
    obtain ⟨k1, hk1⟩ := in_f l0 l1 a2 r i j hn hi hR hl rb hrb
    have hgo : ∀ s', U s' → (∀ q, mem s' q = true ↔ q < j + 1 ∧ Beg R r i q) → (∀ k, dovetailref08_In.f k l0 l1 a2 R (i : Int) (j : Int) r = some rb → dovetailref08_sets.l1 (k + 1) r (S.take i) (i : Int) s (j : Int) l0 l1 a2 R = dovetailref08_sets.l1 k r (S.take i) (i : Int) s' ((j + 1 : Nat) : Int) l0 l1 a2 R) → ∃ k, dovetailref08_sets.l1 k r (S.take i) (i : Int) s (j : Int) l0 l1 a2 R = some S := by
      intro s' hu' hq' hstep
      obtain ⟨k2, hk2⟩ := ih (j + 1) s' (by omega) (by omega) hu' hq'
      refine ⟨max k1 k2 + 1, ?_⟩
      rw [hstep _ (at_rounds (g := fun k => dovetailref08_In.f k l0 l1 a2 R (i : Int) (j : Int) r) (fun k => dovetailref08_In.mono _ _ _ _ _ _ _ k) (Nat.le_max_left k1 k2) hk1)]
      exact at_rounds (g := fun k => dovetailref08_sets.l1 k r (S.take i) (i : Int) s' ((j + 1 : Nat) : Int) l0 l1 a2 R) (fun k => (dovetailref08_sets.mono_l k).2 _ _ _ _ _ _ _ _ _) (Nat.le_max_right k1 k2) hk2
    cases rb with
    | true =>
      refine hgo _ (U_or hu (U_one j (by omega))) (fun q => ?_) (fun k hk => by rw [dovetailref08_sets.l1, if_pos (by omega), hk, Option.bind_some, if_pos rfl, hwj, if_pos (by omega), w64 j (by omega)])
      rw [mem_or hu (U_one j (by omega)), mem_one j (by omega), Bool.or_eq_true, hq q, decide_eq_true_eq]
      constructor
      · rintro (⟨h1, h2⟩ | rfl)
        · exact ⟨by omega, h2⟩
        · exact ⟨by omega, hrb.1 rfl⟩
      · rintro ⟨h1, h2⟩
        by_cases h : j = q
        · exact .inr h
        · exact .inl ⟨by omega, h2⟩
    | false =>
      refine hgo s hu (fun q => ?_) (fun k hk => by rw [dovetailref08_sets.l1, if_pos (by omega), hk, Option.bind_some, if_neg (by decide), w64 j (by omega)])
      rw [hq q]
      constructor
      · rintro ⟨h1, h2⟩; exact ⟨by omega, h2⟩
      · rintro ⟨h1, h2⟩
        have : q ≠ j := by
          rintro rfl
          have := hrb.2 h2
          cases this
        exact ⟨by omega, h2⟩
theorem sets_l (hn0 : l0.length ≤ 60) (hn : l1.length ≤ 60) (hR : ∀ x ∈ R, okR l0.length l1.length x = true) (hl : R.length ≤ 120) (hS : EndsIs R r l1.length S) :
    ∀ (d i : Nat), l1.length - i = d → i ≤ l1.length → ∃ k, dovetailref08_sets.l0 k r (S.take i) (i : Int) l0 l1 a2 R = some S := by
  intro d
  induction d with
  | zero =>
    intro i hd hi
    have : i = l1.length := by omega
    subst this
    exact ⟨1, by rw [dovetailref08_sets.l0, if_neg (by omega), List.take_of_length_le (by rw [hS.len]; omega)]⟩
  | succ d ih =>
    intro i hd hi
    have hlt : i < l1.length := by omega
    have hlen := hS.len
    have htk : S.take i ++ [S.getD i 0] = S.take (i + 1) := by
      rw [List.take_succ_eq_append_getElem (by omega), getD_lt _ _ _ (by omega)]
    obtain ⟨k, hk⟩ := sets_in (l0 := l0) (a2 := a2) hn0 hn hR hl hS i hlt (by rw [htk]; exact ih (i + 1) (by omega) (by omega)) l0.length 0 0 (by omega) (by omega) U_zero (fun q => by rw [mem_zero]; simp)
    exact ⟨k + 1, by rw [dovetailref08_sets.l0, if_pos (by omega)]; exact hk⟩
theorem sets_f (hn0 : l0.length ≤ 60) (hn : l1.length ≤ 60) (hR : ∀ x ∈ R, okR l0.length l1.length x = true) (hl : R.length ≤ 120) (hS : EndsIs R r l1.length S) : ∃ k, dovetailref08_sets.f k l0 l1 a2 R r = some S := by
  obtain ⟨k, hk⟩ := sets_l (l0 := l0) (a2 := a2) hn0 hn hR hl hS l1.length 0 (by omega) (by omega)
  exact ⟨k, by unfold dovetailref08_sets.f; rw [List.take_zero] at hk; exact hk⟩
end
/-- The document's Of. -/
theorem refOf_ok (l0 l1 : List ByteArray) (a2 : Int) (R : List S41) (m0 : l0.length ≤ 9223372036854775807) (m1 : l1.length ≤ 9223372036854775807) (h : (chk (namesOK l0) (namesOK l1) l0.length l1.length a2 R).1 = 0) (S0 S1 : List Int) (hS0 : EndsIs R false l1.length S0) (hS1 : EndsIs R true l1.length S1) : ∃ k, dovetailref08_Of.f k l0 l1 a2 R = some (S0, S1, 0, -1) := by
  obtain ⟨h60, h120, _, _, _, _, hok⟩ := chk_ok h
  obtain ⟨k0, e0⟩ := sets_f (l0 := l0) (a2 := a2) (by omega) (by omega) hok h120 hS0
  obtain ⟨k1, e1⟩ := sets_f (l0 := l0) (a2 := a2) (by omega) (by omega) hok h120 hS1
  refine ⟨max (max k0 k1) 20000, ?_⟩
  unfold dovetailref08_Of.f
  have f0 := at_rounds (g := fun k => dovetailref08_sets.f k l0 l1 a2 R false) (fun k => dovetailref08_sets.mono _ _ _ _ _ k) (show k0 ≤ max (max k0 k1) 20000 by omega) e0
  have f1 := at_rounds (g := fun k => dovetailref08_sets.f k l0 l1 a2 R true) (fun k => dovetailref08_sets.mono _ _ _ _ _ k) (show k1 ≤ max (max k0 k1) 20000 by omega) e1
  rw [refCheck_f l0 l1 a2 R m0 m1 _ (by omega), Option.bind_some, if_pos h, f0, Option.bind_some, f1, Option.bind_some]
theorem refOf_no (l0 l1 : List ByteArray) (a2 : Int) (R : List S41) (m0 : l0.length ≤ 9223372036854775807) (m1 : l1.length ≤ 9223372036854775807) (h : (chk (namesOK l0) (namesOK l1) l0.length l1.length a2 R).1 ≠ 0) : ∃ k, dovetailref08_Of.f k l0 l1 a2 R = some ([], [], (chk (namesOK l0) (namesOK l1) l0.length l1.length a2 R).1, (chk (namesOK l0) (namesOK l1) l0.length l1.length a2 R).2) := by
  refine ⟨20000, ?_⟩
  unfold dovetailref08_Of.f
  rw [refCheck_f l0 l1 a2 R m0 m1 _ (Nat.le_refl _), Option.bind_some, if_neg h]
end Go.Proofs.YtjkifeladmhkoaaDoor.E8
/- ends.Chain, in plain Lean: how far nonterminals are from a terminal; the chain. -/
set_option linter.unusedVariables false
set_option linter.unusedSimpArgs false
namespace Go.Proofs.YtjkifeladmhkoaaDoor.E8
open Go.RowKit Go.Proofs.YtjkifeladmhkoaaDoorW.PrintWords Go.Proofs.YtjkifeladmhkoaaDoorW.PrintLast Go.Proofs.YtjkifeladmhkoaaDoorW.PrintMore
open Go.Proofs.YtjkifeladmhkoaaDoor.B

/-- Does a right side stand in the ring n? -/
def hit (r : Bool) (tm : Nat) (far : List Int) (n : Nat) (l : List Int) : Bool :=
  (decide (n = 1) && decide (shw r l = some tm)) || (decide (1 < n) && match led r l with | some m => decide (far.getD m 0 = (n : Int) - 1) | none => false)
def ringStep (r : Bool) (tm n : Nat) (p : List Int × Bool) (x : S41) : List Int × Bool :=
  if p.1.getD x.f0.toNat 0 = 0 ∧ hit r tm p.1 n x.f1 = true then (p.1.set x.f0.toNat (n : Int), true) else p
/-- All rules are gone through once. -/
def ring (r : Bool) (tm n : Nat) (R : List S41) (far : List Int) : List Int × Bool := R.foldl (ringStep r tm n) (far, false)
def rings (r : Bool) (tm : Nat) (R : List S41) : Nat → Nat → List Int → List Int
  | 0, _, far => far
  | k + 1, n, far => if (ring r tm n R far).2 = true then rings r tm R k (n + 1) (ring r tm n R far).1 else (ring r tm n R far).1
def farF (r : Bool) (tm N : Nat) (R : List S41) : List Int := rings r tm R N 1 (List.replicate N 0)
/-- How many are not nought. -/
def nz : List Int → Nat
  | [] => 0
  | b :: l => (if b = 0 then 0 else 1) + nz l
theorem nz_le : ∀ l : List Int, nz l ≤ l.length
  | [] => Nat.le_refl _
  | b :: l => by
    have := nz_le l
    unfold nz
    rw [List.length_cons]
    split <;> omega
theorem nz_all : ∀ l : List Int, nz l = l.length → ∀ i, i < l.length → l.getD i 0 ≠ 0
  | [], _, i, hi => by simp at hi
  | b :: l, h, i, hi => by
    have hl := nz_le l
    unfold nz at h
    rw [List.length_cons] at h
    by_cases c : b = 0
    · rw [if_pos c] at h; omega
    · rw [if_neg c] at h
      cases i with
      | zero => simpa using c
      | succ i => simpa using nz_all l (by omega) i (by simpa using hi)
theorem nz_set : ∀ (l : List Int) (m : Nat) (v : Int), m < l.length → l.getD m 0 = 0 → v ≠ 0 → nz (l.set m v) = nz l + 1
  | [], m, _, h, _, _ => by simp at h
  | b :: l, 0, v, _, h0, hv => by
    have hb : b = 0 := by simpa using h0
    subst hb
    simp [nz, hv]; omega
  | b :: l, m + 1, v, h, h0, hv => by
    have := nz_set l m v (by simpa using h) (by simpa using h0) hv
    rw [List.set_cons_succ]
    unfold nz
    rw [this]; omega
/-- Before the ring n. -/
structure FarK (R : List S41) (r : Bool) (tm N n : Nat) (far : List Int) : Prop where
  len : far.length = N
  rng : ∀ i, i < N → far.getD i 0 = 0 ∨ (1 ≤ far.getD i 0 ∧ far.getD i 0 < (n : Int))
  snd : ∀ i, i < N → far.getD i 0 ≠ 0 → ∃ x ∈ R, x.f0 = (i : Int) ∧ hit r tm far (far.getD i 0).toNat x.f1 = true
  shw1 : 1 < n → ∀ x ∈ R, shw r x.f1 = some tm → far.getD x.f0.toNat 0 = 1
  lead : ∀ x ∈ R, ∀ m, led r x.f1 = some m → 0 < far.getD m 0 → far.getD m 0 + 1 < (n : Int) → 0 < far.getD x.f0.toNat 0 ∧ far.getD x.f0.toNat 0 ≤ far.getD m 0 + 1
/-- All rings are done. -/
structure Far (R : List S41) (r : Bool) (tm N : Nat) (far : List Int) : Prop where
  len : far.length = N
  rng : ∀ i, i < N → far.getD i 0 = 0 ∨ (1 ≤ far.getD i 0 ∧ far.getD i 0 ≤ (N : Int))
  snd : ∀ i, i < N → far.getD i 0 ≠ 0 → ∃ x ∈ R, x.f0 = (i : Int) ∧ hit r tm far (far.getD i 0).toNat x.f1 = true
  shw1 : ∀ x ∈ R, shw r x.f1 = some tm → far.getD x.f0.toNat 0 = 1
  lead : ∀ x ∈ R, ∀ m, led r x.f1 = some m → 0 < far.getD m 0 → 0 < far.getD x.f0.toNat 0 ∧ far.getD x.f0.toNat 0 ≤ far.getD m 0 + 1
/-- Amid the ring n. -/
structure Mid (R : List S41) (r : Bool) (tm N n : Nat) (far0 : List Int) (done : List S41) (p : List Int × Bool) : Prop where
  len : p.1.length = N
  old : ∀ i, i < N → far0.getD i 0 ≠ 0 → p.1.getD i 0 = far0.getD i 0
  new : ∀ i, i < N → far0.getD i 0 = 0 → p.1.getD i 0 = 0 ∨ (p.1.getD i 0 = (n : Int) ∧ ∃ x ∈ R, x.f0 = (i : Int) ∧ hit r tm far0 n x.f1 = true)
  did : ∀ x ∈ done, hit r tm far0 n x.f1 = true → p.1.getD x.f0.toNat 0 ≠ 0
  no : p.2 = false → p.1 = far0
  yes : p.2 = true → nz far0 < nz p.1
  le : nz far0 ≤ nz p.1
section
variable {R : List S41} {r : Bool} {t tm N n : Nat} {far far0 : List Int} {done : List S41} {p : List Int × Bool} {x : S41}
theorem Mid.hit_eq (h : Mid R r tm N n far0 done p) (hr : ∀ i, i < N → far0.getD i 0 = 0 ∨ (1 ≤ far0.getD i 0 ∧ far0.getD i 0 < (n : Int))) {l : List Int} (hl : ∀ m, led r l = some m → m < N) : hit r tm p.1 n l = hit r tm far0 n l := by
  unfold hit
  cases hm : led r l with
  | none => rfl
  | some m =>
    have hN := hl m hm
    by_cases h1 : 1 < n
    · congr 2
      dsimp only
      congr 1
      by_cases h0 : far0.getD m 0 = 0
      · rcases h.new m hN h0 with h2 | ⟨h2, _⟩
        · rw [h2, h0]
        · rw [h2, h0]; exact propext ⟨fun e => by omega, fun e => by omega⟩
      · rw [h.old m hN h0]
    · rw [decide_eq_false h1]; rfl
theorem Mid.start (hf : FarK R r tm N n far0) : Mid R r tm N n far0 [] (far0, false) :=
  ⟨hf.len, fun _ _ _ => rfl, fun _ _ h => .inl h, fun _ h => absurd h (by simp), fun _ => rfl, fun h => absurd h (by simp), Nat.le_refl _⟩
theorem Mid.step (h : Mid R r tm N n far0 done p) (h1 : 1 ≤ n) (hr : ∀ i, i < N → far0.getD i 0 = 0 ∨ (1 ≤ far0.getD i 0 ∧ far0.getD i 0 < (n : Int))) (hx : x ∈ R) (hok : okR t N x = true) : Mid R r tm N n far0 (done ++ [x]) (ringStep r tm n p x) := by
  have he := h.hit_eq hr (l := x.f1) (fun m hm => led_lt hok hm)
  obtain ⟨_, ha0, ha1, _⟩ := okR_sides hok
  unfold ringStep
  rw [he]
  split
  · rename_i c
    have hx0 : far0.getD x.f0.toNat 0 = 0 := by
      by_cases h0 : far0.getD x.f0.toNat 0 = 0
      · exact h0
      · have := h.old _ (by omega) h0; rw [c.1] at this; exact this.symm
    have hz := nz_set p.1 x.f0.toNat (n : Int) (by rw [h.len]; omega) c.1 (by omega)
    have hle := h.le
    refine ⟨by simp [h.len], fun i hi h0 => ?_, fun i hi h0 => ?_, fun y hy hh => ?_, fun hh => (by cases hh), fun _ => by dsimp only; omega, by dsimp only; omega⟩
    · dsimp only
      rw [getD_set, if_neg (fun e => h0 (by rw [← e.1]; exact hx0))]
      exact h.old i hi h0
    · dsimp only
      rw [getD_set]
      split
      · rename_i e; exact .inr ⟨rfl, x, hx, by omega, c.2⟩
      · exact h.new i hi h0
    · dsimp only
      rw [getD_set]
      split
      · omega
      · rename_i e
        rcases List.mem_append.1 hy with hy | hy
        · exact h.did y hy hh
        · obtain rfl := List.mem_singleton.1 hy
          exact absurd ⟨rfl, by rw [h.len]; omega⟩ e
  · rename_i c
    refine ⟨h.len, h.old, h.new, fun y hy hh => ?_, h.no, h.yes, h.le⟩
    rcases List.mem_append.1 hy with hy | hy
    · exact h.did y hy hh
    · obtain rfl := List.mem_singleton.1 hy
      exact fun h0 => c ⟨h0, hh⟩
theorem Mid.fold (h1 : 1 ≤ n) (hr : ∀ i, i < N → far0.getD i 0 = 0 ∨ (1 ≤ far0.getD i 0 ∧ far0.getD i 0 < (n : Int))) : ∀ (L done : List S41) (p : List Int × Bool), (∀ x ∈ L, x ∈ R ∧ okR t N x = true) → Mid R r tm N n far0 done p → Mid R r tm N n far0 (done ++ L) (L.foldl (ringStep r tm n) p)
  | [], done, p, _, h => by simpa using h
  | x :: L, done, p, hL, h => by
    have h2 := h.step (t := t) h1 hr (hL x (by simp)).1 (hL x (by simp)).2
    have := Mid.fold h1 hr L (done ++ [x]) _ (fun y hy => hL y (by simp [hy])) h2
    simpa using this
theorem Mid.all (hf : FarK R r tm N n far0) (h1 : 1 ≤ n) (hR : ∀ x ∈ R, okR t N x = true) : Mid R r tm N n far0 R (ring r tm n R far0) := by
  have := Mid.fold (t := t) h1 hf.rng R [] (far0, false) (fun x hx => ⟨hx, hR x hx⟩) (Mid.start hf)
  simpa [ring] using this
theorem FarK.next (hf : FarK R r tm N n far0) (h1 : 1 ≤ n) (hR : ∀ x ∈ R, okR t N x = true) : FarK R r tm N (n + 1) (ring r tm n R far0).1 := by
  have hM := Mid.all hf h1 hR
  generalize ring r tm n R far0 = p at hM
  have keep : ∀ i, i < N → p.1.getD i 0 = 0 → far0.getD i 0 = 0 := fun i hi h0 => by
    by_cases c : far0.getD i 0 = 0
    · exact c
    · rw [← hM.old i hi c]; exact h0
  have up : ∀ l (hl : ∀ m, led r l = some m → m < N) (q : Nat), q ≤ n → hit r tm far0 q l = true → hit r tm p.1 q l = true := by
    intro l hl q hq hh
    unfold hit at hh ⊢
    cases hm : led r l with
    | none => rw [hm] at hh; exact hh
    | some m =>
      rw [hm] at hh
      dsimp only at hh ⊢
      by_cases c : 1 < q
      · rw [Bool.or_eq_true, Bool.and_eq_true, Bool.and_eq_true, decide_eq_true_eq, decide_eq_true_eq, decide_eq_true_eq, decide_eq_true_eq] at hh ⊢
        rcases hh with hh | hh
        · exact .inl hh
        · refine .inr ⟨hh.1, ?_⟩
          rw [hM.old m (hl m hm) (by omega)]; exact hh.2
      · rw [decide_eq_false c] at hh ⊢; exact hh
  refine ⟨hM.len, fun i hi => ?_, fun i hi h0 => ?_, fun _ x hx hs => ?_, fun x hx m hm h0 hlt => ?_⟩
  · by_cases c : far0.getD i 0 = 0
    · rcases hM.new i hi c with h | ⟨h, _⟩
      · exact .inl h
      · rw [h]; right; omega
    · rw [hM.old i hi c]
      rcases hf.rng i hi with h | h
      · exact .inl h
      · right; omega
  · by_cases c : far0.getD i 0 = 0
    · rcases hM.new i hi c with h | ⟨h, x, hx, hxi, hh⟩
      · exact absurd h h0
      · rw [h]
        exact ⟨x, hx, hxi, by rw [Int.toNat_natCast]; exact up _ (fun m hm => led_lt (hR x hx) hm) n (Nat.le_refl _) hh⟩
    · obtain ⟨x, hx, hxi, hh⟩ := hf.snd i hi c
      rw [hM.old i hi c]
      have := (hf.rng i hi).resolve_left c
      exact ⟨x, hx, hxi, up _ (fun m hm => led_lt (hR x hx) hm) _ (by omega) hh⟩
  · obtain ⟨_, ha0, ha1, _⟩ := okR_sides (hR x hx)
    by_cases c : 1 < n
    · have := hf.shw1 c x hx hs
      rw [hM.old _ (by omega) (by omega)]; exact this
    · obtain rfl : n = 1 := by omega
      have hd := hM.did x hx (by simp [hit, hs])
      have hz : far0.getD x.f0.toNat 0 = 0 := by
        rcases hf.rng x.f0.toNat (by omega) with h | h
        · exact h
        · omega
      rcases hM.new _ (by omega) hz with h | ⟨h, _⟩
      · exact absurd h hd
      · exact h
  · obtain ⟨_, ha0, ha1, _⟩ := okR_sides (hR x hx)
    have hmN := led_lt (hR x hx) hm
    have hm0 : far0.getD m 0 ≠ 0 := by
      intro c
      rcases hM.new m hmN c with h | ⟨h, _⟩ <;> omega
    rw [hM.old m hmN hm0] at h0 hlt ⊢
    by_cases c : far0.getD m 0 + 1 < (n : Int)
    · have := hf.lead x hx m hm h0 c
      rw [hM.old _ (by omega) (by omega)]; exact this
    · have hd := hM.did x hx (by
        simp only [hit, hm, Bool.or_eq_true, Bool.and_eq_true, decide_eq_true_eq]
        right; omega)
      by_cases c2 : far0.getD x.f0.toNat 0 = 0
      · rcases hM.new _ (by omega) c2 with h | ⟨h, _⟩
        · exact absurd h hd
        · rw [h]; omega
      · rw [hM.old _ (by omega) c2]
        have := (hf.rng x.f0.toNat (by omega)).resolve_left c2
        omega
theorem rings_far (hR : ∀ x ∈ R, okR t N x = true) : ∀ (k n : Nat) (far : List Int), 1 ≤ n → k + n = N + 1 → n ≤ nz far + 1 → FarK R r tm N n far → Far R r tm N (rings r tm R k n far)
  | 0, n, far, h1, hk, hz, hf => by
    have hall := nz_all far (by have := nz_le far; rw [hf.len] at this ⊢; omega)
    rw [hf.len] at hall
    refine ⟨hf.len, fun i hi => .inr ?_, hf.snd, fun x hx hs => ?_, fun x hx m hm h0 => ?_⟩
    · have := (hf.rng i hi).resolve_left (hall i hi); unfold rings; omega
    · obtain ⟨_, ha0, ha1, _⟩ := okR_sides (hR x hx)
      exact hf.shw1 (by omega) x hx hs
    · obtain ⟨_, ha0, ha1, _⟩ := okR_sides (hR x hx)
      have hmN := led_lt (hR x hx) hm
      unfold rings at h0 ⊢
      by_cases c : far.getD m 0 + 1 < (n : Int)
      · exact hf.lead x hx m hm h0 c
      · have := (hf.rng x.f0.toNat (by omega)).resolve_left (hall _ (by omega))
        have := (hf.rng m hmN).resolve_left (by omega)
        omega
  | k + 1, n, far, h1, hk, hz, hf => by
    have hM := Mid.all hf h1 hR
    unfold rings
    split
    · rename_i c
      have := hM.yes c
      exact rings_far hR k (n + 1) _ (by omega) (by omega) (by omega) (hf.next h1 hR)
    · rename_i c
      have he := hM.no (by simpa using c)
      rw [he]
      refine ⟨hf.len, fun i hi => ?_, hf.snd, fun x hx hs => ?_, fun x hx m hm h0 => ?_⟩
      · rcases hf.rng i hi with h | h
        · exact .inl h
        · right; omega
      · obtain ⟨_, ha0, ha1, _⟩ := okR_sides (hR x hx)
        by_cases c1 : 1 < n
        · exact hf.shw1 c1 x hx hs
        · obtain rfl : n = 1 := by omega
          have hd := hM.did x hx (by simp [hit, hs])
          rw [he] at hd
          have := (hf.rng x.f0.toNat (by omega)).resolve_left hd
          omega
      · obtain ⟨_, ha0, ha1, _⟩ := okR_sides (hR x hx)
        have hmN := led_lt (hR x hx) hm
        by_cases c1 : far.getD m 0 + 1 < (n : Int)
        · exact hf.lead x hx m hm h0 c1
        · have hm1 := (hf.rng m hmN).resolve_left (by omega)
          have hd := hM.did x hx (by
            simp only [hit, hm, Bool.or_eq_true, Bool.and_eq_true, decide_eq_true_eq]
            right; omega)
          rw [he] at hd
          have := (hf.rng x.f0.toNat (by omega)).resolve_left hd
          omega
theorem FarK.start : FarK R r tm N 1 (List.replicate N 0) := by
  have h0 : ∀ i, (List.replicate N (0 : Int)).getD i 0 = 0 := fun i => by
    rw [List.getD_eq_getElem?_getD, List.getElem?_replicate]; split <;> rfl
  refine ⟨by simp, fun i _ => .inl (h0 i), fun i _ h => absurd (h0 i) h, fun h => by omega, fun x _ m _ h _ => by rw [h0] at h; omega⟩
theorem farF_far (hR : ∀ x ∈ R, okR t N x = true) : Far R r tm N (farF r tm N R) :=
  rings_far hR N 1 _ (Nat.le_refl _) rfl (by omega) FarK.start
theorem hit_cases {q : Nat} {l : List Int} (h : hit r tm far q l = true) : (q = 1 ∧ shw r l = some tm) ∨ (1 < q ∧ ∃ m, led r l = some m ∧ far.getD m 0 = (q : Int) - 1) := by
  unfold hit at h
  rw [Bool.or_eq_true, Bool.and_eq_true, Bool.and_eq_true, decide_eq_true_eq, decide_eq_true_eq, decide_eq_true_eq] at h
  rcases h with h | ⟨h1, h2⟩
  · exact .inl h
  · right
    cases hm : led r l with
    | none => rw [hm] at h2; cases h2
    | some m => rw [hm] at h2; exact ⟨h1, m, rfl, of_decide_eq_true h2⟩
/-- Far just if there is a chain. -/
theorem Far.beg (hf : Far R r tm N far) (hR : ∀ x ∈ R, okR t N x = true) {i : Nat} (hi : i < N) : far.getD i 0 ≠ 0 ↔ Beg R r i tm := by
  constructor
  · intro h
    have : ∀ (d i : Nat), i < N → far.getD i 0 = ((d + 1 : Nat) : Int) → Beg R r i tm := by
      intro d
      induction d with
      | zero =>
        intro i hi he
        obtain ⟨x, hx, hxi, hh⟩ := hf.snd i hi (by omega)
        rw [he, Int.toNat_natCast] at hh
        rcases hit_cases hh with ⟨_, h⟩ | ⟨h, _⟩
        · exact .show hx hxi h
        · omega
      | succ d ih =>
        intro i hi he
        obtain ⟨x, hx, hxi, hh⟩ := hf.snd i hi (by omega)
        rw [he, Int.toNat_natCast] at hh
        rcases hit_cases hh with ⟨h, _⟩ | ⟨_, m, hm, hd⟩
        · omega
        · exact .lead hx hxi hm (ih m (led_lt (hR x hx) hm) (by omega))
    have h2 := (hf.rng i hi).resolve_left h
    exact this ((far.getD i 0).toNat - 1) i hi (by omega)
  · intro h
    suffices 0 < far.getD i 0 by omega
    clear hi
    generalize hT : tm = T at h
    induction h with
    | «show» hx h0 hs =>
      subst hT
      have := hf.shw1 _ hx hs
      rw [h0, Int.toNat_natCast] at this
      omega
    | lead hx h0 hl _ ih =>
      have := (hf.lead _ hx _ hl (ih hT)).1
      rw [h0, Int.toNat_natCast] at this
      exact this
/-- The first rule of a nonterminal in the ring n. -/
def idxC (r : Bool) (tm : Nat) (far : List Int) (R : List S41) (n i : Nat) : Nat := R.findIdx (fun x => decide (x.f0 = (i : Int)) && hit r tm far n x.f1)
def nextC (r : Bool) (R : List S41) (k : Nat) : Nat := match led r (R.getD k z41).f1 with | some m => m | none => 0
def walkC (r : Bool) (tm : Nat) (far : List Int) (R : List S41) : Nat → Nat → List Int
  | 0, _ => []
  | n + 1, i => ((idxC r tm far R (n + 1) i : Nat) : Int) :: walkC r tm far R n (nextC r R (idxC r tm far R (n + 1) i))
theorem idxC_lt (hf : Far R r tm N far) {i q : Nat} (hi : i < N) (hq : far.getD i 0 = (q : Int)) (h1 : 1 ≤ q) : ∃ h : idxC r tm far R q i < R.length, R[idxC r tm far R q i].f0 = (i : Int) ∧ hit r tm far q R[idxC r tm far R q i].f1 = true := by
  obtain ⟨x, hx, hxi, hh⟩ := hf.snd i hi (by omega)
  rw [hq, Int.toNat_natCast] at hh
  have hl : idxC r tm far R q i < R.length := List.findIdx_lt_length_of_exists ⟨x, hx, by simp [hxi, hh]⟩
  have := List.findIdx_getElem (p := fun x : S41 => decide (x.f0 = (i : Int)) && hit r tm far q x.f1) (xs := R) (w := hl)
  rw [Bool.and_eq_true, decide_eq_true_eq] at this
  exact ⟨hl, this⟩
theorem nextC_far (hR : ∀ x ∈ R, okR t N x = true) {k q : Nat} (hk : k < R.length) (hh : hit r tm far (q + 2) R[k].f1 = true) : nextC r R k < N ∧ far.getD (nextC r R k) 0 = ((q + 1 : Nat) : Int) ∧ led r R[k].f1 = some (nextC r R k) := by
  unfold nextC
  rw [getD_lt R k _ hk]
  rcases hit_cases hh with ⟨h, _⟩ | ⟨_, m, hm, hd⟩
  · omega
  · rw [hm]
    exact ⟨led_lt (hR _ (List.getElem_mem hk)) hm, by dsimp only; omega, rfl⟩
/-- A list of rules is a chain. -/
def IsCh (R : List S41) (r : Bool) (tm : Nat) : Nat → List Int → Prop
  | _, [] => False
  | i, k :: l => ∃ j : Nat, k = (j : Int) ∧ ∃ h : j < R.length, R[j].f0 = (i : Int) ∧ ((l = [] ∧ shw r R[j].f1 = some tm) ∨ ∃ m, led r R[j].f1 = some m ∧ IsCh R r tm m l)
theorem walkC_ch (hf : Far R r tm N far) (hR : ∀ x ∈ R, okR t N x = true) : ∀ (q i : Nat), i < N → far.getD i 0 = ((q + 1 : Nat) : Int) → IsCh R r tm i (walkC r tm far R (q + 1) i) ∧ (walkC r tm far R (q + 1) i).length = q + 1
  | 0, i, hi, hq => by
    obtain ⟨hl, h1, h2⟩ := idxC_lt hf hi hq (Nat.le_refl _)
    refine ⟨⟨_, rfl, hl, h1, .inl ⟨rfl, ?_⟩⟩, rfl⟩
    rcases hit_cases h2 with ⟨_, h⟩ | ⟨h, _⟩
    · exact h
    · omega
  | q + 1, i, hi, hq => by
    obtain ⟨hl, h1, h2⟩ := idxC_lt hf hi hq (by omega)
    obtain ⟨h3, h4, h5⟩ := nextC_far hR hl h2
    have ih := walkC_ch hf hR q _ h3 h4
    exact ⟨⟨_, rfl, hl, h1, .inr ⟨_, h5, ih.1⟩⟩, by rw [walkC, List.length_cons, ih.2]⟩
end
/-! Turned about. -/
end Go.Proofs.YtjkifeladmhkoaaDoor.E8
/- (ends.reading).shows, (ends.reading).leads: once for each of the two readings. -/
set_option linter.unusedVariables false
set_option linter.unusedSimpArgs false
namespace Go.Proofs.YtjkifeladmhkoaaDoor.E8
open Go.RowKit Go.Proofs.YtjkifeladmhkoaaDoorW.PrintWords Go.Proofs.YtjkifeladmhkoaaDoorW.PrintLast Go.Proofs.YtjkifeladmhkoaaDoorW.PrintMore
open Go.Proofs.YtjkifeladmhkoaaDoor.B

/-- A reading, as a value. -/
def fv (r : Bool) : Value := if r = true then .func (.func 83) #[] #[] else .func (.func 84) #[] #[]
theorem From1_calls (l : List Int) (k : Nat) (A : Option Addr) (c : Nat) (w : World) (hr : Kd.C (Kd.int .i64) w A l.length l) (hk : k < l.length) :
    Calls Tryd.prog 83 #[.slice A l.length c, .int .i64 (k : Int)] w fun e w' => e = .returned (.int .i64 (rdE true l k)) ∧ Below w.heap.size w w' := by
  have hm := C_max hr
  have hw : wrap64 ((l.length : Int) - 1) = ((l.length - 1 : Nat) : Int) := by unfold wrap64; omega
  have hw2 : wrap64 (((l.length - 1 : Nat) : Int) - (k : Int)) = ((l.length - 1 - k : Nat) : Int) := by unfold wrap64; omega
  obtain ⟨ad, rfl, hx⟩ := Kd.at_int hr ((l.length - 1 - k : Nat) : Int) (by omega) (by omega)
  rw [Int.toNat_natCast, rd_D] at hx
  have hq : rdE true l k = l.getD (l.length - 1 - k) 0 := rfl
  rw [hq]
  have h1 : ((l.length - 1 - k : Nat) : Int) < (l.length : Int) := by omega
  generalize l.getD (l.length - 1 - k) 0 = v at hx
  clear hq hr
  go_enter Tryd.func83, Tryd.ntmps83
  go_wp2_with fail
  go_ret
  exact ⟨rfl, Below.refl _ w⟩
theorem From2_calls (l : List Int) (k : Nat) (A : Option Addr) (c : Nat) (w : World) (hr : Kd.C (Kd.int .i64) w A l.length l) (hk : k < l.length) :
    Calls Tryd.prog 84 #[.slice A l.length c, .int .i64 (k : Int)] w fun e w' => e = .returned (.int .i64 (rdE false l k)) ∧ Below w.heap.size w w' := by
  have hm := C_max hr
  obtain ⟨ad, rfl, hx⟩ := Kd.at_int hr (k : Int) (by omega) (by omega)
  rw [Int.toNat_natCast, rd_D] at hx
  have hq : rdE false l k = l.getD k 0 := rfl
  rw [hq]
  have h1 : (k : Int) < (l.length : Int) := by omega
  generalize l.getD k 0 = v at hx
  clear hq hr
  go_enter Tryd.func84, Tryd.ntmps84
  go_wp2_with fail
  go_ret
  exact ⟨rfl, Below.refl _ w⟩
/-- What (ends.reading).shows tells. -/
def shV (r : Bool) (l : List Int) : Int × Bool := match shw r l with | some t => ((t : Int), true) | none => (0, false)
/-- What (ends.reading).leads tells. -/
def leV (r : Bool) (l : List Int) : Int × Bool := match led r l with | some t => ((t : Int), true) | none => (0, false)
theorem shV_at {r : Bool} {l : List Int} {k : Nat} (hk : k < min l.length 2) (h : ∀ j, j < k → rdE r l j < 0) (h0 : 0 ≤ rdE r l k) : shV r l = (rdE r l k, true) := by
  unfold shV shw
  match k, hk with
  | 0, hk => rw [if_pos ⟨by omega, h0⟩]; simp only; rw [Int.toNat_of_nonneg h0]
  | 1, hk =>
    have := h 0 (by omega)
    rw [if_neg (fun hh => by omega), if_pos ⟨by omega, h0⟩]; simp only; rw [Int.toNat_of_nonneg h0]
  | k + 2, hk => omega
theorem shV_no {r : Bool} {l : List Int} (h : ∀ j, j < min l.length 2 → rdE r l j < 0) : shV r l = (0, false) := by
  unfold shV shw
  rw [if_neg (fun hh => by have := h 0 (by omega); omega), if_neg (fun hh => by have := h 1 (by omega); omega)]
set_option maxRecDepth 100000 in
theorem Shows1_calls (l : List Int) (A : Option Addr) (c : Nat) (w : World) (hr : Kd.C (Kd.int .i64) w A l.length l) :
    Calls Tryd.prog 54 #[fv true, .slice A l.length c] w fun e w' => e = .returned (.tuple #[.int .i64 (shV true l).1, .bool (shV true l).2]) ∧ Below w.heap.size w w' := by
  have hF : ∀ (W : World), Below w.heap.size w W → ∀ k, k < l.length → Calls Tryd.prog 83 #[.slice A l.length c, .int .i64 (k : Int)] W fun e w' => e = .returned (.int .i64 (rdE true l k)) ∧ Aside0 (Below w.heap.size w w') := fun W hW k hk => (From1_calls l k A c W (Kd.C_below hr hW) hk).mono fun _ _ h => ⟨h.1, ⟨hW.trans (h.2.mono hW.size)⟩⟩
  have HF := Aside0.mk hF
  have hm := C_max hr
  obtain ⟨sv, hsv⟩ : ∃ sv, sv = shV true l := ⟨_, rfl⟩
  rw [← hsv]
  have HSV := Lib.hid hsv
  clear hF hr hsv
  unfold fv
  rw [if_pos rfl]
  go_enter Tryd.func54, Tryd.ntmps54
  go_wp2_with fail
  go_loopw [6, 7, 11] (fun _ _ i wr => ∃ k : Nat, k ≤ min l.length 2 ∧ i = .int .i64 k ∧ Hid (∀ j, j < k → rdE true l j < 0) ∧ Aside0 (Below w.heap.size w wr)) (fun _ _ i _ => min l.length 2 - (intOf i).toNat)
  case atStart => exact ⟨0, Nat.zero_le _, rfl, Lib.hid (fun j hj => by omega), ⟨Below.refl _ w⟩⟩
  case round =>
    obtain ⟨k, hk, rfl, hno, hbe⟩ := hrel
    by_cases hlt : k < min l.length 2
    · have hc := HF.out wr hbe.out k (by omega)
      have hlt2 : (k : Int) < min (l.length : Int) 2 := by omega
      by_cases hs : 0 ≤ rdE true l k
      · have hv := shV_at hlt hno.out hs
        rw [← HSV.out] at hv
        generalize rdE true l k = s at hc hs hv
        have HC := Aside0.mk hc
        have HV := Lib.hid hv
        clear hc hv HSV hno
        go_wp2_with (go_at_call 83; (with_reducible refine HC.out.mono ?_); rintro e w1 ⟨rfl, t1⟩)
        go_ret2
        exact ⟨by rw [HV.out]; rfl, t1.out⟩
      · have hs' : rdE true l k < 0 := by omega
        have hno' := Lib.hid (show ∀ j, j < k + 1 → rdE true l j < 0 from fun j hj => by
          rcases Nat.lt_or_ge j k with h | h
          · exact hno.out j h
          · obtain rfl : j = k := by omega
            exact hs')
        generalize rdE true l k = s at hc hs hs'
        have HC := Aside0.mk hc
        clear hc hno
        go_wp2_with (go_at_call 83; (with_reducible refine HC.out.mono ?_); rintro e w1 ⟨rfl, t1⟩)
        go_roundw
        case measure => simp [intOf]; omega
        case rel => exact ⟨k + 1, by omega, rfl, hno', t1⟩
    · have hv := shV_no (r := true) (l := l) (fun j hj => hno.out j (by omega))
      rw [← HSV.out] at hv
      obtain rfl : sv = _ := hv
      have hlt2 : ¬ (k : Int) < min (l.length : Int) 2 := by omega
      clear HSV hno
      go_wp2_with fail
      go_ret2
      exact ⟨rfl, hbe.out⟩
set_option maxRecDepth 100000 in
theorem Shows2_calls (l : List Int) (A : Option Addr) (c : Nat) (w : World) (hr : Kd.C (Kd.int .i64) w A l.length l) :
    Calls Tryd.prog 54 #[fv false, .slice A l.length c] w fun e w' => e = .returned (.tuple #[.int .i64 (shV false l).1, .bool (shV false l).2]) ∧ Below w.heap.size w w' := by
  have hF : ∀ (W : World), Below w.heap.size w W → ∀ k, k < l.length → Calls Tryd.prog 84 #[.slice A l.length c, .int .i64 (k : Int)] W fun e w' => e = .returned (.int .i64 (rdE false l k)) ∧ Aside0 (Below w.heap.size w w') := fun W hW k hk => (From2_calls l k A c W (Kd.C_below hr hW) hk).mono fun _ _ h => ⟨h.1, ⟨hW.trans (h.2.mono hW.size)⟩⟩
  have HF := Aside0.mk hF
  have hm := C_max hr
  obtain ⟨sv, hsv⟩ : ∃ sv, sv = shV false l := ⟨_, rfl⟩
  rw [← hsv]
  have HSV := Lib.hid hsv
  clear hF hr hsv
  unfold fv
  rw [if_neg (by decide)]
  go_enter Tryd.func54, Tryd.ntmps54
  go_wp2_with fail
  go_loopw [6, 7, 11] (fun _ _ i wr => ∃ k : Nat, k ≤ min l.length 2 ∧ i = .int .i64 k ∧ Hid (∀ j, j < k → rdE false l j < 0) ∧ Aside0 (Below w.heap.size w wr)) (fun _ _ i _ => min l.length 2 - (intOf i).toNat)
  case atStart => exact ⟨0, Nat.zero_le _, rfl, Lib.hid (fun j hj => by omega), ⟨Below.refl _ w⟩⟩
  case round =>
    obtain ⟨k, hk, rfl, hno, hbe⟩ := hrel
    by_cases hlt : k < min l.length 2
    · have hc := HF.out wr hbe.out k (by omega)
      have hlt2 : (k : Int) < min (l.length : Int) 2 := by omega
      by_cases hs : 0 ≤ rdE false l k
      · have hv := shV_at hlt hno.out hs
        rw [← HSV.out] at hv
        generalize rdE false l k = s at hc hs hv
        have HC := Aside0.mk hc
        have HV := Lib.hid hv
        clear hc hv HSV hno
        go_wp2_with (go_at_call 84; (with_reducible refine HC.out.mono ?_); rintro e w1 ⟨rfl, t1⟩)
        go_ret2
        exact ⟨by rw [HV.out]; rfl, t1.out⟩
      · have hs' : rdE false l k < 0 := by omega
        have hno' := Lib.hid (show ∀ j, j < k + 1 → rdE false l j < 0 from fun j hj => by
          rcases Nat.lt_or_ge j k with h | h
          · exact hno.out j h
          · obtain rfl : j = k := by omega
            exact hs')
        generalize rdE false l k = s at hc hs hs'
        have HC := Aside0.mk hc
        clear hc hno
        go_wp2_with (go_at_call 84; (with_reducible refine HC.out.mono ?_); rintro e w1 ⟨rfl, t1⟩)
        go_roundw
        case measure => simp [intOf]; omega
        case rel => exact ⟨k + 1, by omega, rfl, hno', t1⟩
    · have hv := shV_no (r := false) (l := l) (fun j hj => hno.out j (by omega))
      rw [← HSV.out] at hv
      obtain rfl : sv = _ := hv
      have hlt2 : ¬ (k : Int) < min (l.length : Int) 2 := by omega
      clear HSV hno
      go_wp2_with fail
      go_ret2
      exact ⟨rfl, hbe.out⟩
theorem Shows_calls (r : Bool) (l : List Int) (A : Option Addr) (c : Nat) (w : World) (hr : Kd.C (Kd.int .i64) w A l.length l) :
    Calls Tryd.prog 54 #[fv r, .slice A l.length c] w fun e w' => e = .returned (.tuple #[.int .i64 (shV r l).1, .bool (shV r l).2]) ∧ Below w.heap.size w w' := by
  cases r
  · exact Shows2_calls l A c w hr
  · exact Shows1_calls l A c w hr
set_option maxRecDepth 100000 in
theorem Leads1_calls (l : List Int) (A : Option Addr) (c : Nat) (w : World) (hr : Kd.C (Kd.int .i64) w A l.length l) (hx : ∀ s ∈ l, -9223372036854775808 ≤ s) :
    Calls Tryd.prog 55 #[fv true, .slice A l.length c] w fun e w' => e = .returned (.tuple #[.int .i64 (leV true l).1, .bool (leV true l).2]) ∧ Below w.heap.size w w' := by
  have hF : 0 < l.length → ∀ (W : World), Below w.heap.size w W → Calls Tryd.prog 83 #[.slice A l.length c, .int .i64 0] W fun e w' => e = .returned (.int .i64 (rdE true l 0)) ∧ Aside0 (Below w.heap.size w w') := fun h0 W hW => (From1_calls l 0 A c W (Kd.C_below hr hW) h0).mono fun _ _ h => ⟨h.1, ⟨hW.trans (h.2.mono hW.size)⟩⟩
  have hm := C_max hr
  have hb := Below.refl w.heap.size w
  by_cases h0 : 0 < l.length
  · have hF := hF h0
    have hne : ((l.length : Int) == 0) = false := beq_eq_false_iff_ne.2 (by omega)
    have hne' : ¬ ((l.length : Int) = 0) := by omega
    have hge := hx _ (rdE_mem (r := true) (k := 0) h0)
    by_cases hs : 0 ≤ rdE true l 0
    · have hv : leV true l = (0, false) := by unfold leV led; rw [if_neg (fun hh => by omega)]
      rw [hv]
      generalize rdE true l 0 = s at hF hs
      have HF := Aside0.mk hF
      have HB := Aside0.mk hb
      clear hF hr hv hx hb hge
      unfold fv
      rw [if_pos rfl]
      go_enter Tryd.func55, Tryd.ntmps55
      go_wp2_with (go_at_call 83; (with_reducible refine (HF.out _ HB.out).mono ?_); rintro e w1 ⟨rfl, t1⟩)
      go_ret2
      exact ⟨rfl, t1.out⟩
    · have hv : leV true l = (-1 - rdE true l 0, true) := by unfold leV led; rw [if_pos ⟨h0, by omega⟩]; simp only; rw [Int.toNat_of_nonneg (by omega)]
      rw [hv]
      have hs' : rdE true l 0 < 0 := by omega
      generalize rdE true l 0 = s at hF hs hs' hge ⊢
      have HF := Aside0.mk hF
      have HB := Aside0.mk hb
      clear hF hr hv hx hb
      unfold fv
      rw [if_pos rfl]
      go_enter Tryd.func55, Tryd.ntmps55
      go_wp2_with (first
        | (go_at_call 83; (with_reducible refine (HF.out _ t1.out).mono ?_); rintro e w2 ⟨rfl, t2⟩)
        | (go_at_call 83; (with_reducible refine (HF.out _ HB.out).mono ?_); rintro e w1 ⟨rfl, t1⟩))
      go_ret2
      exact ⟨rfl, t2.out⟩
  · have hv : leV true l = (0, false) := by unfold leV led; rw [if_neg (fun hh => h0 hh.1)]
    rw [hv]
    have h0' : l.length = 0 := by omega
    rw [h0']
    clear hF hr hv hx hm h0 h0'
    unfold fv
    rw [if_pos rfl]
    go_enter Tryd.func55, Tryd.ntmps55
    go_wp2_with fail
    go_ret2
    exact ⟨rfl, hb⟩
set_option maxRecDepth 100000 in
theorem Leads2_calls (l : List Int) (A : Option Addr) (c : Nat) (w : World) (hr : Kd.C (Kd.int .i64) w A l.length l) (hx : ∀ s ∈ l, -9223372036854775808 ≤ s) :
    Calls Tryd.prog 55 #[fv false, .slice A l.length c] w fun e w' => e = .returned (.tuple #[.int .i64 (leV false l).1, .bool (leV false l).2]) ∧ Below w.heap.size w w' := by
  have hF : 0 < l.length → ∀ (W : World), Below w.heap.size w W → Calls Tryd.prog 84 #[.slice A l.length c, .int .i64 0] W fun e w' => e = .returned (.int .i64 (rdE false l 0)) ∧ Aside0 (Below w.heap.size w w') := fun h0 W hW => (From2_calls l 0 A c W (Kd.C_below hr hW) h0).mono fun _ _ h => ⟨h.1, ⟨hW.trans (h.2.mono hW.size)⟩⟩
  have hm := C_max hr
  have hb := Below.refl w.heap.size w
  by_cases h0 : 0 < l.length
  · have hF := hF h0
    have hne : ((l.length : Int) == 0) = false := beq_eq_false_iff_ne.2 (by omega)
    have hne' : ¬ ((l.length : Int) = 0) := by omega
    have hge := hx _ (rdE_mem (r := false) (k := 0) h0)
    by_cases hs : 0 ≤ rdE false l 0
    · have hv : leV false l = (0, false) := by unfold leV led; rw [if_neg (fun hh => by omega)]
      rw [hv]
      generalize rdE false l 0 = s at hF hs
      have HF := Aside0.mk hF
      have HB := Aside0.mk hb
      clear hF hr hv hx hb hge
      unfold fv
      rw [if_neg (by decide)]
      go_enter Tryd.func55, Tryd.ntmps55
      go_wp2_with (go_at_call 84; (with_reducible refine (HF.out _ HB.out).mono ?_); rintro e w1 ⟨rfl, t1⟩)
      go_ret2
      exact ⟨rfl, t1.out⟩
    · have hv : leV false l = (-1 - rdE false l 0, true) := by unfold leV led; rw [if_pos ⟨h0, by omega⟩]; simp only; rw [Int.toNat_of_nonneg (by omega)]
      rw [hv]
      have hs' : rdE false l 0 < 0 := by omega
      generalize rdE false l 0 = s at hF hs hs' hge ⊢
      have HF := Aside0.mk hF
      have HB := Aside0.mk hb
      clear hF hr hv hx hb
      unfold fv
      rw [if_neg (by decide)]
      go_enter Tryd.func55, Tryd.ntmps55
      go_wp2_with (first
        | (go_at_call 84; (with_reducible refine (HF.out _ t1.out).mono ?_); rintro e w2 ⟨rfl, t2⟩)
        | (go_at_call 84; (with_reducible refine (HF.out _ HB.out).mono ?_); rintro e w1 ⟨rfl, t1⟩))
      go_ret2
      exact ⟨rfl, t2.out⟩
  · have hv : leV false l = (0, false) := by unfold leV led; rw [if_neg (fun hh => h0 hh.1)]
    rw [hv]
    have h0' : l.length = 0 := by omega
    rw [h0']
    clear hF hr hv hx hm h0 h0'
    unfold fv
    rw [if_neg (by decide)]
    go_enter Tryd.func55, Tryd.ntmps55
    go_wp2_with fail
    go_ret2
    exact ⟨rfl, hb⟩
theorem Leads_calls (r : Bool) (l : List Int) (A : Option Addr) (c : Nat) (w : World) (hr : Kd.C (Kd.int .i64) w A l.length l) (hx : ∀ s ∈ l, -9223372036854775808 ≤ s) :
    Calls Tryd.prog 55 #[fv r, .slice A l.length c] w fun e w' => e = .returned (.tuple #[.int .i64 (leV r l).1, .bool (leV r l).2]) ∧ Below w.heap.size w w' := by
  cases r
  · exact Leads2_calls l A c w hr hx
  · exact Leads1_calls l A c w hr hx
end Go.Proofs.YtjkifeladmhkoaaDoor.E8
/- (ends.reading).shows, (ends.reading).leads in the print's form; a reading shows as a whole number (not 0: from the right). -/
set_option linter.unusedVariables false
set_option linter.unusedSimpArgs false
namespace Go.Proofs.YtjkifeladmhkoaaDoor.E8
open Go.RowKit Go.Proofs.YtjkifeladmhkoaaDoorW.PrintWords Go.Proofs.YtjkifeladmhkoaaDoorW.PrintLast Go.Proofs.YtjkifeladmhkoaaDoorW.PrintMore
open Go.Proofs.YtjkifeladmhkoaaDoor.B

/-- A reading's value. -/
def fvI (a : Int) : Value := fv (decide (a ≠ 0))
def ends_reading_shows.f (a : Int) (l : List Int) : Option (Int × Bool) := some (shV (decide (a ≠ 0)) l)
def ends_reading_leads.f (a : Int) (l : List Int) : Option (Int × Bool) := if l.all (fun s => decide (-9223372036854775808 ≤ s)) = true then some (leV (decide (a ≠ 0)) l) else none
theorem ends_reading_shows.calls (a : Int) (A : Option Addr) (c : Nat) (l : List Int) (r1 : Int) (r2 : Bool) (w : World) (hr : Kd.C (Kd.int .i64) w A l.length l) (hc : l.length ≤ c) (h : ends_reading_shows.f a l = some (r1, r2)) :
    Calls Tryd.prog 54 #[fvI a, .slice A l.length c] w fun e w' => e = .returned (.tuple #[.int .i64 r1, .bool r2]) ∧ Below w.heap.size w w' := by
  have h' := Option.some.inj h
  have := Shows_calls (decide (a ≠ 0)) l A c w hr
  rw [h'] at this
  exact this
theorem ends_reading_leads.calls (a : Int) (A : Option Addr) (c : Nat) (l : List Int) (r1 : Int) (r2 : Bool) (w : World) (hr : Kd.C (Kd.int .i64) w A l.length l) (hc : l.length ≤ c) (h : ends_reading_leads.f a l = some (r1, r2)) :
    Calls Tryd.prog 55 #[fvI a, .slice A l.length c] w fun e w' => e = .returned (.tuple #[.int .i64 r1, .bool r2]) ∧ Below w.heap.size w w' := by
  unfold ends_reading_leads.f at h
  split at h
  · rename_i hl
    have h' := Option.some.inj h
    have := Leads_calls (decide (a ≠ 0)) l A c w hr (fun s hs => of_decide_eq_true (List.all_eq_true.1 hl s hs))
    rw [h'] at this
    exact this
  · cases h
end Go.Proofs.YtjkifeladmhkoaaDoor.E8
namespace Go.Proofs.YtjkifeladmhkoaaDoor.Es
open Go.Proofs.YtjkifeladmhkoaaDoor.B (S41 z41 k41 k41_open k41_openM k41_mk k41_mkM rd_T41 at_T41)
open Go.RowKit Go.Proofs.YtjkifeladmhkoaaDoorW.PrintWords Go.Proofs.YtjkifeladmhkoaaDoorW.PrintLast Go.Proofs.YtjkifeladmhkoaaDoorW.PrintMore
attribute [local go_sem] max2_int min2_int max_two min_two max_three min_three max_four min_four   -- for this text's walks alone
set_option linter.unusedVariables false
set_option linter.unusedSimpArgs false



def errW : Option Int → Value
  | none => .nilIface
  | some c => .iface 0 (.int .i64 c)
theorem errW_none : errW none = .nilIface := rfl
theorem errW_some (c : Int) : errW (some c) = .iface 0 (.int .i64 c) := rfl

theorem info45 : (Tryd.prog.info? 45).map (fun i => (i.zero, i.size, i.bytes)) = some (some (.int .u64 0), 1, 8) := by kernel_rfl
/-! #### struct type 41 -/

end Go.Proofs.YtjkifeladmhkoaaDoor.Es
