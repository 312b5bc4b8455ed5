/- Texts of this claim, one behind the other. -/
import Derived.Test.YtjkifeladmhkoaaDoorMECh1
namespace Go.Proofs.YtjkifeladmhkoaaDoor.B
open Go.RowKit YtjkifeladmhkoaaDoorW.PrintWords YtjkifeladmhkoaaDoorW.PrintLast YtjkifeladmhkoaaDoorW.PrintMore
attribute [local go_sem] max2_int min2_int max_two min_two max_three min_three max_four min_four   -- for this text's walks alone
set_option linter.unusedVariables false
set_option linter.unusedSimpArgs false

def dovetaillaw08_given.f  : Option (List ByteArray × List ByteArray × Int × (List (S41))) := some ((([(⟨#[43]⟩ : ByteArray), (⟨#[42]⟩ : ByteArray), (⟨#[40]⟩ : ByteArray), (⟨#[41]⟩ : ByteArray), (⟨#[105]⟩ : ByteArray)] : List ByteArray)), (([(⟨#[69]⟩ : ByteArray), (⟨#[84]⟩ : ByteArray), (⟨#[70]⟩ : ByteArray)] : List ByteArray)), 0, (([(⟨0, (([(-1), 0, (-2)] : List Int))⟩ : S41), (⟨0, (([(-2)] : List Int))⟩ : S41), (⟨1, (([(-2), 1, (-3)] : List Int))⟩ : S41), (⟨1, (([(-3)] : List Int))⟩ : S41), (⟨2, (([2, (-1), 3] : List Int))⟩ : S41), (⟨2, (([4] : List Int))⟩ : S41)] : List (S41))))
set_option maxHeartbeats 8000000 in
set_option maxRecDepth 100000 in
theorem dovetaillaw08_given.calls  (r1 : List ByteArray) (r2 : List ByteArray) (r3 : Int) (r4 : List (S41)) (w : World) (h : dovetaillaw08_given.f  = some (r1, r2, r3, r4)) :
 Calls Tryd.prog 16 #[] w fun e w' => ∃ v0_ v1_ v3_ : Value, e = .returned (.agg #[v0_, v1_, .int .i64 r3, v3_]) ∧ Kd.R Kd.string 9 w' w.heap.size (fun k_ => (w.heap.size ≤ k_) ∧ some k_ ≠ (v1_ : Value).ownBlock) v0_ r1 ∧ Kd.R Kd.string 9 w' w.heap.size (fun k_ => (w.heap.size ≤ k_) ∧ some k_ ≠ (v0_ : Value).ownBlock) v1_ r2 ∧ Kd.N k41 41 w' w.heap.size (fun k_ => (w.heap.size ≤ k_) ∧ some k_ ≠ (v0_ : Value).ownBlock ∧ some k_ ≠ (v1_ : Value).ownBlock) v3_ r4 ∧ Below w.heap.size w w' := by
 have hu32 := Tryd.underlying32
 have hu41 := Tryd.underlying41
 have HB := Aside0.mk (Below.refl w.heap.size w)
 have H : (some ((([(⟨#[43]⟩ : ByteArray), (⟨#[42]⟩ : ByteArray), (⟨#[40]⟩ : ByteArray), (⟨#[41]⟩ : ByteArray), (⟨#[105]⟩ : ByteArray)] : List ByteArray)), (([(⟨#[69]⟩ : ByteArray), (⟨#[84]⟩ : ByteArray), (⟨#[70]⟩ : ByteArray)] : List ByteArray)), 0, (([(⟨0, (([(-1), 0, (-2)] : List Int))⟩ : S41), (⟨0, (([(-2)] : List Int))⟩ : S41), (⟨1, (([(-2), 1, (-3)] : List Int))⟩ : S41), (⟨1, (([(-3)] : List Int))⟩ : S41), (⟨2, (([2, (-1), 3] : List Int))⟩ : S41), (⟨2, (([4] : List Int))⟩ : S41)] : List (S41))))) = some (r1, r2, r3, r4) := h
 clear h
 obtain ⟨y102, hy102⟩ : ∃ y_ : List ByteArray, y_ = (([(⟨#[43]⟩ : ByteArray), (⟨#[42]⟩ : ByteArray), (⟨#[40]⟩ : ByteArray), (⟨#[41]⟩ : ByteArray), (⟨#[105]⟩ : ByteArray)] : List ByteArray)) := ⟨_, rfl⟩
 replace H : (some (y102, (([(⟨#[69]⟩ : ByteArray), (⟨#[84]⟩ : ByteArray), (⟨#[70]⟩ : ByteArray)] : List ByteArray)), 0, (([(⟨0, (([(-1), 0, (-2)] : List Int))⟩ : S41), (⟨0, (([(-2)] : List Int))⟩ : S41), (⟨1, (([(-2), 1, (-3)] : List Int))⟩ : S41), (⟨1, (([(-3)] : List Int))⟩ : S41), (⟨2, (([2, (-1), 3] : List Int))⟩ : S41), (⟨2, (([4] : List Int))⟩ : S41)] : List (S41))))) = some (r1, r2, r3, r4) := by first | (rw [hy102]; with_reducible exact H) | (have H2_ := (Option.bind_some _ _).symm.trans H; rw [hy102]; with_reducible exact H2_) | (have H2_ := (Option.bind_some _ _).symm.trans H; with_reducible exact H2_) | with_reducible exact H | (rw [hy102]; exact H) | exact H
 have Ny102 := Aside0.mk hy102
 clear hy102
 obtain ⟨y105, hy105⟩ : ∃ y_ : List ByteArray, y_ = (([(⟨#[69]⟩ : ByteArray), (⟨#[84]⟩ : ByteArray), (⟨#[70]⟩ : ByteArray)] : List ByteArray)) := ⟨_, rfl⟩
 replace H : (some (y102, y105, 0, (([(⟨0, (([(-1), 0, (-2)] : List Int))⟩ : S41), (⟨0, (([(-2)] : List Int))⟩ : S41), (⟨1, (([(-2), 1, (-3)] : List Int))⟩ : S41), (⟨1, (([(-3)] : List Int))⟩ : S41), (⟨2, (([2, (-1), 3] : List Int))⟩ : S41), (⟨2, (([4] : List Int))⟩ : S41)] : List (S41))))) = some (r1, r2, r3, r4) := by first | (rw [hy105]; with_reducible exact H) | (have H2_ := (Option.bind_some _ _).symm.trans H; rw [hy105]; with_reducible exact H2_) | (have H2_ := (Option.bind_some _ _).symm.trans H; with_reducible exact H2_) | with_reducible exact H | (rw [hy105]; exact H) | exact H
 have Ny105 := Aside0.mk hy105
 clear hy105
 obtain ⟨y108, hy108⟩ : ∃ y_ : List Int, y_ = (([(-1), 0, (-2)] : List Int)) := ⟨_, rfl⟩
 replace H : (some (y102, y105, 0, (([(⟨0, y108⟩ : S41), (⟨0, (([(-2)] : List Int))⟩ : S41), (⟨1, (([(-2), 1, (-3)] : List Int))⟩ : S41), (⟨1, (([(-3)] : List Int))⟩ : S41), (⟨2, (([2, (-1), 3] : List Int))⟩ : S41), (⟨2, (([4] : List Int))⟩ : S41)] : List (S41))))) = some (r1, r2, r3, r4) := by first | (rw [hy108]; with_reducible exact H) | (have H2_ := (Option.bind_some _ _).symm.trans H; rw [hy108]; with_reducible exact H2_) | (have H2_ := (Option.bind_some _ _).symm.trans H; with_reducible exact H2_) | with_reducible exact H | (rw [hy108]; exact H) | exact H
 have Ny108 := Aside0.mk hy108
 clear hy108
 obtain ⟨y111, hy111⟩ : ∃ y_ : List Int, y_ = (([(-2)] : List Int)) := ⟨_, rfl⟩
 replace H : (some (y102, y105, 0, (([(⟨0, y108⟩ : S41), (⟨0, y111⟩ : S41), (⟨1, (([(-2), 1, (-3)] : List Int))⟩ : S41), (⟨1, (([(-3)] : List Int))⟩ : S41), (⟨2, (([2, (-1), 3] : List Int))⟩ : S41), (⟨2, (([4] : List Int))⟩ : S41)] : List (S41))))) = some (r1, r2, r3, r4) := by first | (rw [hy111]; with_reducible exact H) | (have H2_ := (Option.bind_some _ _).symm.trans H; rw [hy111]; with_reducible exact H2_) | (have H2_ := (Option.bind_some _ _).symm.trans H; with_reducible exact H2_) | with_reducible exact H | (rw [hy111]; exact H) | exact H
 have Ny111 := Aside0.mk hy111
 clear hy111
 obtain ⟨y114, hy114⟩ : ∃ y_ : List Int, y_ = (([(-2), 1, (-3)] : List Int)) := ⟨_, rfl⟩
 replace H : (some (y102, y105, 0, (([(⟨0, y108⟩ : S41), (⟨0, y111⟩ : S41), (⟨1, y114⟩ : S41), (⟨1, (([(-3)] : List Int))⟩ : S41), (⟨2, (([2, (-1), 3] : List Int))⟩ : S41), (⟨2, (([4] : List Int))⟩ : S41)] : List (S41))))) = some (r1, r2, r3, r4) := by first | (rw [hy114]; with_reducible exact H) | (have H2_ := (Option.bind_some _ _).symm.trans H; rw [hy114]; with_reducible exact H2_) | (have H2_ := (Option.bind_some _ _).symm.trans H; with_reducible exact H2_) | with_reducible exact H | (rw [hy114]; exact H) | exact H
 have Ny114 := Aside0.mk hy114
 clear hy114
 obtain ⟨y117, hy117⟩ : ∃ y_ : List Int, y_ = (([(-3)] : List Int)) := ⟨_, rfl⟩
 replace H : (some (y102, y105, 0, (([(⟨0, y108⟩ : S41), (⟨0, y111⟩ : S41), (⟨1, y114⟩ : S41), (⟨1, y117⟩ : S41), (⟨2, (([2, (-1), 3] : List Int))⟩ : S41), (⟨2, (([4] : List Int))⟩ : S41)] : List (S41))))) = some (r1, r2, r3, r4) := by first | (rw [hy117]; with_reducible exact H) | (have H2_ := (Option.bind_some _ _).symm.trans H; rw [hy117]; with_reducible exact H2_) | (have H2_ := (Option.bind_some _ _).symm.trans H; with_reducible exact H2_) | with_reducible exact H | (rw [hy117]; exact H) | exact H
 have Ny117 := Aside0.mk hy117
 clear hy117
 obtain ⟨y120, hy120⟩ : ∃ y_ : List Int, y_ = (([2, (-1), 3] : List Int)) := ⟨_, rfl⟩
 replace H : (some (y102, y105, 0, (([(⟨0, y108⟩ : S41), (⟨0, y111⟩ : S41), (⟨1, y114⟩ : S41), (⟨1, y117⟩ : S41), (⟨2, y120⟩ : S41), (⟨2, (([4] : List Int))⟩ : S41)] : List (S41))))) = some (r1, r2, r3, r4) := by first | (rw [hy120]; with_reducible exact H) | (have H2_ := (Option.bind_some _ _).symm.trans H; rw [hy120]; with_reducible exact H2_) | (have H2_ := (Option.bind_some _ _).symm.trans H; with_reducible exact H2_) | with_reducible exact H | (rw [hy120]; exact H) | exact H
 have Ny120 := Aside0.mk hy120
 clear hy120
 obtain ⟨y123, hy123⟩ : ∃ y_ : List Int, y_ = (([4] : List Int)) := ⟨_, rfl⟩
 replace H : (some (y102, y105, 0, (([(⟨0, y108⟩ : S41), (⟨0, y111⟩ : S41), (⟨1, y114⟩ : S41), (⟨1, y117⟩ : S41), (⟨2, y120⟩ : S41), (⟨2, y123⟩ : S41)] : List (S41))))) = some (r1, r2, r3, r4) := by first | (rw [hy123]; with_reducible exact H) | (have H2_ := (Option.bind_some _ _).symm.trans H; rw [hy123]; with_reducible exact H2_) | (have H2_ := (Option.bind_some _ _).symm.trans H; with_reducible exact H2_) | with_reducible exact H | (rw [hy123]; exact H) | exact H
 have Ny123 := Aside0.mk hy123
 clear hy123
 obtain ⟨y126, hy126⟩ : ∃ y_ : List (S41), y_ = (([(⟨0, y108⟩ : S41), (⟨0, y111⟩ : S41), (⟨1, y114⟩ : S41), (⟨1, y117⟩ : S41), (⟨2, y120⟩ : S41), (⟨2, y123⟩ : S41)] : List (S41))) := ⟨_, rfl⟩
 replace H : (some (y102, y105, 0, y126)) = some (r1, r2, r3, r4) := by first | (rw [hy126]; with_reducible exact H) | (have H2_ := (Option.bind_some _ _).symm.trans H; rw [hy126]; with_reducible exact H2_) | (have H2_ := (Option.bind_some _ _).symm.trans H; with_reducible exact H2_) | with_reducible exact H | (rw [hy126]; exact H) | exact H
 have Ny126 := Aside0.mk hy126
 clear hy126
 simp only [Option.some.injEq, Prod.mk.injEq] at H
 obtain ⟨rfl, rfl, rfl, rfl⟩ := H
 go_enter Tryd.func16, Tryd.ntmps16
 go_wp2_with (first | ((with_reducible refine gate_dst (N := 0) rfl ?_); refine box_event ?hg (N := 0) ?hd (cs := #[.slice none 0 0, .slice none 0 0, .int .i64 0, .slice none 0 0]) (t := 32) ?hr ?_; (case hd => rfl); (case hg => rfl); (case hr => first | (go_simp; done) | (go_simp; rfl)); intro gb101 hg w1 hbox hb; have n0_ := Aside0.mk (below_step (by repeat (first | (with_reducible first | exact HB.out | apply below_alloc | apply pw_below_drewN | apply below_drew1) | exact HB.out)) hb); have n1_ := Aside0.mk (hbox); have n2_ := Aside0.mk ((by rw [hg]; exact (below_size (by repeat (first | (with_reducible first | exact HB.out | apply below_alloc | apply pw_below_drewN | apply below_drew1) | exact HB.out))) : w.heap.size ≤ gb101)); have n3_ := Aside0.mk ((by rw [hg]; exact (below_size (by repeat (first | (with_reducible first | exact HB.out | apply below_alloc | apply pw_below_drewN | apply below_drew1) | exact HB.out))) : w.heap.size ≤ gb101)); clear HB; have HB := n0_; have BK101 := n1_; have GW101 := n2_; have GE101 := n3_; clear n0_ n1_ n2_ n3_; clear hb hbox hg) | ((with_reducible refine gate_dst (N := 1) rfl ?_); refine Kd.R_lit Kd.string _ 9 ?hg (N := 1) ?hd (xs := ([(⟨#[43]⟩ : ByteArray), (⟨#[42]⟩ : ByteArray), (⟨#[40]⟩ : ByteArray), (⟨#[41]⟩ : ByteArray), (⟨#[105]⟩ : ByteArray)] : List ByteArray)) (inner := [.string (⟨#[43]⟩ : ByteArray), .string (⟨#[42]⟩ : ByteArray), .string (⟨#[40]⟩ : ByteArray), .string (⟨#[41]⟩ : ByteArray), .string (⟨#[105]⟩ : ByteArray)]) (ok := fun _ => True) (okp := fun _ => True) ?hr ?hp (fun _ hk => hk) trivial (Below.refl _ _) (Nat.le_refl _) (by simp) ?_; (case hd => rfl); (case hg => rfl); (case hr => first | (go_simp; done) | (go_simp; rfl)); (case hp => exact (Reps.one (show Kd.M Kd.string _ _ _ (⟨#[43]⟩ : ByteArray) [.string (⟨#[43]⟩ : ByteArray)] from rfl) (Reps.one (show Kd.M Kd.string _ _ _ (⟨#[42]⟩ : ByteArray) [.string (⟨#[42]⟩ : ByteArray)] from rfl) (Reps.one (show Kd.M Kd.string _ _ _ (⟨#[40]⟩ : ByteArray) [.string (⟨#[40]⟩ : ByteArray)] from rfl) (Reps.one (show Kd.M Kd.string _ _ _ (⟨#[41]⟩ : ByteArray) [.string (⟨#[41]⟩ : ByteArray)] from rfl) (Reps.one (show Kd.M Kd.string _ _ _ (⟨#[105]⟩ : ByteArray) [.string (⟨#[105]⟩ : ByteArray)] from rfl) (Reps.none _ _))))))); intro v103 w2 ho3 hb hg_ hnew_; clear hg_ hnew_; (first | rw [← Ny102.out] at ho3 | (simp only [Int.reduceToNat] at ho3; rw [← Ny102.out] at ho3)); have n0_ := Aside0.mk (Kd.R_lower (Kd.R_newM (M := fun k_ => (w.heap.size ≤ k_)) ho3 (below_size (by repeat (first | (with_reducible first | exact HB.out | apply below_alloc | apply pw_below_drewN | apply below_drew1 | refine below_set ?_ GE101.out) | exact HB.out))) (fun k_ h_ => h_)) (below_size (by repeat (first | (with_reducible first | exact HB.out | apply below_alloc | apply pw_below_drewN | apply below_drew1 | refine below_set ?_ GE101.out) | exact HB.out)))); have n1_ := Aside0.mk (blk_below (g := gb101) (o := .cells #[.slice none 0 0, .slice none 0 0, .int .i64 0, .slice none 0 0] 32 (0, 0)) (by (with_reducible repeat (first | refine blk_drewN ?_ _ | refine blk_drew ?_ | refine blk_alloc ?_ _)); exact BK101.out) hb); have n2_ := Aside0.mk (below_step (by repeat (first | (with_reducible first | exact HB.out | apply below_alloc | apply pw_below_drewN | apply below_drew1 | refine below_set ?_ GE101.out) | exact HB.out)) hb); clear BK101; clear HB; have HO104 := n0_; have BK101 := n1_; have HB := n2_; clear n0_ n1_ n2_; clear hb ho3) | ((with_reducible refine gate_dst (N := 2) rfl ?_); refine Kd.R_lit Kd.string _ 9 ?hg (N := 2) ?hd (xs := ([(⟨#[69]⟩ : ByteArray), (⟨#[84]⟩ : ByteArray), (⟨#[70]⟩ : ByteArray)] : List ByteArray)) (inner := [.string (⟨#[69]⟩ : ByteArray), .string (⟨#[84]⟩ : ByteArray), .string (⟨#[70]⟩ : ByteArray)]) (ok := fun _ => True) (okp := fun _ => True) ?hr ?hp (fun _ hk => hk) trivial (Below.refl _ _) (Nat.le_refl _) (by simp) ?_; (case hd => rfl); (case hg => rfl); (case hr => first | (go_simp; done) | (go_simp; rfl)); (case hp => exact (Reps.one (show Kd.M Kd.string _ _ _ (⟨#[69]⟩ : ByteArray) [.string (⟨#[69]⟩ : ByteArray)] from rfl) (Reps.one (show Kd.M Kd.string _ _ _ (⟨#[84]⟩ : ByteArray) [.string (⟨#[84]⟩ : ByteArray)] from rfl) (Reps.one (show Kd.M Kd.string _ _ _ (⟨#[70]⟩ : ByteArray) [.string (⟨#[70]⟩ : ByteArray)] from rfl) (Reps.none _ _))))); intro v106 w4 ho5 hb hg_ hnew_; clear hg_ hnew_; (first | rw [← Ny105.out] at ho5 | (simp only [Int.reduceToNat] at ho5; rw [← Ny105.out] at ho5)); have n0_ := Aside0.mk (Kd.R_elder' (by (with_reducible repeat (first | apply Kd.R_alloc | apply Kd.R_drewN | apply Kd.R_drew)); exact HO104.out) (Kd.R_base ho5) hb); have n1_ := Aside0.mk (Kd.R_lower (Kd.R_new' (Kd.R_newM (M := fun k_ => (w.heap.size ≤ k_)) ho5 (below_size (by repeat (first | (with_reducible first | exact HB.out | apply below_alloc | apply pw_below_drewN | apply below_drew1 | refine below_set ?_ GE101.out) | exact HB.out))) (fun k_ h_ => h_)) (Kd.R_lt (by (with_reducible repeat (first | apply Kd.R_alloc | apply Kd.R_drewN | apply Kd.R_drew)); exact HO104.out))) (below_size (by repeat (first | (with_reducible first | exact HB.out | apply below_alloc | apply pw_below_drewN | apply below_drew1 | refine below_set ?_ GE101.out) | exact HB.out)))); have n2_ := Aside0.mk (blk_below (g := gb101) (o := .cells #[.slice none 0 0, .slice none 0 0, .int .i64 0, .slice none 0 0] 32 (0, 0)) (by (with_reducible repeat (first | refine blk_drewN ?_ _ | refine blk_drew ?_ | refine blk_alloc ?_ _)); exact BK101.out) hb); have n3_ := Aside0.mk (below_step (by repeat (first | (with_reducible first | exact HB.out | apply below_alloc | apply pw_below_drewN | apply below_drew1 | refine below_set ?_ GE101.out) | exact HB.out)) hb); clear HO104; clear BK101; clear HB; have HO104 := n0_; have HO107 := n1_; have BK101 := n2_; have HB := n3_; clear n0_ n1_ n2_ n3_; clear hb ho5) | ((with_reducible refine gate_dst (N := 3) rfl ?_); refine Kd.R_lit (Kd.int .i64) _ 3 ?hg (N := 3) ?hd (xs := ([(-1), 0, (-2)] : List Int)) (inner := [.int .i64 (-1), .int .i64 0, .int .i64 (-2)]) (ok := fun _ => True) (okp := fun _ => True) ?hr ?hp (fun _ hk => hk) trivial (Below.refl _ _) (Nat.le_refl _) (by simp) ?_; (case hd => rfl); (case hg => rfl); (case hr => first | (go_simp; done) | (go_simp; rfl)); (case hp => exact (Reps.one (show Kd.M (Kd.int .i64) _ _ _ (-1) [.int .i64 (-1)] from rfl) (Reps.one (show Kd.M (Kd.int .i64) _ _ _ 0 [.int .i64 0] from rfl) (Reps.one (show Kd.M (Kd.int .i64) _ _ _ (-2) [.int .i64 (-2)] from rfl) (Reps.none _ _))))); intro v109 w6 ho7 hb hg_ hnew_; clear hg_ hnew_; (first | rw [← Ny108.out] at ho7 | (simp only [Int.reduceToNat] at ho7; rw [← Ny108.out] at ho7)); have n0_ := Aside0.mk (Kd.R_below (by (with_reducible repeat (first | apply Kd.R_alloc | apply Kd.R_drewN | apply Kd.R_drew)); exact HO104.out) hb); have n1_ := Aside0.mk (Kd.R_below (by (with_reducible repeat (first | apply Kd.R_alloc | apply Kd.R_drewN | apply Kd.R_drew)); exact HO107.out) hb); have n2_ := Aside0.mk (Kd.R_lower (Kd.R_newM (M := fun k_ => (w.heap.size ≤ k_)) ho7 (below_size (by repeat (first | (with_reducible first | exact HB.out | apply below_alloc | apply pw_below_drewN | apply below_drew1 | refine below_set ?_ GE101.out) | exact HB.out))) (fun k_ h_ => h_)) (below_size (by repeat (first | (with_reducible first | exact HB.out | apply below_alloc | apply pw_below_drewN | apply below_drew1 | refine below_set ?_ GE101.out) | exact HB.out)))); have n3_ := Aside0.mk (blk_below (g := gb101) (o := .cells #[.slice none 0 0, .slice none 0 0, .int .i64 0, .slice none 0 0] 32 (0, 0)) (by (with_reducible repeat (first | refine blk_drewN ?_ _ | refine blk_drew ?_ | refine blk_alloc ?_ _)); exact BK101.out) hb); have n4_ := Aside0.mk (below_step (by repeat (first | (with_reducible first | exact HB.out | apply below_alloc | apply pw_below_drewN | apply below_drew1 | refine below_set ?_ GE101.out) | exact HB.out)) hb); clear HO104; clear HO107; clear BK101; clear HB; have HO104 := n0_; have HO107 := n1_; have HO110 := n2_; have BK101 := n3_; have HB := n4_; clear n0_ n1_ n2_ n3_ n4_; clear hb ho7; obtain ⟨Ao8, co8, eo8⟩ := Kd.R_slice HO110.out; subst eo8) | ((with_reducible refine gate_dst (N := 5) rfl ?_); refine Kd.R_lit (Kd.int .i64) _ 3 ?hg (N := 5) ?hd (xs := ([(-2)] : List Int)) (inner := [.int .i64 (-2)]) (ok := fun _ => True) (okp := fun _ => True) ?hr ?hp (fun _ hk => hk) trivial (Below.refl _ _) (Nat.le_refl _) (by simp) ?_; (case hd => rfl); (case hg => rfl); (case hr => first | (go_simp; done) | (go_simp; rfl)); (case hp => exact (Reps.one (show Kd.M (Kd.int .i64) _ _ _ (-2) [.int .i64 (-2)] from rfl) (Reps.none _ _))); intro v112 w9 ho10 hb hg_ hnew_; clear hg_ hnew_; (first | rw [← Ny111.out] at ho10 | (simp only [Int.reduceToNat] at ho10; rw [← Ny111.out] at ho10)); have n0_ := Aside0.mk (Kd.R_below (by (with_reducible repeat (first | apply Kd.R_alloc | apply Kd.R_drewN | apply Kd.R_drew)); exact HO104.out) hb); have n1_ := Aside0.mk (Kd.R_below (by (with_reducible repeat (first | apply Kd.R_alloc | apply Kd.R_drewN | apply Kd.R_drew)); exact HO107.out) hb); have n2_ := Aside0.mk (Kd.R_elder' (by (with_reducible repeat (first | apply Kd.R_alloc | apply Kd.R_drewN | apply Kd.R_drew)); exact HO110.out) (Kd.R_base ho10) hb); have n3_ := Aside0.mk (Kd.R_lower (Kd.R_new' (Kd.R_newM (M := fun k_ => (w.heap.size ≤ k_)) ho10 (below_size (by repeat (first | (with_reducible first | exact HB.out | apply below_alloc | apply pw_below_drewN | apply below_drew1 | refine below_set ?_ GE101.out) | exact HB.out))) (fun k_ h_ => h_)) (Kd.R_lt (by (with_reducible repeat (first | apply Kd.R_alloc | apply Kd.R_drewN | apply Kd.R_drew)); exact HO110.out))) (below_size (by repeat (first | (with_reducible first | exact HB.out | apply below_alloc | apply pw_below_drewN | apply below_drew1 | refine below_set ?_ GE101.out) | exact HB.out)))); have n4_ := Aside0.mk (blk_below (g := gb101) (o := .cells #[.slice none 0 0, .slice none 0 0, .int .i64 0, .slice none 0 0] 32 (0, 0)) (by (with_reducible repeat (first | refine blk_drewN ?_ _ | refine blk_drew ?_ | refine blk_alloc ?_ _)); exact BK101.out) hb); have n5_ := Aside0.mk (below_step (by repeat (first | (with_reducible first | exact HB.out | apply below_alloc | apply pw_below_drewN | apply below_drew1 | refine below_set ?_ GE101.out) | exact HB.out)) hb); clear HO104; clear HO107; clear HO110; clear BK101; clear HB; have HO104 := n0_; have HO107 := n1_; have HO110 := n2_; have HO113 := n3_; have BK101 := n4_; have HB := n5_; clear n0_ n1_ n2_ n3_ n4_ n5_; clear hb ho10; obtain ⟨Ao11, co11, eo11⟩ := Kd.R_slice HO113.out; subst eo11) | ((with_reducible refine gate_dst (N := 7) rfl ?_); refine Kd.R_lit (Kd.int .i64) _ 3 ?hg (N := 7) ?hd (xs := ([(-2), 1, (-3)] : List Int)) (inner := [.int .i64 (-2), .int .i64 1, .int .i64 (-3)]) (ok := fun _ => True) (okp := fun _ => True) ?hr ?hp (fun _ hk => hk) trivial (Below.refl _ _) (Nat.le_refl _) (by simp) ?_; (case hd => rfl); (case hg => rfl); (case hr => first | (go_simp; done) | (go_simp; rfl)); (case hp => exact (Reps.one (show Kd.M (Kd.int .i64) _ _ _ (-2) [.int .i64 (-2)] from rfl) (Reps.one (show Kd.M (Kd.int .i64) _ _ _ 1 [.int .i64 1] from rfl) (Reps.one (show Kd.M (Kd.int .i64) _ _ _ (-3) [.int .i64 (-3)] from rfl) (Reps.none _ _))))); intro v115 w12 ho13 hb hg_ hnew_; clear hg_ hnew_; (first | rw [← Ny114.out] at ho13 | (simp only [Int.reduceToNat] at ho13; rw [← Ny114.out] at ho13)); have n0_ := Aside0.mk (Kd.R_below (by (with_reducible repeat (first | apply Kd.R_alloc | apply Kd.R_drewN | apply Kd.R_drew)); exact HO104.out) hb); have n1_ := Aside0.mk (Kd.R_below (by (with_reducible repeat (first | apply Kd.R_alloc | apply Kd.R_drewN | apply Kd.R_drew)); exact HO107.out) hb); have n2_ := Aside0.mk (Kd.R_elder' (by (with_reducible repeat (first | apply Kd.R_alloc | apply Kd.R_drewN | apply Kd.R_drew)); exact HO110.out) (Kd.R_base ho13) hb); have n3_ := Aside0.mk (Kd.R_elder' (by (with_reducible repeat (first | apply Kd.R_alloc | apply Kd.R_drewN | apply Kd.R_drew)); exact HO113.out) (Kd.R_base ho13) hb); have n4_ := Aside0.mk (Kd.R_lower (Kd.R_new' (Kd.R_new' (Kd.R_newM (M := fun k_ => (w.heap.size ≤ k_)) ho13 (below_size (by repeat (first | (with_reducible first | exact HB.out | apply below_alloc | apply pw_below_drewN | apply below_drew1 | refine below_set ?_ GE101.out) | exact HB.out))) (fun k_ h_ => h_)) (Kd.R_lt (by (with_reducible repeat (first | apply Kd.R_alloc | apply Kd.R_drewN | apply Kd.R_drew)); exact HO110.out))) (Kd.R_lt (by (with_reducible repeat (first | apply Kd.R_alloc | apply Kd.R_drewN | apply Kd.R_drew)); exact HO113.out))) (below_size (by repeat (first | (with_reducible first | exact HB.out | apply below_alloc | apply pw_below_drewN | apply below_drew1 | refine below_set ?_ GE101.out) | exact HB.out)))); have n5_ := Aside0.mk (blk_below (g := gb101) (o := .cells #[.slice none 0 0, .slice none 0 0, .int .i64 0, .slice none 0 0] 32 (0, 0)) (by (with_reducible repeat (first | refine blk_drewN ?_ _ | refine blk_drew ?_ | refine blk_alloc ?_ _)); exact BK101.out) hb); have n6_ := Aside0.mk (below_step (by repeat (first | (with_reducible first | exact HB.out | apply below_alloc | apply pw_below_drewN | apply below_drew1 | refine below_set ?_ GE101.out) | exact HB.out)) hb); clear HO104; clear HO107; clear HO110; clear HO113; clear BK101; clear HB; have HO104 := n0_; have HO107 := n1_; have HO110 := n2_; have HO113 := n3_; have HO116 := n4_; have BK101 := n5_; have HB := n6_; clear n0_ n1_ n2_ n3_ n4_ n5_ n6_; clear hb ho13; obtain ⟨Ao14, co14, eo14⟩ := Kd.R_slice HO116.out; subst eo14) | ((with_reducible refine gate_dst (N := 9) rfl ?_); refine Kd.R_lit (Kd.int .i64) _ 3 ?hg (N := 9) ?hd (xs := ([(-3)] : List Int)) (inner := [.int .i64 (-3)]) (ok := fun _ => True) (okp := fun _ => True) ?hr ?hp (fun _ hk => hk) trivial (Below.refl _ _) (Nat.le_refl _) (by simp) ?_; (case hd => rfl); (case hg => rfl); (case hr => first | (go_simp; done) | (go_simp; rfl)); (case hp => exact (Reps.one (show Kd.M (Kd.int .i64) _ _ _ (-3) [.int .i64 (-3)] from rfl) (Reps.none _ _))); intro v118 w15 ho16 hb hg_ hnew_; clear hg_ hnew_; (first | rw [← Ny117.out] at ho16 | (simp only [Int.reduceToNat] at ho16; rw [← Ny117.out] at ho16)); have n0_ := Aside0.mk (Kd.R_below (by (with_reducible repeat (first | apply Kd.R_alloc | apply Kd.R_drewN | apply Kd.R_drew)); exact HO104.out) hb); have n1_ := Aside0.mk (Kd.R_below (by (with_reducible repeat (first | apply Kd.R_alloc | apply Kd.R_drewN | apply Kd.R_drew)); exact HO107.out) hb); have n2_ := Aside0.mk (Kd.R_elder' (by (with_reducible repeat (first | apply Kd.R_alloc | apply Kd.R_drewN | apply Kd.R_drew)); exact HO110.out) (Kd.R_base ho16) hb); have n3_ := Aside0.mk (Kd.R_elder' (by (with_reducible repeat (first | apply Kd.R_alloc | apply Kd.R_drewN | apply Kd.R_drew)); exact HO113.out) (Kd.R_base ho16) hb); have n4_ := Aside0.mk (Kd.R_elder' (by (with_reducible repeat (first | apply Kd.R_alloc | apply Kd.R_drewN | apply Kd.R_drew)); exact HO116.out) (Kd.R_base ho16) hb); have n5_ := Aside0.mk (Kd.R_lower (Kd.R_new' (Kd.R_new' (Kd.R_new' (Kd.R_newM (M := fun k_ => (w.heap.size ≤ k_)) ho16 (below_size (by repeat (first | (with_reducible first | exact HB.out | apply below_alloc | apply pw_below_drewN | apply below_drew1 | refine below_set ?_ GE101.out) | exact HB.out))) (fun k_ h_ => h_)) (Kd.R_lt (by (with_reducible repeat (first | apply Kd.R_alloc | apply Kd.R_drewN | apply Kd.R_drew)); exact HO110.out))) (Kd.R_lt (by (with_reducible repeat (first | apply Kd.R_alloc | apply Kd.R_drewN | apply Kd.R_drew)); exact HO113.out))) (Kd.R_lt (by (with_reducible repeat (first | apply Kd.R_alloc | apply Kd.R_drewN | apply Kd.R_drew)); exact HO116.out))) (below_size (by repeat (first | (with_reducible first | exact HB.out | apply below_alloc | apply pw_below_drewN | apply below_drew1 | refine below_set ?_ GE101.out) | exact HB.out)))); have n6_ := Aside0.mk (blk_below (g := gb101) (o := .cells #[.slice none 0 0, .slice none 0 0, .int .i64 0, .slice none 0 0] 32 (0, 0)) (by (with_reducible repeat (first | refine blk_drewN ?_ _ | refine blk_drew ?_ | refine blk_alloc ?_ _)); exact BK101.out) hb); have n7_ := Aside0.mk (below_step (by repeat (first | (with_reducible first | exact HB.out | apply below_alloc | apply pw_below_drewN | apply below_drew1 | refine below_set ?_ GE101.out) | exact HB.out)) hb); clear HO104; clear HO107; clear HO110; clear HO113; clear HO116; clear BK101; clear HB; have HO104 := n0_; have HO107 := n1_; have HO110 := n2_; have HO113 := n3_; have HO116 := n4_; have HO119 := n5_; have BK101 := n6_; have HB := n7_; clear n0_ n1_ n2_ n3_ n4_ n5_ n6_ n7_; clear hb ho16; obtain ⟨Ao17, co17, eo17⟩ := Kd.R_slice HO119.out; subst eo17) | ((with_reducible refine gate_dst (N := 11) rfl ?_); refine Kd.R_lit (Kd.int .i64) _ 3 ?hg (N := 11) ?hd (xs := ([2, (-1), 3] : List Int)) (inner := [.int .i64 2, .int .i64 (-1), .int .i64 3]) (ok := fun _ => True) (okp := fun _ => True) ?hr ?hp (fun _ hk => hk) trivial (Below.refl _ _) (Nat.le_refl _) (by simp) ?_; (case hd => rfl); (case hg => rfl); (case hr => first | (go_simp; done) | (go_simp; rfl)); (case hp => exact (Reps.one (show Kd.M (Kd.int .i64) _ _ _ 2 [.int .i64 2] from rfl) (Reps.one (show Kd.M (Kd.int .i64) _ _ _ (-1) [.int .i64 (-1)] from rfl) (Reps.one (show Kd.M (Kd.int .i64) _ _ _ 3 [.int .i64 3] from rfl) (Reps.none _ _))))); intro v121 w18 ho19 hb hg_ hnew_; clear hg_ hnew_; (first | rw [← Ny120.out] at ho19 | (simp only [Int.reduceToNat] at ho19; rw [← Ny120.out] at ho19)); have n0_ := Aside0.mk (Kd.R_below (by (with_reducible repeat (first | apply Kd.R_alloc | apply Kd.R_drewN | apply Kd.R_drew)); exact HO104.out) hb); have n1_ := Aside0.mk (Kd.R_below (by (with_reducible repeat (first | apply Kd.R_alloc | apply Kd.R_drewN | apply Kd.R_drew)); exact HO107.out) hb); have n2_ := Aside0.mk (Kd.R_elder' (by (with_reducible repeat (first | apply Kd.R_alloc | apply Kd.R_drewN | apply Kd.R_drew)); exact HO110.out) (Kd.R_base ho19) hb); have n3_ := Aside0.mk (Kd.R_elder' (by (with_reducible repeat (first | apply Kd.R_alloc | apply Kd.R_drewN | apply Kd.R_drew)); exact HO113.out) (Kd.R_base ho19) hb); have n4_ := Aside0.mk (Kd.R_elder' (by (with_reducible repeat (first | apply Kd.R_alloc | apply Kd.R_drewN | apply Kd.R_drew)); exact HO116.out) (Kd.R_base ho19) hb); have n5_ := Aside0.mk (Kd.R_elder' (by (with_reducible repeat (first | apply Kd.R_alloc | apply Kd.R_drewN | apply Kd.R_drew)); exact HO119.out) (Kd.R_base ho19) hb); have n6_ := Aside0.mk (Kd.R_lower (Kd.R_new' (Kd.R_new' (Kd.R_new' (Kd.R_new' (Kd.R_newM (M := fun k_ => (w.heap.size ≤ k_)) ho19 (below_size (by repeat (first | (with_reducible first | exact HB.out | apply below_alloc | apply pw_below_drewN | apply below_drew1 | refine below_set ?_ GE101.out) | exact HB.out))) (fun k_ h_ => h_)) (Kd.R_lt (by (with_reducible repeat (first | apply Kd.R_alloc | apply Kd.R_drewN | apply Kd.R_drew)); exact HO110.out))) (Kd.R_lt (by (with_reducible repeat (first | apply Kd.R_alloc | apply Kd.R_drewN | apply Kd.R_drew)); exact HO113.out))) (Kd.R_lt (by (with_reducible repeat (first | apply Kd.R_alloc | apply Kd.R_drewN | apply Kd.R_drew)); exact HO116.out))) (Kd.R_lt (by (with_reducible repeat (first | apply Kd.R_alloc | apply Kd.R_drewN | apply Kd.R_drew)); exact HO119.out))) (below_size (by repeat (first | (with_reducible first | exact HB.out | apply below_alloc | apply pw_below_drewN | apply below_drew1 | refine below_set ?_ GE101.out) | exact HB.out)))); have n7_ := Aside0.mk (blk_below (g := gb101) (o := .cells #[.slice none 0 0, .slice none 0 0, .int .i64 0, .slice none 0 0] 32 (0, 0)) (by (with_reducible repeat (first | refine blk_drewN ?_ _ | refine blk_drew ?_ | refine blk_alloc ?_ _)); exact BK101.out) hb); have n8_ := Aside0.mk (below_step (by repeat (first | (with_reducible first | exact HB.out | apply below_alloc | apply pw_below_drewN | apply below_drew1 | refine below_set ?_ GE101.out) | exact HB.out)) hb); clear HO104; clear HO107; clear HO110; clear HO113; clear HO116; clear HO119; clear BK101; clear HB; have HO104 := n0_; have HO107 := n1_; have HO110 := n2_; have HO113 := n3_; have HO116 := n4_; have HO119 := n5_; have HO122 := n6_; have BK101 := n7_; have HB := n8_; clear n0_ n1_ n2_ n3_ n4_ n5_ n6_ n7_ n8_; clear hb ho19; obtain ⟨Ao20, co20, eo20⟩ := Kd.R_slice HO122.out; subst eo20) | ((with_reducible refine gate_dst (N := 13) rfl ?_); refine Kd.R_lit (Kd.int .i64) _ 3 ?hg (N := 13) ?hd (xs := ([4] : List Int)) (inner := [.int .i64 4]) (ok := fun _ => True) (okp := fun _ => True) ?hr ?hp (fun _ hk => hk) trivial (Below.refl _ _) (Nat.le_refl _) (by simp) ?_; (case hd => rfl); (case hg => rfl); (case hr => first | (go_simp; done) | (go_simp; rfl)); (case hp => exact (Reps.one (show Kd.M (Kd.int .i64) _ _ _ 4 [.int .i64 4] from rfl) (Reps.none _ _))); intro v124 w21 ho22 hb hg_ hnew_; clear hg_ hnew_; (first | rw [← Ny123.out] at ho22 | (simp only [Int.reduceToNat] at ho22; rw [← Ny123.out] at ho22)); have n0_ := Aside0.mk (Kd.R_below (by (with_reducible repeat (first | apply Kd.R_alloc | apply Kd.R_drewN | apply Kd.R_drew)); exact HO104.out) hb); have n1_ := Aside0.mk (Kd.R_below (by (with_reducible repeat (first | apply Kd.R_alloc | apply Kd.R_drewN | apply Kd.R_drew)); exact HO107.out) hb); have n2_ := Aside0.mk (Kd.R_elder' (by (with_reducible repeat (first | apply Kd.R_alloc | apply Kd.R_drewN | apply Kd.R_drew)); exact HO110.out) (Kd.R_base ho22) hb); have n3_ := Aside0.mk (Kd.R_elder' (by (with_reducible repeat (first | apply Kd.R_alloc | apply Kd.R_drewN | apply Kd.R_drew)); exact HO113.out) (Kd.R_base ho22) hb); have n4_ := Aside0.mk (Kd.R_elder' (by (with_reducible repeat (first | apply Kd.R_alloc | apply Kd.R_drewN | apply Kd.R_drew)); exact HO116.out) (Kd.R_base ho22) hb); have n5_ := Aside0.mk (Kd.R_elder' (by (with_reducible repeat (first | apply Kd.R_alloc | apply Kd.R_drewN | apply Kd.R_drew)); exact HO119.out) (Kd.R_base ho22) hb); have n6_ := Aside0.mk (Kd.R_elder' (by (with_reducible repeat (first | apply Kd.R_alloc | apply Kd.R_drewN | apply Kd.R_drew)); exact HO122.out) (Kd.R_base ho22) hb); have n7_ := Aside0.mk (Kd.R_lower (Kd.R_new' (Kd.R_new' (Kd.R_new' (Kd.R_new' (Kd.R_new' (Kd.R_newM (M := fun k_ => (w.heap.size ≤ k_)) ho22 (below_size (by repeat (first | (with_reducible first | exact HB.out | apply below_alloc | apply pw_below_drewN | apply below_drew1 | refine below_set ?_ GE101.out) | exact HB.out))) (fun k_ h_ => h_)) (Kd.R_lt (by (with_reducible repeat (first | apply Kd.R_alloc | apply Kd.R_drewN | apply Kd.R_drew)); exact HO110.out))) (Kd.R_lt (by (with_reducible repeat (first | apply Kd.R_alloc | apply Kd.R_drewN | apply Kd.R_drew)); exact HO113.out))) (Kd.R_lt (by (with_reducible repeat (first | apply Kd.R_alloc | apply Kd.R_drewN | apply Kd.R_drew)); exact HO116.out))) (Kd.R_lt (by (with_reducible repeat (first | apply Kd.R_alloc | apply Kd.R_drewN | apply Kd.R_drew)); exact HO119.out))) (Kd.R_lt (by (with_reducible repeat (first | apply Kd.R_alloc | apply Kd.R_drewN | apply Kd.R_drew)); exact HO122.out))) (below_size (by repeat (first | (with_reducible first | exact HB.out | apply below_alloc | apply pw_below_drewN | apply below_drew1 | refine below_set ?_ GE101.out) | exact HB.out)))); have n8_ := Aside0.mk (blk_below (g := gb101) (o := .cells #[.slice none 0 0, .slice none 0 0, .int .i64 0, .slice none 0 0] 32 (0, 0)) (by (with_reducible repeat (first | refine blk_drewN ?_ _ | refine blk_drew ?_ | refine blk_alloc ?_ _)); exact BK101.out) hb); have n9_ := Aside0.mk (below_step (by repeat (first | (with_reducible first | exact HB.out | apply below_alloc | apply pw_below_drewN | apply below_drew1 | refine below_set ?_ GE101.out) | exact HB.out)) hb); clear HO104; clear HO107; clear HO110; clear HO113; clear HO116; clear HO119; clear HO122; clear BK101; clear HB; have HO104 := n0_; have HO107 := n1_; have HO110 := n2_; have HO113 := n3_; have HO116 := n4_; have HO119 := n5_; have HO122 := n6_; have HO125 := n7_; have BK101 := n8_; have HB := n9_; clear n0_ n1_ n2_ n3_ n4_ n5_ n6_ n7_ n8_ n9_; clear hb ho22; obtain ⟨Ao23, co23, eo23⟩ := Kd.R_slice HO125.out; subst eo23) | ((with_reducible refine gate_dst (N := 15) rfl ?_); refine Kd.N_lit k41 _ 41 ?hg (N' := 15) ?hd (xs := ([(⟨0, y108⟩ : S41), (⟨0, y111⟩ : S41), (⟨1, y114⟩ : S41), (⟨1, y117⟩ : S41), (⟨2, y120⟩ : S41), (⟨2, y123⟩ : S41)] : List (S41))) (inner := [.int .i64 0, .slice Ao8 y108.length co8, .int .i64 0, .slice Ao11 y111.length co11, .int .i64 1, .slice Ao14 y114.length co14, .int .i64 1, .slice Ao17 y117.length co17, .int .i64 2, .slice Ao20 y120.length co20, .int .i64 2, .slice Ao23 y123.length co23]) (ok := (fun k_ => (w.heap.size ≤ k_) ∧ some k_ ≠ (v103 : Value).ownBlock ∧ some k_ ≠ (v106 : Value).ownBlock ∧ k_ ≠ gb101)) (okp := (fun k_ => (w.heap.size ≤ k_) ∧ some k_ ≠ (v103 : Value).ownBlock ∧ some k_ ≠ (v106 : Value).ownBlock ∧ k_ ≠ gb101)) ?hr ?hp (fun _ hk => hk) ((show ∀ k_, w21.heap.size ≤ k_ → (fun k_ => (w.heap.size ≤ k_) ∧ some k_ ≠ (v103 : Value).ownBlock ∧ some k_ ≠ (v106 : Value).ownBlock ∧ k_ ≠ gb101) k_ from fun k_ hk => ⟨(Nat.le_trans (below_size (by repeat (first | (with_reducible first | exact HB.out | apply below_alloc | apply pw_below_drewN | apply below_drew1 | refine below_set ?_ GE101.out) | exact HB.out))) hk), Kd.fresh' (Kd.R_lt (by (with_reducible repeat (first | apply Kd.R_alloc | apply Kd.R_drewN | apply Kd.R_drew)); exact HO104.out)) k_ hk, Kd.fresh' (Kd.R_lt (by (with_reducible repeat (first | apply Kd.R_alloc | apply Kd.R_drewN | apply Kd.R_drew)); exact HO107.out)) k_ hk, Kd.freshB (g := gb101) (o := .cells #[.slice none 0 0, .slice none 0 0, .int .i64 0, .slice none 0 0] 32 (0, 0)) (by (with_reducible repeat (first | refine blk_drewN ?_ _ | refine blk_drew ?_ | refine blk_alloc ?_ _)); exact BK101.out) k_ hk⟩) _ (Nat.le_refl _)) (Below.refl _ _) (Nat.le_refl _) (by simp) ?_; (case hd => rfl); (case hg => rfl); (case hr => first | (go_simp; done) | (go_simp; rfl)); (case hp => exact (Reps.c2 (show Kd.FK k41 _ _ (⟨0, y108⟩ : S41) [.int .i64 0, .slice Ao8 y108.length co8] from (k41_mkF _ _ (⟨0, y108⟩ : S41) (Kd.R_reads' (Kd.R_mono (ok' := (fun k_ => (w.heap.size ≤ k_) ∧ some k_ ≠ (v103 : Value).ownBlock ∧ some k_ ≠ (v106 : Value).ownBlock ∧ k_ ≠ gb101)) (Kd.R_types (Kd.R_apart' (Kd.R_apart' (HO110.out) (Kd.R_typed HO104.out) (by decide)) (Kd.R_typed HO107.out) (by decide)) BK101.out (by decide)) (fun k_ hk => ⟨hk.1.1.1.1.1.1.1.1.1, ⟨hk.1.1.2, ⟨hk.1.2, hk.2⟩⟩⟩))).2.1 (Kd.R_F (Kd.R_mono (ok' := (fun k_ => (w.heap.size ≤ k_) ∧ some k_ ≠ (v103 : Value).ownBlock ∧ some k_ ≠ (v106 : Value).ownBlock ∧ k_ ≠ gb101)) (Kd.R_types (Kd.R_apart' (Kd.R_apart' (HO110.out) (Kd.R_typed HO104.out) (by decide)) (Kd.R_typed HO107.out) (by decide)) BK101.out (by decide)) (fun k_ hk => ⟨hk.1.1.1.1.1.1.1.1.1, ⟨hk.1.1.2, ⟨hk.1.2, hk.2⟩⟩⟩))))) (Reps.c2 (show Kd.FK k41 _ _ (⟨0, y111⟩ : S41) [.int .i64 0, .slice Ao11 y111.length co11] from (k41_mkF _ _ (⟨0, y111⟩ : S41) (Kd.R_reads' (Kd.R_mono (ok' := (fun k_ => (w.heap.size ≤ k_) ∧ some k_ ≠ (v103 : Value).ownBlock ∧ some k_ ≠ (v106 : Value).ownBlock ∧ k_ ≠ gb101)) (Kd.R_types (Kd.R_apart' (Kd.R_apart' (HO113.out) (Kd.R_typed HO104.out) (by decide)) (Kd.R_typed HO107.out) (by decide)) BK101.out (by decide)) (fun k_ hk => ⟨hk.1.1.1.1.1.1.1.1.1, ⟨hk.1.1.2, ⟨hk.1.2, hk.2⟩⟩⟩))).2.1 (Kd.R_F (Kd.R_mono (ok' := (fun k_ => (w.heap.size ≤ k_) ∧ some k_ ≠ (v103 : Value).ownBlock ∧ some k_ ≠ (v106 : Value).ownBlock ∧ k_ ≠ gb101)) (Kd.R_types (Kd.R_apart' (Kd.R_apart' (HO113.out) (Kd.R_typed HO104.out) (by decide)) (Kd.R_typed HO107.out) (by decide)) BK101.out (by decide)) (fun k_ hk => ⟨hk.1.1.1.1.1.1.1.1.1, ⟨hk.1.1.2, ⟨hk.1.2, hk.2⟩⟩⟩))))) (Reps.c2 (show Kd.FK k41 _ _ (⟨1, y114⟩ : S41) [.int .i64 1, .slice Ao14 y114.length co14] from (k41_mkF _ _ (⟨1, y114⟩ : S41) (Kd.R_reads' (Kd.R_mono (ok' := (fun k_ => (w.heap.size ≤ k_) ∧ some k_ ≠ (v103 : Value).ownBlock ∧ some k_ ≠ (v106 : Value).ownBlock ∧ k_ ≠ gb101)) (Kd.R_types (Kd.R_apart' (Kd.R_apart' (HO116.out) (Kd.R_typed HO104.out) (by decide)) (Kd.R_typed HO107.out) (by decide)) BK101.out (by decide)) (fun k_ hk => ⟨hk.1.1.1.1.1.1.1.1.1, ⟨hk.1.1.2, ⟨hk.1.2, hk.2⟩⟩⟩))).2.1 (Kd.R_F (Kd.R_mono (ok' := (fun k_ => (w.heap.size ≤ k_) ∧ some k_ ≠ (v103 : Value).ownBlock ∧ some k_ ≠ (v106 : Value).ownBlock ∧ k_ ≠ gb101)) (Kd.R_types (Kd.R_apart' (Kd.R_apart' (HO116.out) (Kd.R_typed HO104.out) (by decide)) (Kd.R_typed HO107.out) (by decide)) BK101.out (by decide)) (fun k_ hk => ⟨hk.1.1.1.1.1.1.1.1.1, ⟨hk.1.1.2, ⟨hk.1.2, hk.2⟩⟩⟩))))) (Reps.c2 (show Kd.FK k41 _ _ (⟨1, y117⟩ : S41) [.int .i64 1, .slice Ao17 y117.length co17] from (k41_mkF _ _ (⟨1, y117⟩ : S41) (Kd.R_reads' (Kd.R_mono (ok' := (fun k_ => (w.heap.size ≤ k_) ∧ some k_ ≠ (v103 : Value).ownBlock ∧ some k_ ≠ (v106 : Value).ownBlock ∧ k_ ≠ gb101)) (Kd.R_types (Kd.R_apart' (Kd.R_apart' (HO119.out) (Kd.R_typed HO104.out) (by decide)) (Kd.R_typed HO107.out) (by decide)) BK101.out (by decide)) (fun k_ hk => ⟨hk.1.1.1.1.1.1.1.1.1, ⟨hk.1.1.2, ⟨hk.1.2, hk.2⟩⟩⟩))).2.1 (Kd.R_F (Kd.R_mono (ok' := (fun k_ => (w.heap.size ≤ k_) ∧ some k_ ≠ (v103 : Value).ownBlock ∧ some k_ ≠ (v106 : Value).ownBlock ∧ k_ ≠ gb101)) (Kd.R_types (Kd.R_apart' (Kd.R_apart' (HO119.out) (Kd.R_typed HO104.out) (by decide)) (Kd.R_typed HO107.out) (by decide)) BK101.out (by decide)) (fun k_ hk => ⟨hk.1.1.1.1.1.1.1.1.1, ⟨hk.1.1.2, ⟨hk.1.2, hk.2⟩⟩⟩))))) (Reps.c2 (show Kd.FK k41 _ _ (⟨2, y120⟩ : S41) [.int .i64 2, .slice Ao20 y120.length co20] from (k41_mkF _ _ (⟨2, y120⟩ : S41) (Kd.R_reads' (Kd.R_mono (ok' := (fun k_ => (w.heap.size ≤ k_) ∧ some k_ ≠ (v103 : Value).ownBlock ∧ some k_ ≠ (v106 : Value).ownBlock ∧ k_ ≠ gb101)) (Kd.R_types (Kd.R_apart' (Kd.R_apart' (HO122.out) (Kd.R_typed HO104.out) (by decide)) (Kd.R_typed HO107.out) (by decide)) BK101.out (by decide)) (fun k_ hk => ⟨hk.1.1.1.1.1.1.1.1.1, ⟨hk.1.1.2, ⟨hk.1.2, hk.2⟩⟩⟩))).2.1 (Kd.R_F (Kd.R_mono (ok' := (fun k_ => (w.heap.size ≤ k_) ∧ some k_ ≠ (v103 : Value).ownBlock ∧ some k_ ≠ (v106 : Value).ownBlock ∧ k_ ≠ gb101)) (Kd.R_types (Kd.R_apart' (Kd.R_apart' (HO122.out) (Kd.R_typed HO104.out) (by decide)) (Kd.R_typed HO107.out) (by decide)) BK101.out (by decide)) (fun k_ hk => ⟨hk.1.1.1.1.1.1.1.1.1, ⟨hk.1.1.2, ⟨hk.1.2, hk.2⟩⟩⟩))))) (Reps.c2 (show Kd.FK k41 _ _ (⟨2, y123⟩ : S41) [.int .i64 2, .slice Ao23 y123.length co23] from (k41_mkF _ _ (⟨2, y123⟩ : S41) (Kd.R_reads' (Kd.R_mono (ok' := (fun k_ => (w.heap.size ≤ k_) ∧ some k_ ≠ (v103 : Value).ownBlock ∧ some k_ ≠ (v106 : Value).ownBlock ∧ k_ ≠ gb101)) (Kd.R_types (Kd.R_apart' (Kd.R_apart' (HO125.out) (Kd.R_typed HO104.out) (by decide)) (Kd.R_typed HO107.out) (by decide)) BK101.out (by decide)) (fun k_ hk => ⟨hk.1.1.1.1.1.1.1.1.1, ⟨hk.1.1.2, ⟨hk.1.2, hk.2⟩⟩⟩))).2.1 (Kd.R_F (Kd.R_mono (ok' := (fun k_ => (w.heap.size ≤ k_) ∧ some k_ ≠ (v103 : Value).ownBlock ∧ some k_ ≠ (v106 : Value).ownBlock ∧ k_ ≠ gb101)) (Kd.R_types (Kd.R_apart' (Kd.R_apart' (HO125.out) (Kd.R_typed HO104.out) (by decide)) (Kd.R_typed HO107.out) (by decide)) BK101.out (by decide)) (fun k_ hk => ⟨hk.1.1.1.1.1.1.1.1.1, ⟨hk.1.1.2, ⟨hk.1.2, hk.2⟩⟩⟩))))) (Reps.none _ _)))))))); intro v127 w24 ho25 hb hg_ hnew_; clear hg_ hnew_; (first | rw [← Ny126.out] at ho25 | (simp only [Int.reduceToNat] at ho25; rw [← Ny126.out] at ho25)); have n0_ := Aside0.mk (Kd.R_below (by (with_reducible repeat (first | apply Kd.R_alloc | apply Kd.R_drewN | apply Kd.R_drew)); exact HO104.out) hb); have n1_ := Aside0.mk (Kd.R_below (by (with_reducible repeat (first | apply Kd.R_alloc | apply Kd.R_drewN | apply Kd.R_drew)); exact HO107.out) hb); have n2_ := Aside0.mk (Kd.N_lower ho25 (below_size (by repeat (first | (with_reducible first | exact HB.out | apply below_alloc | apply pw_below_drewN | apply below_drew1 | refine below_set ?_ GE101.out) | exact HB.out)))); have n3_ := Aside0.mk (blk_below (g := gb101) (o := .cells #[.slice none 0 0, .slice none 0 0, .int .i64 0, .slice none 0 0] 32 (0, 0)) (by (with_reducible repeat (first | refine blk_drewN ?_ _ | refine blk_drew ?_ | refine blk_alloc ?_ _)); exact BK101.out) hb); have n4_ := Aside0.mk (below_step (by repeat (first | (with_reducible first | exact HB.out | apply below_alloc | apply pw_below_drewN | apply below_drew1 | refine below_set ?_ GE101.out) | exact HB.out)) hb); clear HO104; clear HO107; clear BK101; clear HB; clear HO110; clear HO113; clear HO116; clear HO119; clear HO122; clear HO125; have HO104 := n0_; have HO107 := n1_; have HO128 := n2_; have BK101 := n3_; have HB := n4_; clear n0_ n1_ n2_ n3_ n4_; clear hb ho25; obtain ⟨Ao26, co26, eo26⟩ := Kd.N_slice HO128.out; subst eo26; obtain ⟨Ao27, co27, eo27⟩ := Kd.R_slice HO107.out; subst eo27; obtain ⟨Ao28, co28, eo28⟩ := Kd.R_slice HO104.out; subst eo28; have hcz29_0 : w24.cell? ⟨gb101, 0, none⟩ = some (.slice none 0 0) := (blk_cell BK101.out 0).trans rfl; have hcz29_1 : w24.cell? ⟨gb101, 1, none⟩ = some (.slice none 0 0) := (blk_cell BK101.out 1).trans rfl; have hcz29_2 : w24.cell? ⟨gb101, 2, none⟩ = some (.int .i64 0) := (blk_cell BK101.out 2).trans rfl; have hcz29_3 : w24.cell? ⟨gb101, 3, none⟩ = some (.slice none 0 0) := (blk_cell BK101.out 3).trans rfl; have hfz29_0 := blk_frozen BK101.out 0; have hfz29_1 := blk_frozen BK101.out 1; have hfz29_2 := blk_frozen BK101.out 2; have hfz29_3 := blk_frozen BK101.out 3))
 refine bodyPost_ret (results_cell_row rfl _ _ gb101 32 #[.slice Ao28 y102.length co28, .slice Ao27 y105.length co27, .int .i64 0, .slice Ao26 y126.length co26] (0, 0) _ rfl (by (with_reducible repeat (first | refine blk_drewN ?_ _ | refine blk_drew ?_ | refine blk_alloc ?_ _)); refine blk_put (cs := #[.slice Ao28 y102.length co28, .slice Ao27 y105.length co27, .int .i64 0, .slice none 0 0]) ?_ 3 _ rfl; (with_reducible repeat (first | refine blk_drewN ?_ _ | refine blk_drew ?_ | refine blk_alloc ?_ _)); refine blk_put (cs := #[.slice Ao28 y102.length co28, .slice Ao27 y105.length co27, .int .i64 0, .slice none 0 0]) ?_ 2 _ rfl; (with_reducible repeat (first | refine blk_drewN ?_ _ | refine blk_drew ?_ | refine blk_alloc ?_ _)); refine blk_put (cs := #[.slice Ao28 y102.length co28, .slice none 0 0, .int .i64 0, .slice none 0 0]) ?_ 1 _ rfl; (with_reducible repeat (first | refine blk_drewN ?_ _ | refine blk_drew ?_ | refine blk_alloc ?_ _)); refine blk_put (cs := #[.slice none 0 0, .slice none 0 0, .int .i64 0, .slice none 0 0]) ?_ 0 _ rfl; (with_reducible repeat (first | refine blk_drewN ?_ _ | refine blk_drew ?_ | refine blk_alloc ?_ _)); exact BK101.out) Tryd.underlying32 rfl (by kernel_rfl)) rfl ?_
 exact ⟨_, _, _, by first | rfl | (simp [errW_none, errW_some] <;> rfl) | (simp [*, errW_none, errW_some] <;> rfl), by (with_reducible repeat (first | apply Kd.R_alloc | apply Kd.R_drewN | apply Kd.R_drew)); exact Kd.R_mono (Kd.R_far (p := ⟨gb101, 3, none⟩) (Kd.R_far (p := ⟨gb101, 2, none⟩) (Kd.R_far (p := ⟨gb101, 1, none⟩) (Kd.R_far (p := ⟨gb101, 0, none⟩) (Kd.R_types HO104.out BK101.out (by decide)) (fun _ hk => hk.2) (.slice Ao28 y102.length co28)) (fun _ hk => hk.2) (.slice Ao27 y105.length co27)) (fun _ hk => hk.2) (.int .i64 0)) (fun _ hk => hk.2) (.slice Ao26 y126.length co26)) (fun _ hk => ⟨hk.1.1.1, hk.1.2⟩), by (with_reducible repeat (first | apply Kd.R_alloc | apply Kd.R_drewN | apply Kd.R_drew)); exact Kd.R_mono (Kd.R_far (p := ⟨gb101, 3, none⟩) (Kd.R_far (p := ⟨gb101, 2, none⟩) (Kd.R_far (p := ⟨gb101, 1, none⟩) (Kd.R_far (p := ⟨gb101, 0, none⟩) (Kd.R_types HO107.out BK101.out (by decide)) (fun _ hk => hk.2) (.slice Ao28 y102.length co28)) (fun _ hk => hk.2) (.slice Ao27 y105.length co27)) (fun _ hk => hk.2) (.int .i64 0)) (fun _ hk => hk.2) (.slice Ao26 y126.length co26)) (fun _ hk => ⟨hk.1.1.1, hk.1.2⟩), by (with_reducible repeat (first | apply Kd.N_alloc | apply Kd.N_drewN | apply Kd.N_drew)); exact Kd.N_mono (Kd.N_far (p := ⟨gb101, 3, none⟩) (Kd.N_far (p := ⟨gb101, 2, none⟩) (Kd.N_far (p := ⟨gb101, 1, none⟩) (Kd.N_far (p := ⟨gb101, 0, none⟩) (Kd.N_mono HO128.out (fun k_ hk => (⟨hk, hk.2.2.2⟩ : _ ∧ k_ ≠ gb101))) (fun _ hk => hk.2) (.slice Ao28 y102.length co28)) (fun _ hk => hk.2) (.slice Ao27 y105.length co27)) (fun _ hk => hk.2) (.int .i64 0)) (fun _ hk => hk.2) (.slice Ao26 y126.length co26)) (fun _ hk => ⟨hk.1.1, ⟨hk.1.2.1, hk.1.2.2.1⟩⟩), by repeat (first | (with_reducible first | exact HB.out | apply below_alloc | apply pw_below_drewN | apply below_drew1 | refine below_set ?_ GE101.out) | exact HB.out)⟩

def slices_Index_string_string.l0 : Nat → List ByteArray → ByteArray → Int → Int → Option (Int)
 | 0, _, _, _, _ => none
 | k + 1, x0, x1, x7, x8 => if x8 < x7 then (if 0 ≤ x8 then (if x8 < (x0.length : Int) then (if x1.toList = (rdOf ByteArray.empty x0 x8).toList then (some x8) else (slices_Index_string_string.l0 k x0 x1 x7 (wrap64 (x8 + 1)))) else (none)) else (none)) else (some (-1))
def slices_Index_string_string.f (k : Nat) (l0 : List ByteArray) (a1 : ByteArray) : Option (Int) := slices_Index_string_string.l0 k l0 a1 (l0.length : Int) 0
theorem slices_Index_string_string.mono_l : ∀ k, (∀ y0 y1 y2 y3, LeO (slices_Index_string_string.l0 k y0 y1 y2 y3) (slices_Index_string_string.l0 (k + 1) y0 y1 y2 y3))
 | 0 => fun _ _ _ _ r h => by simp [slices_Index_string_string.l0] at h
 | k + 1 => by
  have ih0 := slices_Index_string_string.mono_l k
  · intro y0 y1 y2 y3
    unfold slices_Index_string_string.l0
    repeat' first
    | (with_reducible exact ih0 _ _ _ _)
    | (with_reducible exact LeO.refl _)
    | (with_reducible exact LeO.none _)
    | (with_reducible refine LeO.ite ?_ ?_)
    | (with_reducible refine LeO.bind ?_ (fun _ => ?_))
    | exact ih0 _ _ _ _
    | exact LeO.none _
    | refine LeO.ite ?_ ?_
    | refine LeO.bind ?_ (fun _ => ?_)
theorem slices_Index_string_string.mono : ∀ a0 a1 k, LeO (slices_Index_string_string.f k a0 a1) (slices_Index_string_string.f (k + 1) a0 a1) := by
 intro a0 a1 k
 have ih0 := slices_Index_string_string.mono_l k
 unfold slices_Index_string_string.f
 repeat' first
  | (with_reducible exact ih0 _ _ _ _)
  | (with_reducible exact LeO.refl _)
  | (with_reducible exact LeO.none _)
  | (with_reducible refine LeO.ite ?_ ?_)
  | (with_reducible refine LeO.bind ?_ (fun _ => ?_))
  | exact ih0 _ _ _ _
  | exact LeO.none _
  | refine LeO.ite ?_ ?_
  | refine LeO.bind ?_ (fun _ => ?_)
set_option maxHeartbeats 8000000 in
set_option maxRecDepth 100000 in
theorem slices_Index_string_string.calls (k : Nat) (A0 : Option Addr) (c0 : Nat) (l0 : List ByteArray) (a1 : ByteArray) (r : Int) (w : World) (hr0 : Kd.C Kd.string w A0 l0.length l0) (hc0 : l0.length ≤ c0) (h : slices_Index_string_string.f k l0 a1 = some r) :
 Calls Tryd.prog 111 #[.slice A0 l0.length c0, .string a1] w fun e w' => e = .returned (.int .i64 r) ∧ Drawn0 w w' := by
 have HR0 := Aside0.mk hr0
 have HC0 := Aside0.mk hc0
 clear hr0 hc0
 have H : (slices_Index_string_string.l0 k l0 a1 (l0.length : Int) 0) = some r := h
 clear h
 have H' := Aside0.mk H
 clear H
 go_enter Tryd.func111, Tryd.ntmps111
 go_wp2
 go_loopg [8] k (fun kq v8 w' => ∃ (x8_1 : Int), v8 = .int .i64 x8_1 ∧ Aside0 (slices_Index_string_string.l0 kq l0 a1 (l0.length : Int) x8_1 = some r) ∧ Aside0 (kq ≤ k) ∧ Drawn0 w w')
 case atStart => exact ⟨(0), (by first | rfl | (simp; done) | (simp [*]; done)), H', ⟨Nat.le_refl _⟩, by repeat (first | exact Drawn0.refl _ | apply Drawn0.step)⟩
 case round =>
  clear H'
  try clear c1
  try clear p2
  obtain ⟨x8_1, rfl, HA, HK1, ⟨m1, rfl⟩⟩ := hrel
  cases gk with
  | zero => exact absurd HA.out (by simp [slices_Index_string_string.l0])
  | succ k1 =>
   have H := HA.out
   clear HA
   simp only [slices_Index_string_string.l0] at H
   by_cases c3 : x8_1 < (l0.length : Int)
   · rw [if_pos c3] at H
     have c3b0 : decide (x8_1 < (l0.length : Int)) = true := decide_eq_true c3
     clear c3
     by_cases c4 : 0 ≤ x8_1
     · rw [if_pos c4] at H
       have c4b0 : decide (0 ≤ x8_1) = true := decide_eq_true c4
       clear c4
       by_cases c5 : x8_1 < (l0.length : Int)
       · rw [if_pos c5] at H
         have c5b0 : decide (x8_1 < (l0.length : Int)) = true := decide_eq_true c5
         clear c5
         by_cases c6 : a1.toList = (rdOf ByteArray.empty l0 x8_1).toList
         · rw [if_pos c6] at H
           have c6b0 : (a1.toList == (rdOf ByteArray.empty l0 x8_1).toList) = true := beq_iff_eq.mpr c6
           have c6b1 : (a1.toList != (rdOf ByteArray.empty l0 x8_1).toList) = false := bne_eq_false_iff_eq.mpr c6
           clear c6
           obtain rfl := Option.some.inj H
           have p129 : 0 ≤ (x8_1 : Int) := of_decide_eq_true (by first | (with_reducible assumption) | assumption)
           have q129 : x8_1 < (l0.length : Int) := of_decide_eq_true (by first | (with_reducible assumption) | assumption)
           obtain ⟨ad129, e129, hx129_0⟩ := Kd.at_string HR0.out x8_1 p129 q129
           cases e129
           replace p129 := eq_true p129
           replace q129 := eq_true q129
           go_wp2
           go_ret
           exact ⟨by first | rfl | (simp; done) | (simp [*]; done), by repeat (first | exact Drawn0.refl _ | apply Drawn0.step)⟩
         · rw [if_neg c6] at H
           have c6b0 : (a1.toList == (rdOf ByteArray.empty l0 x8_1).toList) = false := beq_eq_false_iff_ne.mpr c6
           have c6b1 : (a1.toList != (rdOf ByteArray.empty l0 x8_1).toList) = true := bne_iff_ne.mpr c6
           have H' := Aside0.mk H
           clear H
           have p129 : 0 ≤ (x8_1 : Int) := of_decide_eq_true (by first | (with_reducible assumption) | assumption)
           have q129 : x8_1 < (l0.length : Int) := of_decide_eq_true (by first | (with_reducible assumption) | assumption)
           obtain ⟨ad129, e129, hx129_0⟩ := Kd.at_string HR0.out x8_1 p129 q129
           cases e129
           replace p129 := eq_true p129
           replace q129 := eq_true q129
           go_wp2
           go_roundg k1
           case measure => have := HK1.out; omega
           case rel => exact ⟨(wrap64 (x8_1 + 1)), (by first | rfl | (simp; done) | (simp [*]; done)), H', ⟨by have := HK1.out; omega⟩, by repeat (first | exact Drawn0.refl _ | apply Drawn0.step)⟩
       · rw [if_neg c5] at H
         exact absurd H (by simp)
     · rw [if_neg c4] at H
       exact absurd H (by simp)
   · rw [if_neg c3] at H
     have c3b0 : decide (x8_1 < (l0.length : Int)) = false := decide_eq_false c3
     clear c3
     obtain rfl := Option.some.inj H
     go_wp2
     go_ret
     exact ⟨by first | rfl | (simp; done) | (simp [*]; done), by repeat (first | exact Drawn0.refl _ | apply Drawn0.step)⟩

def slices_Contains_string_string.f (k : Nat) (l0 : List ByteArray) (a1 : ByteArray) : Option (Bool) := (slices_Index_string_string.f k l0 a1).bind fun t130 => (some (decide (t130 ≥ 0)))
theorem slices_Contains_string_string.mono : ∀ a0 a1 k, LeO (slices_Contains_string_string.f k a0 a1) (slices_Contains_string_string.f (k + 1) a0 a1) := by
 intro a0 a1 k
 unfold slices_Contains_string_string.f
 repeat' first
  | (with_reducible exact slices_Index_string_string.mono _ _ _)
  | (with_reducible exact LeO.refl _)
  | (with_reducible exact LeO.none _)
  | (with_reducible refine LeO.ite ?_ ?_)
  | (with_reducible refine LeO.bind ?_ (fun _ => ?_))
  | exact slices_Index_string_string.mono _ _ _
  | exact LeO.none _
  | refine LeO.ite ?_ ?_
  | refine LeO.bind ?_ (fun _ => ?_)
set_option maxHeartbeats 8000000 in
set_option maxRecDepth 100000 in
theorem slices_Contains_string_string.calls (k : Nat) (A0 : Option Addr) (c0 : Nat) (l0 : List ByteArray) (a1 : ByteArray) (r : Bool) (w : World) (hr0 : Kd.C Kd.string w A0 l0.length l0) (hc0 : l0.length ≤ c0) (h : slices_Contains_string_string.f k l0 a1 = some r) :
 Calls Tryd.prog 109 #[.slice A0 l0.length c0, .string a1] w fun e w' => e = .returned (.bool r) ∧ Drawn0 w w' := by
 have HR0 := Aside0.mk hr0
 have HC0 := Aside0.mk hc0
 clear hr0 hc0
 have H : ((slices_Index_string_string.f k l0 a1).bind fun t130 => (some (decide (t130 ≥ 0)))) = some r := h
 clear h
 replace H := Option.bind_eq_some_iff.mp H
 obtain ⟨t130, A30, H⟩ := H
 replace H : (some (decide (t130 ≥ 0))) = some r := H
 have A3 := Aside0.mk A30
 clear A30
 obtain rfl := Option.some.inj H
 go_enter Tryd.func109, Tryd.ntmps109
 go_wp2_with (first | ((with_reducible refine gate_callee (f := 111) rfl ?_); refine goesL_ (some 7) rfl rfl Tryd.func111 (by kernel_rfl) rfl #[.slice A0 l0.length c0, .string a1] rfl (by (try simp only [List.map_toArray, List.map_cons, List.map_nil]); first | done | rfl | (simp only [List.length_drop, List.length_take]; rfl)) ?_; (with_reducible refine (slices_Index_string_string.calls k _ _ l0 a1 t130 _ ?side1 ?side2 A3.out).mono ?_); (case side1 => repeat (first | exact HR0.out | (with_reducible refine Kd.C_alloc ?_ _) | (with_reducible refine Kd.C_drewN ?_ _) | (with_reducible refine Kd.C_drew ?_))); (case side2 => exact HC0.out); rintro e w' ⟨rfl, ⟨nd, rfl⟩⟩; refine ⟨_, rfl, ?_⟩))
 go_ret
 exact ⟨by first | rfl | (simp; done) | (simp [*]; done), by repeat (first | exact Drawn0.refl _ | apply Drawn0.step)⟩

def gram_nameFault.f (k : Nat) (l0 : List ByteArray) (a1 : Int) : Option (Bool) := if 0 ≤ a1 then (if a1 < (l0.length : Int) then (if ((rdOf ByteArray.empty l0 a1).size : Int) = 0 then (some true) else (if ((rdOf ByteArray.empty l0 a1).size : Int) > 32 then (some true) else (if a1 ≤ (l0.length : Int) then ((slices_Contains_string_string.f k (l0.take (a1 : Int).toNat) (rdOf ByteArray.empty l0 a1)).bind fun t136 => (if t136 = true then (some true) else (some false))) else (none)))) else (none)) else (none)
theorem gram_nameFault.mono : ∀ a0 a1 k, LeO (gram_nameFault.f k a0 a1) (gram_nameFault.f (k + 1) a0 a1) := by
 intro a0 a1 k
 unfold gram_nameFault.f
 repeat' first
  | (with_reducible exact slices_Contains_string_string.mono _ _ _)
  | (with_reducible exact LeO.refl _)
  | (with_reducible exact LeO.none _)
  | (with_reducible refine LeO.ite ?_ ?_)
  | (with_reducible refine LeO.bind ?_ (fun _ => ?_))
  | exact slices_Contains_string_string.mono _ _ _
  | exact LeO.none _
  | refine LeO.ite ?_ ?_
  | refine LeO.bind ?_ (fun _ => ?_)
set_option maxHeartbeats 8000000 in
set_option maxRecDepth 100000 in
theorem gram_nameFault.calls (k : Nat) (A0 : Option Addr) (c0 : Nat) (l0 : List ByteArray) (a1 : Int) (r : Bool) (w : World) (hr0 : Kd.C Kd.string w A0 l0.length l0) (hc0 : l0.length ≤ c0) (h : gram_nameFault.f k l0 a1 = some r) :
 Calls Tryd.prog 101 #[.slice A0 l0.length c0, .int .i64 a1] w fun e w' => e = .returned (.bool r) ∧ Drawn0 w w' := by
 have HR0 := Aside0.mk hr0
 have HC0 := Aside0.mk hc0
 clear hr0 hc0
 have H : (if 0 ≤ a1 then (if a1 < (l0.length : Int) then (if ((rdOf ByteArray.empty l0 a1).size : Int) = 0 then (some true) else (if ((rdOf ByteArray.empty l0 a1).size : Int) > 32 then (some true) else (if a1 ≤ (l0.length : Int) then ((slices_Contains_string_string.f k (l0.take (a1 : Int).toNat) (rdOf ByteArray.empty l0 a1)).bind fun t136 => (if t136 = true then (some true) else (some false))) else (none)))) else (none)) else (none)) = some r := h
 clear h
 by_cases c3 : 0 ≤ a1
 · rw [if_pos c3] at H
   have c3b0 : decide (0 ≤ a1) = true := decide_eq_true c3
   clear c3
   by_cases c4 : a1 < (l0.length : Int)
   · rw [if_pos c4] at H
     have c4b0 : decide (a1 < (l0.length : Int)) = true := decide_eq_true c4
     clear c4
     by_cases c5 : ((rdOf ByteArray.empty l0 a1).size : Int) = 0
     · rw [if_pos c5] at H
       have c5b0 : (((rdOf ByteArray.empty l0 a1).size : Int) == 0) = true := beq_iff_eq.mpr c5
       have c5b1 : (((rdOf ByteArray.empty l0 a1).size : Int) != 0) = false := bne_eq_false_iff_eq.mpr c5
       clear c5
       obtain rfl := Option.some.inj H
       have p133 : 0 ≤ (a1 : Int) := of_decide_eq_true (by first | (with_reducible assumption) | assumption)
       have q133 : a1 < (l0.length : Int) := of_decide_eq_true (by first | (with_reducible assumption) | assumption)
       obtain ⟨ad133, e133, hx133_0⟩ := Kd.at_string HR0.out a1 p133 q133
       cases e133
       replace p133 := eq_true p133
       replace q133 := eq_true q133
       go_enter Tryd.func101, Tryd.ntmps101
       go_wp2
       repeat (go_quiet (fail); try go_wp2)
       go_ret
       exact ⟨by first | rfl | (simp; done) | (simp [*]; done), by repeat (first | exact Drawn0.refl _ | apply Drawn0.step)⟩
     · rw [if_neg c5] at H
       have c5b0 : (((rdOf ByteArray.empty l0 a1).size : Int) == 0) = false := beq_eq_false_iff_ne.mpr c5
       have c5b1 : (((rdOf ByteArray.empty l0 a1).size : Int) != 0) = true := bne_iff_ne.mpr c5
       by_cases c6 : ((rdOf ByteArray.empty l0 a1).size : Int) > 32
       · rw [if_pos c6] at H
         have c6b0 : decide (32 < ((rdOf ByteArray.empty l0 a1).size : Int)) = true := decide_eq_true c6
         have c6b1 : decide (32 < (rdOf ByteArray.empty l0 a1).size) = true := decide_eq_true (by omega)
         clear c6
         obtain rfl := Option.some.inj H
         have p133 : 0 ≤ (a1 : Int) := of_decide_eq_true (by first | (with_reducible assumption) | assumption)
         have q133 : a1 < (l0.length : Int) := of_decide_eq_true (by first | (with_reducible assumption) | assumption)
         obtain ⟨ad133, e133, hx133_0⟩ := Kd.at_string HR0.out a1 p133 q133
         cases e133
         replace p133 := eq_true p133
         replace q133 := eq_true q133
         go_enter Tryd.func101, Tryd.ntmps101
         go_wp2
         repeat (go_quiet (fail); try go_wp2)
         go_ret
         exact ⟨by first | rfl | (simp; done) | (simp [*]; done), by repeat (first | exact Drawn0.refl _ | apply Drawn0.step)⟩
       · rw [if_neg c6] at H
         have c6b0 : decide (32 < ((rdOf ByteArray.empty l0 a1).size : Int)) = false := decide_eq_false c6
         have c6b1 : decide (32 < (rdOf ByteArray.empty l0 a1).size) = false := decide_eq_false (by omega)
         clear c6
         have c7b0 := eq_true (of_decide_eq_true (by first | (with_reducible assumption) | assumption) : 0 ≤ a1)
         by_cases c8 : a1 ≤ (l0.length : Int)
         · rw [if_pos c8] at H
           have c8b0 := eq_true c8
           have c8b1 : decide (a1 ≤ (l0.length : Int)) = true := decide_eq_true c8
           clear c8
           replace H := Option.bind_eq_some_iff.mp H
           obtain ⟨t136, A90, H⟩ := H
           replace H : (if t136 = true then (some true) else (some false)) = some r := H
           have A9 := Aside0.mk A90
           clear A90
           by_cases c10 : t136 = true
           · subst c10
             have H1 : (some true) = some r := by rw [if_pos rfl] at H; exact H
             clear H
             have H := H1
             clear H1
             obtain rfl := Option.some.inj H
             have p133 : 0 ≤ (a1 : Int) := of_decide_eq_true (by first | (with_reducible assumption) | assumption)
             have q133 : a1 < (l0.length : Int) := of_decide_eq_true (by first | (with_reducible assumption) | assumption)
             obtain ⟨ad133, e133, hx133_0⟩ := Kd.at_string HR0.out a1 p133 q133
             cases e133
             replace p133 := eq_true p133
             replace q133 := eq_true q133
             obtain ⟨i011, hi011, _, hsz11, _⟩ := info_parts info9
             obtain ⟨hcut11, hA11, hC11⟩ := print_take_of (P := Tryd.prog) Value.string (⟨#[]⟩ : ByteArray) 29 9 .i64 Tryd.underlying29 hi011 hsz11 (some ad133) c0 l0 a1 (of_decide_eq_true (by first | (with_reducible assumption) | assumption)) (of_decide_eq_true (by first | (with_reducible assumption) | assumption)) HC0.out
             have HR134 := Aside0.mk (Kd.C_of_reads (h1 := fun _ => rfl) (hA11 _ (Kd.reads_of_C HR0.out)))
             have HC134 := Aside0.mk hC11
             clear hA11 hC11 hi011 hsz11
             have p135 : 0 ≤ (a1 : Int) := of_decide_eq_true (by first | (with_reducible assumption) | assumption)
             have q135 : a1 < (l0.length : Int) := of_decide_eq_true (by first | (with_reducible assumption) | assumption)
             obtain ⟨ad135, e135, hx135_0⟩ := Kd.at_string HR0.out a1 p135 q135
             obtain rfl : ad133 = ad135 := (by injection e135)
             replace p135 := eq_true p135
             replace q135 := eq_true q135
             have hlen135 : (l0.take (a1 : Int).toNat).length = a1.toNat := by rw [List.length_take]; have := of_eq_true q135; omega
             have HC113true := fun (w : World) h1 h2 => slices_Contains_string_string.calls k (some ad133) c0 (l0.take (a1 : Int).toNat) (rdOf ByteArray.empty l0 a1) true w h1 h2 A9.out
             rw [hlen135] at HR134 HC134
             simp only [hlen135] at HC113true
             go_enter Tryd.func101, Tryd.ntmps101
             go_wp2_with (first | (go_at_call 109; (with_reducible refine (HC113true _ ?side1 ?side2).mono ?_); (case side1 => repeat (first | exact HR134.out | (with_reducible refine Kd.C_alloc ?_ _) | (with_reducible refine Kd.C_drewN ?_ _) | (with_reducible refine Kd.C_drew ?_))); (case side2 => exact HC134.out); rintro e w' ⟨rfl, ⟨nd, rfl⟩⟩; (try first | exact ⟨rfl, _, World.drewN_drewN _ _ _⟩ | exact ⟨rfl, _, Eq.trans (World.drewN_drewN _ _ _) (congrArg (World.drewN _) (Nat.add_assoc _ _ _))⟩)))
             repeat (go_quiet (first | (go_at_call 109; (with_reducible refine (HC113true _ ?side1 ?side2).mono ?_); (case side1 => repeat (first | exact HR134.out | (with_reducible refine Kd.C_alloc ?_ _) | (with_reducible refine Kd.C_drewN ?_ _) | (with_reducible refine Kd.C_drew ?_))); (case side2 => exact HC134.out); rintro e w' ⟨rfl, ⟨nd, rfl⟩⟩; (try first | exact ⟨rfl, _, World.drewN_drewN _ _ _⟩ | exact ⟨rfl, _, Eq.trans (World.drewN_drewN _ _ _) (congrArg (World.drewN _) (Nat.add_assoc _ _ _))⟩))); try go_wp2_with (first | (go_at_call 109; (with_reducible refine (HC113true _ ?side1 ?side2).mono ?_); (case side1 => repeat (first | exact HR134.out | (with_reducible refine Kd.C_alloc ?_ _) | (with_reducible refine Kd.C_drewN ?_ _) | (with_reducible refine Kd.C_drew ?_))); (case side2 => exact HC134.out); rintro e w' ⟨rfl, ⟨nd, rfl⟩⟩; (try first | exact ⟨rfl, _, World.drewN_drewN _ _ _⟩ | exact ⟨rfl, _, Eq.trans (World.drewN_drewN _ _ _) (congrArg (World.drewN _) (Nat.add_assoc _ _ _))⟩))))
             go_ret
             exact ⟨by first | rfl | (simp; done) | (simp [*]; done), by repeat (first | exact Drawn0.refl _ | apply Drawn0.step)⟩
           · replace c10 := Bool.eq_false_iff.mpr c10
             subst c10
             have H1 : (some false) = some r := by rw [if_neg (show ¬ (false = true) by decide)] at H; exact H
             clear H
             have H := H1
             clear H1
             obtain rfl := Option.some.inj H
             have p133 : 0 ≤ (a1 : Int) := of_decide_eq_true (by first | (with_reducible assumption) | assumption)
             have q133 : a1 < (l0.length : Int) := of_decide_eq_true (by first | (with_reducible assumption) | assumption)
             obtain ⟨ad133, e133, hx133_0⟩ := Kd.at_string HR0.out a1 p133 q133
             cases e133
             replace p133 := eq_true p133
             replace q133 := eq_true q133
             obtain ⟨i012, hi012, _, hsz12, _⟩ := info_parts info9
             obtain ⟨hcut12, hA12, hC12⟩ := print_take_of (P := Tryd.prog) Value.string (⟨#[]⟩ : ByteArray) 29 9 .i64 Tryd.underlying29 hi012 hsz12 (some ad133) c0 l0 a1 (of_decide_eq_true (by first | (with_reducible assumption) | assumption)) (of_decide_eq_true (by first | (with_reducible assumption) | assumption)) HC0.out
             have HR134 := Aside0.mk (Kd.C_of_reads (h1 := fun _ => rfl) (hA12 _ (Kd.reads_of_C HR0.out)))
             have HC134 := Aside0.mk hC12
             clear hA12 hC12 hi012 hsz12
             have p135 : 0 ≤ (a1 : Int) := of_decide_eq_true (by first | (with_reducible assumption) | assumption)
             have q135 : a1 < (l0.length : Int) := of_decide_eq_true (by first | (with_reducible assumption) | assumption)
             obtain ⟨ad135, e135, hx135_0⟩ := Kd.at_string HR0.out a1 p135 q135
             obtain rfl : ad133 = ad135 := (by injection e135)
             replace p135 := eq_true p135
             replace q135 := eq_true q135
             have hlen135 : (l0.take (a1 : Int).toNat).length = a1.toNat := by rw [List.length_take]; have := of_eq_true q135; omega
             have HC113false := fun (w : World) h1 h2 => slices_Contains_string_string.calls k (some ad133) c0 (l0.take (a1 : Int).toNat) (rdOf ByteArray.empty l0 a1) false w h1 h2 A9.out
             rw [hlen135] at HR134 HC134
             simp only [hlen135] at HC113false
             go_enter Tryd.func101, Tryd.ntmps101
             go_wp2_with (first | (go_at_call 109; (with_reducible refine (HC113false _ ?side1 ?side2).mono ?_); (case side1 => repeat (first | exact HR134.out | (with_reducible refine Kd.C_alloc ?_ _) | (with_reducible refine Kd.C_drewN ?_ _) | (with_reducible refine Kd.C_drew ?_))); (case side2 => exact HC134.out); rintro e w' ⟨rfl, ⟨nd, rfl⟩⟩; (try first | exact ⟨rfl, _, World.drewN_drewN _ _ _⟩ | exact ⟨rfl, _, Eq.trans (World.drewN_drewN _ _ _) (congrArg (World.drewN _) (Nat.add_assoc _ _ _))⟩)))
             repeat (go_quiet (first | (go_at_call 109; (with_reducible refine (HC113false _ ?side1 ?side2).mono ?_); (case side1 => repeat (first | exact HR134.out | (with_reducible refine Kd.C_alloc ?_ _) | (with_reducible refine Kd.C_drewN ?_ _) | (with_reducible refine Kd.C_drew ?_))); (case side2 => exact HC134.out); rintro e w' ⟨rfl, ⟨nd, rfl⟩⟩; (try first | exact ⟨rfl, _, World.drewN_drewN _ _ _⟩ | exact ⟨rfl, _, Eq.trans (World.drewN_drewN _ _ _) (congrArg (World.drewN _) (Nat.add_assoc _ _ _))⟩))); try go_wp2_with (first | (go_at_call 109; (with_reducible refine (HC113false _ ?side1 ?side2).mono ?_); (case side1 => repeat (first | exact HR134.out | (with_reducible refine Kd.C_alloc ?_ _) | (with_reducible refine Kd.C_drewN ?_ _) | (with_reducible refine Kd.C_drew ?_))); (case side2 => exact HC134.out); rintro e w' ⟨rfl, ⟨nd, rfl⟩⟩; (try first | exact ⟨rfl, _, World.drewN_drewN _ _ _⟩ | exact ⟨rfl, _, Eq.trans (World.drewN_drewN _ _ _) (congrArg (World.drewN _) (Nat.add_assoc _ _ _))⟩))))
             go_ret
             exact ⟨by first | rfl | (simp; done) | (simp [*]; done), by repeat (first | exact Drawn0.refl _ | apply Drawn0.step)⟩
         · rw [if_neg c8] at H
           exact absurd H (by simp)
   · rw [if_neg c4] at H
     exact absurd H (by simp)
 · rw [if_neg c3] at H
   exact absurd H (by simp)
def gram_names.l0 : Nat → List ByteArray → Int → Int → Option (Bool)
 | 0, _, _, _ => none
 | k + 1, x0, x5, x6 => if x6 < x5 then ((gram_nameFault.f k x0 x6).bind fun t135 => (if t135 = true then (some false) else (gram_names.l0 k x0 x5 (wrap64 (x6 + 1))))) else (some true)
def gram_names.f (k : Nat) (l0 : List ByteArray) : Option (Bool) := gram_names.l0 k l0 (l0.length : Int) 0
theorem gram_names.mono_l : ∀ k, (∀ y0 y1 y2, LeO (gram_names.l0 k y0 y1 y2) (gram_names.l0 (k + 1) y0 y1 y2))
 | 0 => fun _ _ _ r h => by simp [gram_names.l0] at h
 | k + 1 => by
  have ih0 := gram_names.mono_l k
  · intro y0 y1 y2
    unfold gram_names.l0
    repeat' first
    | (with_reducible exact ih0 _ _ _)
    | (with_reducible exact gram_nameFault.mono _ _ _)
    | (with_reducible exact LeO.refl _)
    | (with_reducible exact LeO.none _)
    | (with_reducible refine LeO.ite ?_ ?_)
    | (with_reducible refine LeO.bind ?_ (fun _ => ?_))
    | exact ih0 _ _ _
    | exact gram_nameFault.mono _ _ _
    | exact LeO.none _
    | refine LeO.ite ?_ ?_
    | refine LeO.bind ?_ (fun _ => ?_)
theorem gram_names.mono : ∀ a0 k, LeO (gram_names.f k a0) (gram_names.f (k + 1) a0) := by
 intro a0 k
 have ih0 := gram_names.mono_l k
 unfold gram_names.f
 repeat' first
  | (with_reducible exact ih0 _ _ _)
  | (with_reducible exact gram_nameFault.mono _ _ _)
  | (with_reducible exact LeO.refl _)
  | (with_reducible exact LeO.none _)
  | (with_reducible refine LeO.ite ?_ ?_)
  | (with_reducible refine LeO.bind ?_ (fun _ => ?_))
  | exact ih0 _ _ _
  | exact gram_nameFault.mono _ _ _
  | exact LeO.none _
  | refine LeO.ite ?_ ?_
  | refine LeO.bind ?_ (fun _ => ?_)
set_option maxHeartbeats 8000000 in
set_option maxRecDepth 100000 in
theorem gram_names.calls (k : Nat) (A0 : Option Addr) (c0 : Nat) (l0 : List ByteArray) (r : Bool) (w : World) (hr0 : Kd.C Kd.string w A0 l0.length l0) (hc0 : l0.length ≤ c0) (h : gram_names.f k l0 = some r) :
 Calls Tryd.prog 81 #[.slice A0 l0.length c0] w fun e w' => e = .returned (.bool r) ∧ Drawn0 w w' := by
 have HR0 := Aside0.mk hr0
 have HC0 := Aside0.mk hc0
 clear hr0 hc0
 have H : (gram_names.l0 k l0 (l0.length : Int) 0) = some r := h
 clear h
 have H' := Aside0.mk H
 clear H
 go_enter Tryd.func81, Tryd.ntmps81
 go_wp2
 go_loopg [6] k (fun kq v6 w' => ∃ (x6_1 : Int), v6 = .int .i64 x6_1 ∧ Aside0 (gram_names.l0 kq l0 (l0.length : Int) x6_1 = some r) ∧ Aside0 (kq ≤ k) ∧ Drawn0 w w')
 case atStart => exact ⟨(0), (by first | rfl | (simp; done) | (simp [*]; done)), H', ⟨Nat.le_refl _⟩, by repeat (first | exact Drawn0.refl _ | apply Drawn0.step)⟩
 case round =>
  clear H'
  obtain ⟨x6_1, rfl, HA, HK1, ⟨m1, rfl⟩⟩ := hrel
  cases gk with
  | zero => exact absurd HA.out (by simp [gram_names.l0])
  | succ k1 =>
   have H := HA.out
   clear HA
   simp only [gram_names.l0] at H
   by_cases c2 : x6_1 < (l0.length : Int)
   · rw [if_pos c2] at H
     have c2b0 : decide (x6_1 < (l0.length : Int)) = true := decide_eq_true c2
     clear c2
     replace H := Option.bind_eq_some_iff.mp H
     obtain ⟨t135, A30, H⟩ := H
     replace H : (if t135 = true then (some false) else (gram_names.l0 k1 l0 (l0.length : Int) (wrap64 (x6_1 + 1)))) = some r := H
     have A3 := Aside0.mk A30
     clear A30
     by_cases c4 : t135 = true
     · subst c4
       have H1 : (some false) = some r := by rw [if_pos rfl] at H; exact H
       clear H
       have H := H1
       clear H1
       obtain rfl := Option.some.inj H
       go_wp2_with (first | ((with_reducible refine gate_callee (f := 101) rfl ?_); refine goesL_ (some 11) rfl rfl Tryd.func101 (by kernel_rfl) rfl #[.slice A0 l0.length c0, .int .i64 x6_1] rfl (by (try simp only [List.map_toArray, List.map_cons, List.map_nil]); first | done | rfl | (simp only [List.length_drop, List.length_take]; rfl)) ?_; (with_reducible refine (gram_nameFault.calls k1 _ _ l0 x6_1 true _ ?side1 ?side2 A3.out).mono ?_); (case side1 => repeat (first | exact HR0.out | (with_reducible refine Kd.C_alloc ?_ _) | (with_reducible refine Kd.C_drewN ?_ _) | (with_reducible refine Kd.C_drew ?_))); (case side2 => exact HC0.out); rintro e w' ⟨rfl, ⟨nd, rfl⟩⟩; refine ⟨_, rfl, ?_⟩))
       go_ret
       exact ⟨by first | rfl | (simp; done) | (simp [*]; done), by repeat (first | exact Drawn0.refl _ | apply Drawn0.step)⟩
     · replace c4 := Bool.eq_false_iff.mpr c4
       subst c4
       have H1 : (gram_names.l0 k1 l0 (l0.length : Int) (wrap64 (x6_1 + 1))) = some r := by rw [if_neg (show ¬ (false = true) by decide)] at H; exact H
       clear H
       have H := H1
       clear H1
       have H' := Aside0.mk H
       clear H
       go_wp2_with (first | ((with_reducible refine gate_callee (f := 101) rfl ?_); refine goesL_ (some 11) rfl rfl Tryd.func101 (by kernel_rfl) rfl #[.slice A0 l0.length c0, .int .i64 x6_1] rfl (by (try simp only [List.map_toArray, List.map_cons, List.map_nil]); first | done | rfl | (simp only [List.length_drop, List.length_take]; rfl)) ?_; (with_reducible refine (gram_nameFault.calls k1 _ _ l0 x6_1 false _ ?side1 ?side2 A3.out).mono ?_); (case side1 => repeat (first | exact HR0.out | (with_reducible refine Kd.C_alloc ?_ _) | (with_reducible refine Kd.C_drewN ?_ _) | (with_reducible refine Kd.C_drew ?_))); (case side2 => exact HC0.out); rintro e w' ⟨rfl, ⟨nd, rfl⟩⟩; refine ⟨_, rfl, ?_⟩))
       go_roundg k1
       case measure => have := HK1.out; omega
       case rel => exact ⟨(wrap64 (x6_1 + 1)), (by first | rfl | (simp; done) | (simp [*]; done)), H', ⟨by have := HK1.out; omega⟩, by repeat (first | exact Drawn0.refl _ | apply Drawn0.step)⟩
   · rw [if_neg c2] at H
     have c2b0 : decide (x6_1 < (l0.length : Int)) = false := decide_eq_false c2
     clear c2
     obtain rfl := Option.some.inj H
     go_wp2
     go_ret
     exact ⟨by first | rfl | (simp; done) | (simp [*]; done), by repeat (first | exact Drawn0.refl _ | apply Drawn0.step)⟩

def dovetailkit_Sets.l0 : Nat → List Int → List Int → Int → Option (Bool)
 | 0, _, _, _ => none
 | k + 1, x0, x1, x5 => if x5 < (x0.length : Int) then (if 0 ≤ x5 then (if x5 < (x1.length : Int) then (if (rd x0 x5) = (rd x1 x5) then (dovetailkit_Sets.l0 k x0 x1 (wrap64 (x5 + 1))) else (some false)) else (none)) else (none)) else (some true)
def dovetailkit_Sets.f (k : Nat) (l0 : List Int) (l1 : List Int) : Option (Bool) := if (l0.length : Int) = (l1.length : Int) then (dovetailkit_Sets.l0 k l0 l1 0) else (some false)
theorem dovetailkit_Sets.mono_l : ∀ k, (∀ y0 y1 y2, LeO (dovetailkit_Sets.l0 k y0 y1 y2) (dovetailkit_Sets.l0 (k + 1) y0 y1 y2))
 | 0 => fun _ _ _ r h => by simp [dovetailkit_Sets.l0] at h
 | k + 1 => by
  have ih0 := dovetailkit_Sets.mono_l k
  · intro y0 y1 y2
    unfold dovetailkit_Sets.l0
    repeat' first
    | (with_reducible exact ih0 _ _ _)
    | (with_reducible exact LeO.refl _)
    | (with_reducible exact LeO.none _)
    | (with_reducible refine LeO.ite ?_ ?_)
    | (with_reducible refine LeO.bind ?_ (fun _ => ?_))
    | exact ih0 _ _ _
    | exact LeO.none _
    | refine LeO.ite ?_ ?_
    | refine LeO.bind ?_ (fun _ => ?_)
theorem dovetailkit_Sets.mono : ∀ a0 a1 k, LeO (dovetailkit_Sets.f k a0 a1) (dovetailkit_Sets.f (k + 1) a0 a1) := by
 intro a0 a1 k
 have ih0 := dovetailkit_Sets.mono_l k
 unfold dovetailkit_Sets.f
 repeat' first
  | (with_reducible exact ih0 _ _ _)
  | (with_reducible exact LeO.refl _)
  | (with_reducible exact LeO.none _)
  | (with_reducible refine LeO.ite ?_ ?_)
  | (with_reducible refine LeO.bind ?_ (fun _ => ?_))
  | exact ih0 _ _ _
  | exact LeO.none _
  | refine LeO.ite ?_ ?_
  | refine LeO.bind ?_ (fun _ => ?_)
set_option maxHeartbeats 8000000 in
set_option maxRecDepth 100000 in
theorem dovetailkit_Sets.calls (k : Nat) (A0 : Option Addr) (c0 : Nat) (l0 : List Int) (A1 : Option Addr) (c1 : Nat) (l1 : List Int) (r : Bool) (w : World) (hr0 : Kd.C (Kd.int .u64) w A0 l0.length l0) (hc0 : l0.length ≤ c0) (hr1 : Kd.C (Kd.int .u64) w A1 l1.length l1) (hc1 : l1.length ≤ c1) (h : dovetailkit_Sets.f k l0 l1 = some r) :
 Calls Tryd.prog 19 #[.slice A0 l0.length c0, .slice A1 l1.length c1] w fun e w' => e = .returned (.bool r) ∧ Drawn0 w w' := by
 have HR0 := Aside0.mk hr0
 have HC0 := Aside0.mk hc0
 clear hr0 hc0
 have HR1 := Aside0.mk hr1
 have HC1 := Aside0.mk hc1
 clear hr1 hc1
 have H : (if (l0.length : Int) = (l1.length : Int) then (dovetailkit_Sets.l0 k l0 l1 0) else (some false)) = some r := h
 clear h
 by_cases c3 : (l0.length : Int) = (l1.length : Int)
 · rw [if_pos c3] at H
   have c3b0 : ((l0.length : Int) == (l1.length : Int)) = true := beq_iff_eq.mpr c3
   have c3b1 : ((l0.length : Int) != (l1.length : Int)) = false := bne_eq_false_iff_eq.mpr c3
   have c3b2 : (l0.length == l1.length) = true := by first | simpa using c3 | (simp at c3 ⊢; omega)
   clear c3
   have H' := Aside0.mk H
   clear H
   go_enter Tryd.func19, Tryd.ntmps19
   go_wp2
   repeat (go_quiet (fail); try go_wp2)
   go_loopg [5] k (fun kq v5 w' => ∃ (x5_1 : Int), v5 = .int .i64 x5_1 ∧ Aside0 (dovetailkit_Sets.l0 kq l0 l1 x5_1 = some r) ∧ Aside0 (kq ≤ k) ∧ Drawn0 w w')
   case atStart => exact ⟨(0), (by first | rfl | (simp; done) | (simp [*]; done)), H', ⟨Nat.le_refl _⟩, by repeat (first | exact Drawn0.refl _ | apply Drawn0.step)⟩
   case round =>
    clear H'
    try clear c1
    try clear p2
    try clear c3
    try clear c3b0
    try clear c3b1
    try clear c3b2
    obtain ⟨x5_1, rfl, HA, HK1, ⟨m1, rfl⟩⟩ := hrel
    cases gk with
    | zero => exact absurd HA.out (by simp [dovetailkit_Sets.l0])
    | succ k1 =>
     have H := HA.out
     clear HA
     simp only [dovetailkit_Sets.l0] at H
     by_cases c4 : x5_1 < (l0.length : Int)
     · rw [if_pos c4] at H
       have c4b0 : decide (x5_1 < (l0.length : Int)) = true := decide_eq_true c4
       clear c4
       by_cases c5 : 0 ≤ x5_1
       · rw [if_pos c5] at H
         have c5b0 : decide (0 ≤ x5_1) = true := decide_eq_true c5
         clear c5
         by_cases c6 : x5_1 < (l1.length : Int)
         · rw [if_pos c6] at H
           have c6b0 : decide (x5_1 < (l1.length : Int)) = true := decide_eq_true c6
           clear c6
           by_cases c7 : (rd l0 x5_1) = (rd l1 x5_1)
           · rw [if_pos c7] at H
             have c7b0 : ((rd l0 x5_1) == (rd l1 x5_1)) = true := beq_iff_eq.mpr c7
             have c7b1 : ((rd l0 x5_1) != (rd l1 x5_1)) = false := bne_eq_false_iff_eq.mpr c7
             clear c7
             have H' := Aside0.mk H
             clear H
             have p141 : 0 ≤ (x5_1 : Int) := of_decide_eq_true (by first | (with_reducible assumption) | assumption)
             have q141 : x5_1 < (l0.length : Int) := of_decide_eq_true (by first | (with_reducible assumption) | assumption)
             obtain ⟨ad141, e141, hx141_0⟩ := Kd.at_int HR0.out x5_1 p141 q141
             cases e141
             replace p141 := eq_true p141
             replace q141 := eq_true q141
             have p142 : 0 ≤ (x5_1 : Int) := of_decide_eq_true (by first | (with_reducible assumption) | assumption)
             have q142 : x5_1 < (l1.length : Int) := of_decide_eq_true (by first | (with_reducible assumption) | assumption)
             obtain ⟨ad142, e142, hx142_0⟩ := Kd.at_int HR1.out x5_1 p142 q142
             cases e142
             replace p142 := eq_true p142
             replace q142 := eq_true q142
             go_wp2
             repeat (go_quiet (fail); try go_wp2)
             go_roundg k1
             case measure => have := HK1.out; omega
             case rel => exact ⟨(wrap64 (x5_1 + 1)), (by first | rfl | (simp; done) | (simp [*]; done)), H', ⟨by have := HK1.out; omega⟩, by repeat (first | exact Drawn0.refl _ | apply Drawn0.step)⟩
           · rw [if_neg c7] at H
             have c7b0 : ((rd l0 x5_1) == (rd l1 x5_1)) = false := beq_eq_false_iff_ne.mpr c7
             have c7b1 : ((rd l0 x5_1) != (rd l1 x5_1)) = true := bne_iff_ne.mpr c7
             obtain rfl := Option.some.inj H
             have p141 : 0 ≤ (x5_1 : Int) := of_decide_eq_true (by first | (with_reducible assumption) | assumption)
             have q141 : x5_1 < (l0.length : Int) := of_decide_eq_true (by first | (with_reducible assumption) | assumption)
             obtain ⟨ad141, e141, hx141_0⟩ := Kd.at_int HR0.out x5_1 p141 q141
             cases e141
             replace p141 := eq_true p141
             replace q141 := eq_true q141
             have p142 : 0 ≤ (x5_1 : Int) := of_decide_eq_true (by first | (with_reducible assumption) | assumption)
             have q142 : x5_1 < (l1.length : Int) := of_decide_eq_true (by first | (with_reducible assumption) | assumption)
             obtain ⟨ad142, e142, hx142_0⟩ := Kd.at_int HR1.out x5_1 p142 q142
             cases e142
             replace p142 := eq_true p142
             replace q142 := eq_true q142
             go_wp2
             repeat (go_quiet (fail); try go_wp2)
             go_ret
             exact ⟨by first | rfl | (simp; done) | (simp [*]; done), by repeat (first | exact Drawn0.refl _ | apply Drawn0.step)⟩
         · rw [if_neg c6] at H
           exact absurd H (by simp)
       · rw [if_neg c5] at H
         exact absurd H (by simp)
     · rw [if_neg c4] at H
       have c4b0 : decide (x5_1 < (l0.length : Int)) = false := decide_eq_false c4
       clear c4
       obtain rfl := Option.some.inj H
       go_wp2
       repeat (go_quiet (fail); try go_wp2)
       go_ret
       exact ⟨by first | rfl | (simp; done) | (simp [*]; done), by repeat (first | exact Drawn0.refl _ | apply Drawn0.step)⟩
 · rw [if_neg c3] at H
   have c3b0 : ((l0.length : Int) == (l1.length : Int)) = false := beq_eq_false_iff_ne.mpr c3
   have c3b1 : ((l0.length : Int) != (l1.length : Int)) = true := bne_iff_ne.mpr c3
   have c3b2 : (l0.length == l1.length) = false := by first | simpa using c3 | (simp at c3 ⊢; omega)
   obtain rfl := Option.some.inj H
   go_enter Tryd.func19, Tryd.ntmps19
   go_wp2
   repeat (go_quiet (fail); try go_wp2)
   go_ret
   exact ⟨by first | rfl | (simp; done) | (simp [*]; done), by repeat (first | exact Drawn0.refl _ | apply Drawn0.step)⟩

def dovetailkit_Ints.l0 : Nat → List Int → List Int → Int → Option (Bool)
 | 0, _, _, _ => none
 | k + 1, x0, x1, x5 => if x5 < (x0.length : Int) then (if 0 ≤ x5 then (if x5 < (x1.length : Int) then (if (rd x0 x5) = (rd x1 x5) then (dovetailkit_Ints.l0 k x0 x1 (wrap64 (x5 + 1))) else (some false)) else (none)) else (none)) else (some true)
def dovetailkit_Ints.f (k : Nat) (l0 : List Int) (l1 : List Int) : Option (Bool) := if (l0.length : Int) = (l1.length : Int) then (dovetailkit_Ints.l0 k l0 l1 0) else (some false)
theorem dovetailkit_Ints.mono_l : ∀ k, (∀ y0 y1 y2, LeO (dovetailkit_Ints.l0 k y0 y1 y2) (dovetailkit_Ints.l0 (k + 1) y0 y1 y2))
 | 0 => fun _ _ _ r h => by simp [dovetailkit_Ints.l0] at h
 | k + 1 => by
  have ih0 := dovetailkit_Ints.mono_l k
  · intro y0 y1 y2
    unfold dovetailkit_Ints.l0
    repeat' first
    | (with_reducible exact ih0 _ _ _)
    | (with_reducible exact LeO.refl _)
    | (with_reducible exact LeO.none _)
    | (with_reducible refine LeO.ite ?_ ?_)
    | (with_reducible refine LeO.bind ?_ (fun _ => ?_))
    | exact ih0 _ _ _
    | exact LeO.none _
    | refine LeO.ite ?_ ?_
    | refine LeO.bind ?_ (fun _ => ?_)
theorem dovetailkit_Ints.mono : ∀ a0 a1 k, LeO (dovetailkit_Ints.f k a0 a1) (dovetailkit_Ints.f (k + 1) a0 a1) := by
 intro a0 a1 k
 have ih0 := dovetailkit_Ints.mono_l k
 unfold dovetailkit_Ints.f
 repeat' first
  | (with_reducible exact ih0 _ _ _)
  | (with_reducible exact LeO.refl _)
  | (with_reducible exact LeO.none _)
  | (with_reducible refine LeO.ite ?_ ?_)
  | (with_reducible refine LeO.bind ?_ (fun _ => ?_))
  | exact ih0 _ _ _
  | exact LeO.none _
  | refine LeO.ite ?_ ?_
  | refine LeO.bind ?_ (fun _ => ?_)
set_option maxHeartbeats 8000000 in
set_option maxRecDepth 100000 in
theorem dovetailkit_Ints.calls (k : Nat) (A0 : Option Addr) (c0 : Nat) (l0 : List Int) (A1 : Option Addr) (c1 : Nat) (l1 : List Int) (r : Bool) (w : World) (hr0 : Kd.C (Kd.int .i64) w A0 l0.length l0) (hc0 : l0.length ≤ c0) (hr1 : Kd.C (Kd.int .i64) w A1 l1.length l1) (hc1 : l1.length ≤ c1) (h : dovetailkit_Ints.f k l0 l1 = some r) :
 Calls Tryd.prog 20 #[.slice A0 l0.length c0, .slice A1 l1.length c1] w fun e w' => e = .returned (.bool r) ∧ Drawn0 w w' := by
 have HR0 := Aside0.mk hr0
 have HC0 := Aside0.mk hc0
 clear hr0 hc0
 have HR1 := Aside0.mk hr1
 have HC1 := Aside0.mk hc1
 clear hr1 hc1
 have H : (if (l0.length : Int) = (l1.length : Int) then (dovetailkit_Ints.l0 k l0 l1 0) else (some false)) = some r := h
 clear h
 by_cases c3 : (l0.length : Int) = (l1.length : Int)
 · rw [if_pos c3] at H
   have c3b0 : ((l0.length : Int) == (l1.length : Int)) = true := beq_iff_eq.mpr c3
   have c3b1 : ((l0.length : Int) != (l1.length : Int)) = false := bne_eq_false_iff_eq.mpr c3
   have c3b2 : (l0.length == l1.length) = true := by first | simpa using c3 | (simp at c3 ⊢; omega)
   clear c3
   have H' := Aside0.mk H
   clear H
   go_enter Tryd.func20, Tryd.ntmps20
   go_wp2
   repeat (go_quiet (fail); try go_wp2)
   go_loopg [5] k (fun kq v5 w' => ∃ (x5_1 : Int), v5 = .int .i64 x5_1 ∧ Aside0 (dovetailkit_Ints.l0 kq l0 l1 x5_1 = some r) ∧ Aside0 (kq ≤ k) ∧ Drawn0 w w')
   case atStart => exact ⟨(0), (by first | rfl | (simp; done) | (simp [*]; done)), H', ⟨Nat.le_refl _⟩, by repeat (first | exact Drawn0.refl _ | apply Drawn0.step)⟩
   case round =>
    clear H'
    try clear c1
    try clear c2
    try clear p2
    try clear c3
    try clear c3b0
    try clear c3b1
    try clear c3b2
    obtain ⟨x5_1, rfl, HA, HK1, ⟨m1, rfl⟩⟩ := hrel
    cases gk with
    | zero => exact absurd HA.out (by simp [dovetailkit_Ints.l0])
    | succ k1 =>
     have H := HA.out
     clear HA
     simp only [dovetailkit_Ints.l0] at H
     by_cases c4 : x5_1 < (l0.length : Int)
     · rw [if_pos c4] at H
       have c4b0 : decide (x5_1 < (l0.length : Int)) = true := decide_eq_true c4
       clear c4
       by_cases c5 : 0 ≤ x5_1
       · rw [if_pos c5] at H
         have c5b0 : decide (0 ≤ x5_1) = true := decide_eq_true c5
         clear c5
         by_cases c6 : x5_1 < (l1.length : Int)
         · rw [if_pos c6] at H
           have c6b0 : decide (x5_1 < (l1.length : Int)) = true := decide_eq_true c6
           clear c6
           by_cases c7 : (rd l0 x5_1) = (rd l1 x5_1)
           · rw [if_pos c7] at H
             have c7b0 : ((rd l0 x5_1) == (rd l1 x5_1)) = true := beq_iff_eq.mpr c7
             have c7b1 : ((rd l0 x5_1) != (rd l1 x5_1)) = false := bne_eq_false_iff_eq.mpr c7
             clear c7
             have H' := Aside0.mk H
             clear H
             have p154 : 0 ≤ (x5_1 : Int) := of_decide_eq_true (by first | (with_reducible assumption) | assumption)
             have q154 : x5_1 < (l0.length : Int) := of_decide_eq_true (by first | (with_reducible assumption) | assumption)
             obtain ⟨ad154, e154, hx154_0⟩ := Kd.at_int HR0.out x5_1 p154 q154
             cases e154
             replace p154 := eq_true p154
             replace q154 := eq_true q154
             have p155 : 0 ≤ (x5_1 : Int) := of_decide_eq_true (by first | (with_reducible assumption) | assumption)
             have q155 : x5_1 < (l1.length : Int) := of_decide_eq_true (by first | (with_reducible assumption) | assumption)
             obtain ⟨ad155, e155, hx155_0⟩ := Kd.at_int HR1.out x5_1 p155 q155
             cases e155
             replace p155 := eq_true p155
             replace q155 := eq_true q155
             go_wp2
             repeat (go_quiet (fail); try go_wp2)
             go_roundg k1
             case measure => have := HK1.out; omega
             case rel => exact ⟨(wrap64 (x5_1 + 1)), (by first | rfl | (simp; done) | (simp [*]; done)), H', ⟨by have := HK1.out; omega⟩, by repeat (first | exact Drawn0.refl _ | apply Drawn0.step)⟩
           · rw [if_neg c7] at H
             have c7b0 : ((rd l0 x5_1) == (rd l1 x5_1)) = false := beq_eq_false_iff_ne.mpr c7
             have c7b1 : ((rd l0 x5_1) != (rd l1 x5_1)) = true := bne_iff_ne.mpr c7
             obtain rfl := Option.some.inj H
             have p154 : 0 ≤ (x5_1 : Int) := of_decide_eq_true (by first | (with_reducible assumption) | assumption)
             have q154 : x5_1 < (l0.length : Int) := of_decide_eq_true (by first | (with_reducible assumption) | assumption)
             obtain ⟨ad154, e154, hx154_0⟩ := Kd.at_int HR0.out x5_1 p154 q154
             cases e154
             replace p154 := eq_true p154
             replace q154 := eq_true q154
             have p155 : 0 ≤ (x5_1 : Int) := of_decide_eq_true (by first | (with_reducible assumption) | assumption)
             have q155 : x5_1 < (l1.length : Int) := of_decide_eq_true (by first | (with_reducible assumption) | assumption)
             obtain ⟨ad155, e155, hx155_0⟩ := Kd.at_int HR1.out x5_1 p155 q155
             cases e155
             replace p155 := eq_true p155
             replace q155 := eq_true q155
             go_wp2
             repeat (go_quiet (fail); try go_wp2)
             go_ret
             exact ⟨by first | rfl | (simp; done) | (simp [*]; done), by repeat (first | exact Drawn0.refl _ | apply Drawn0.step)⟩
         · rw [if_neg c6] at H
           exact absurd H (by simp)
       · rw [if_neg c5] at H
         exact absurd H (by simp)
     · rw [if_neg c4] at H
       have c4b0 : decide (x5_1 < (l0.length : Int)) = false := decide_eq_false c4
       clear c4
       obtain rfl := Option.some.inj H
       go_wp2
       repeat (go_quiet (fail); try go_wp2)
       go_ret
       exact ⟨by first | rfl | (simp; done) | (simp [*]; done), by repeat (first | exact Drawn0.refl _ | apply Drawn0.step)⟩
 · rw [if_neg c3] at H
   have c3b0 : ((l0.length : Int) == (l1.length : Int)) = false := beq_eq_false_iff_ne.mpr c3
   have c3b1 : ((l0.length : Int) != (l1.length : Int)) = true := bne_iff_ne.mpr c3
   have c3b2 : (l0.length == l1.length) = false := by first | simpa using c3 | (simp at c3 ⊢; omega)
   obtain rfl := Option.some.inj H
   go_enter Tryd.func20, Tryd.ntmps20
   go_wp2
   repeat (go_quiet (fail); try go_wp2)
   go_ret
   exact ⟨by first | rfl | (simp; done) | (simp [*]; done), by repeat (first | exact Drawn0.refl _ | apply Drawn0.step)⟩

end Go.Proofs.YtjkifeladmhkoaaDoor.B
/- A name for printed texts. -/

/- gram.rule and what it calls. -/
set_option linter.unusedVariables false
namespace Go.Proofs.YtjkifeladmhkoaaDoor.B
open Go.RowKit YtjkifeladmhkoaaDoorW.PrintWords YtjkifeladmhkoaaDoorW.PrintLast YtjkifeladmhkoaaDoorW.PrintMore

def outS (t n : Nat) (s : Int) : Bool := decide ((t : Int) ≤ s) || decide (s < -(n : Int))

set_option maxHeartbeats 1000000 in
set_option maxRecDepth 100000 in
theorem OutS_calls (s : Int) (b t n ct cn : Nat) (At An : Option Addr) (w : World) (ht : t ≤ 60) (hn : n ≤ 60) (h0 : w.cell? ⟨b, 0, none⟩ = some (.slice At t ct)) (h1 : w.cell? ⟨b, 1, none⟩ = some (.slice An n cn)) :
 Calls Tryd.prog 103 #[.int .i64 s, .pointer (some ⟨b, 0, none⟩)] w fun e w' => e = .returned (.bool (outS t n s)) ∧ Below w.heap.size w w' := by
 by_cases c : (t : Int) ≤ s
 · have hc : decide ((t : Int) ≤ s) = true := decide_eq_true c
   have hq : outS t n s = true := by simp [outS, c]
   rw [hq]
   clear hq c
   go_enter Tryd.func103, Tryd.ntmps103
   go_wp2_with fail
   go_ret
   exact ⟨rfl, Below.refl _ w⟩
 · have hc : decide ((t : Int) ≤ s) = false := decide_eq_false c
   have hq : outS t n s = decide (s < -(n : Int)) := by simp [outS, c]
   rw [hq]
   generalize hz : decide (s < -(n : Int)) = z
   clear hq c
   go_enter Tryd.func103, Tryd.ntmps103
   go_wp2_with fail
   go_ret
   exact ⟨rfl, Below.refl _ w⟩

set_option maxHeartbeats 1000000 in
set_option maxRecDepth 100000 in
theorem IdxS_calls (A : Option Addr) (l : List Int) (c : Nat) (b t n ct cn : Nat) (At An : Option Addr) (w : World) (ht : t ≤ 60) (hn : n ≤ 60) (h0 : w.cell? ⟨b, 0, none⟩ = some (.slice At t ct)) (h1 : w.cell? ⟨b, 1, none⟩ = some (.slice An n cn))
 (hr : Kd.C (Kd.int .i64) w A l.length l) (hc : l.length ≤ c) :
 Calls Tryd.prog 110 #[.slice A l.length c, .func (.func 103) #[] #[.pointer (some ⟨b, 0, none⟩)]] w fun e w' => (∃ v : Int, e = .returned (.int .i64 v) ∧ decide (0 ≤ v) = l.any (outS t n)) ∧ Below w.heap.size w w' := by
 have hm := C_max hr
 have hcall : ∀ (W : World), Below w.heap.size w W → ∀ s, Calls Tryd.prog 103 #[.int .i64 s, .pointer (some ⟨b, 0, none⟩)] W fun e w' => e = .returned (.bool (outS t n s)) ∧ Below w.heap.size w w' := by
  intro W hW s
  refine (OutS_calls s b t n ct cn At An W ht hn ((hW.cell (World.block_lt_of_cell? w _ h0)).trans h0) ((hW.cell (World.block_lt_of_cell? w _ h1)).trans h1)).mono ?_
  rintro e w' ⟨he, hb⟩
  exact ⟨he, hW.trans (hb.mono hW.size)⟩
 have HR := Aside0.mk hr
 have HC := Aside0.mk hcall
 clear hr hcall h0 h1
 go_enter Tryd.func110, Tryd.ntmps110
 go_wp2_with fail
 go_loopw [5, 8] (fun _ i wr => ∃ k : Nat, k ≤ l.length ∧ i = .int .i64 k ∧ Hid ((l.take k).any (outS t n) = false) ∧ Aside0 (Below w.heap.size w wr)) (fun _ i _ => l.length - (intOf i).toNat)
 case atStart => exact ⟨0, Nat.zero_le _, rfl, Lib.hid (by simp), ⟨Below.refl _ w⟩⟩
 case round =>
  obtain ⟨k, hk, rfl, hno, hbe⟩ := hrel
  by_cases hlt : k < l.length
  · obtain ⟨ad, rfl, hx⟩ := Kd.at_int (Kd.C_below HR.out hbe.out) (k : Int) (by omega) (by omega)
    have hw := HC.out wr hbe.out (rd l (k : Int))
    have g0 : rd l (k : Int) = l[k] := by simp [rd, List.getD_eq_getElem?_getD, List.getElem?_eq_getElem hlt]
    have hn1 : (l.take (k + 1)).any (outS t n) = ((l.take k).any (outS t n) || outS t n l[k]) := by rw [List.take_succ_eq_append_getElem hlt, List.any_append]; simp
    have ha : outS t n l[k] = true → l.any (outS t n) = true := fun h => List.any_eq_true.2 ⟨l[k], List.getElem_mem hlt, h⟩
    rw [Int.toNat_natCast] at hx
    rw [g0] at hx hw
    generalize l[k] = x at hx hw hn1 ha
    cases hq : outS t n x with
    | true =>
     rw [hq] at hw
     have HA := Lib.hid (ha hq)
     have HW := Aside0.mk hw
     clear hw hn1 ha g0 hq
     go_wp2_with (go_at_call 103; (with_reducible refine HW.out.mono ?_); rintro e w' ⟨rfl, hb'⟩)
     go_ret
     exact ⟨⟨(k : Int), rfl, by rw [HA.out]; simp⟩, hb'⟩
    | false =>
     rw [hq] at hw
     have HN := Lib.hid hn1
     have HQ := Lib.hid hq
     have HW := Aside0.mk hw
     clear hw hn1 ha g0 hq
     go_wp2_with (go_at_call 103; (with_reducible refine HW.out.mono ?_); rintro e w' ⟨rfl, hb'⟩)
     go_roundw
     case measure => simp [intOf]; omega
     case rel => exact ⟨k + 1, by omega, rfl, Lib.hid (by rw [HN.out, hno.out, HQ.out]; rfl), ⟨hb'⟩⟩
  · have hkn : k = l.length := by omega
    subst hkn
    have HNO := Lib.hid (show l.any (outS t n) = false by have := hno.out; rwa [List.take_length] at this)
    clear hno
    go_wp2_with fail
    go_ret
    exact ⟨⟨-1, rfl, by rw [HNO.out]; rfl⟩, hbe.out⟩

set_option maxHeartbeats 1000000 in
set_option maxRecDepth 100000 in
theorem ContS_calls (A : Option Addr) (l : List Int) (c : Nat) (b t n ct cn : Nat) (At An : Option Addr) (w : World) (ht : t ≤ 60) (hn : n ≤ 60) (h0 : w.cell? ⟨b, 0, none⟩ = some (.slice At t ct)) (h1 : w.cell? ⟨b, 1, none⟩ = some (.slice An n cn))
 (hr : Kd.C (Kd.int .i64) w A l.length l) (hc : l.length ≤ c) :
 Calls Tryd.prog 102 #[.slice A l.length c, .func (.func 103) #[] #[.pointer (some ⟨b, 0, none⟩)]] w fun e w' => e = .returned (.bool (l.any (outS t n))) ∧ Below w.heap.size w w' := by
 have HW := Aside0.mk (IdxS_calls A l c b t n ct cn At An w ht hn h0 h1 hr hc)
 clear h0 h1 hr
 go_enter Tryd.func102, Tryd.ntmps102
 go_wp2_with (go_at_call 110; (with_reducible refine HW.out.mono ?_); rintro e w' ⟨⟨v, rfl, hv⟩, hb'⟩; have HV := Lib.hid hv; clear hv)
 go_ret
 exact ⟨by show Ending.returned (.bool (decide (0 ≤ v))) = _; rw [HV.out], hb'⟩
end Go.Proofs.YtjkifeladmhkoaaDoor.B
/- gram.Check at a grammar that may be: it answers nil. -/
namespace Go.Proofs.YtjkifeladmhkoaaDoor.B
open Go.RowKit YtjkifeladmhkoaaDoorW.PrintWords YtjkifeladmhkoaaDoorW.PrintLast YtjkifeladmhkoaaDoorW.PrintMore

def okR (t n : Nat) (x : S41) : Bool := decide (x.f1.length ≤ 32) && decide (0 ≤ x.f0) && decide (x.f0 < n) && !x.f1.any (outS t n)

end Go.Proofs.YtjkifeladmhkoaaDoor.B
/- Reading lists at a natural number; renamings, and to which nonterminals one comes by them. -/
set_option linter.unusedSimpArgs false
namespace Go.Proofs.YtjkifeladmhkoaaDoor.B
open Go.RowKit YtjkifeladmhkoaaDoorW.PrintWords YtjkifeladmhkoaaDoorW.PrintLast YtjkifeladmhkoaaDoorW.PrintMore

theorem rd_D (l : List Int) (i : Nat) : rd l (i : Int) = l.getD i 0 := by simp [rd]
theorem rdS_D (l : List ByteArray) (i : Nat) : rdOf ByteArray.empty l (i : Int) = l.getD i ByteArray.empty := by simp [rdOf]
theorem rdR_D (l : List S41) (i : Nat) : rd_T41 l (i : Int) = l.getD i z41 := by simp [rd_T41]
theorem getD_lt {α : Type} (l : List α) (i : Nat) (d : α) (h : i < l.length) : l.getD i d = l[i] := by simp [List.getD_eq_getElem?_getD, List.getElem?_eq_getElem h]
theorem getD_set {α : Type} (l : List α) (m i : Nat) (v d : α) : (l.set m v).getD i d = if m = i ∧ i < l.length then v else l.getD i d := by
 simp only [List.getD_eq_getElem?_getD, List.getElem?_set]
 by_cases h : m = i
 · subst h
   by_cases h2 : m < l.length
   · simp [h2]
   · simp [h2, List.getElem?_eq_none (show l.length ≤ m by omega)]
 · simp [h]
theorem sum_set : ∀ (l : List Int) (m : Nat) (v : Int), m < l.length → (l.set m v).sum = l.sum - l.getD m 0 + v
 | [], m, v, h => by simp at h
 | x :: l, 0, v, _ => by simp [List.sum_cons]; omega
 | x :: l, m + 1, v, h => by
  have := sum_set l m v (by simpa using h)
  simp only [List.set_cons_succ, List.sum_cons, List.getD_cons_succ]
  omega
theorem sum_le : ∀ (l l' : List Int), l.length = l'.length → (∀ i, i < l.length → l.getD i 0 ≤ l'.getD i 0) → l.sum ≤ l'.sum
 | [], [], _, _ => by simp
 | [], _ :: _, h, _ => by simp at h
 | _ :: _, [], h, _ => by simp at h
 | x :: l, y :: l', h, hi => by
  have h1 := sum_le l l' (by simpa using h) (fun i hl => by simpa using hi (i + 1) (by simpa using hl))
  have h0 := hi 0 (by simp)
  simp only [List.getD_cons_zero] at h0
  simp only [List.sum_cons]
  omega
theorem sum_bound : ∀ (l : List Int), (∀ i, i < l.length → l.getD i 0 < 2 ^ 64) → l.sum ≤ l.length * 2 ^ 64
 | [], _ => by simp
 | x :: l, hi => by
  have h1 := sum_bound l (fun i hl => by simpa using hi (i + 1) (by simpa using hl))
  have h0 := hi 0 (by simp)
  simp only [List.getD_cons_zero] at h0
  simp only [List.sum_cons, List.length_cons]
  push_cast
  omega
theorem w64 (i : Nat) (h : i < 9223372036854775807) : wrap64 ((i : Int) + 1) = ((i + 1 : Nat) : Int) := by unfold wrap64; omega

def ren (x : S41) : Option Nat := match x.f1 with
 | [s] => if s < 0 then some (-1 - s).toNat else none
 | _ => none
theorem okR_sides {t n : Nat} {x : S41} (h : okR t n x = true) : x.f1.length ≤ 32 ∧ 0 ≤ x.f0 ∧ x.f0 < n ∧ ∀ s ∈ x.f1, s < t ∧ -(n : Int) ≤ s := by
 simp only [okR, Bool.and_eq_true, decide_eq_true_eq, Bool.not_eq_true', List.any_eq_false, outS, Bool.or_eq_true, not_or, Int.not_le, Int.not_lt] at h
 exact ⟨h.1.1.1, h.1.1.2, h.1.2, fun s hs => by simpa using h.2 s hs⟩
def Edge (R : List S41) (a m : Nat) : Prop := ∃ x ∈ R, x.f0 = (a : Int) ∧ ren x = some m
inductive Reach (R : List S41) : Nat → Nat → Prop
 | refl (a : Nat) : Reach R a a
 | step {a m b : Nat} : Edge R a m → Reach R m b → Reach R a b
theorem Reach.trans {R : List S41} {a m b : Nat} (h : Reach R a m) (h' : Reach R m b) : Reach R a b := by
 induction h with
 | refl a => exact h'
 | step e _ ih => exact .step e (ih h')
end Go.Proofs.YtjkifeladmhkoaaDoor.B
/- Chapter 8, in plain Lean: what a right side shows, to what it leads; the sets on their way and at their end. -/
namespace Go.Proofs.YtjkifeladmhkoaaDoor.E8
open Go.RowKit YtjkifeladmhkoaaDoorW.PrintWords YtjkifeladmhkoaaDoorW.PrintLast YtjkifeladmhkoaaDoorW.PrintMore
open B

def rdE (r : Bool) (l : List Int) (k : Nat) : Int := if r = true then l.getD (l.length - 1 - k) 0 else l.getD k 0
theorem rdE_mem {r : Bool} {l : List Int} {k : Nat} (h : k < l.length) : rdE r l k ∈ l := by
 unfold rdE
 split
 · rw [getD_lt _ _ _ (by omega)]; exact List.getElem_mem _
 · rw [getD_lt _ _ _ h]; exact List.getElem_mem _
def shw (r : Bool) (l : List Int) : Option Nat :=
 if 0 < l.length ∧ 0 ≤ rdE r l 0 then some (rdE r l 0).toNat else if 1 < l.length ∧ 0 ≤ rdE r l 1 then some (rdE r l 1).toNat else none
def led (r : Bool) (l : List Int) : Option Nat := if 0 < l.length ∧ rdE r l 0 < 0 then some (-1 - rdE r l 0).toNat else none
theorem shw_lt {t n : Nat} {x : S41} (h : okR t n x = true) {r : Bool} {j : Nat} (hj : shw r x.f1 = some j) : j < t := by
 have hs := (okR_sides h).2.2.2
 unfold shw at hj
 split at hj
 · rename_i c
   have := (hs _ (rdE_mem (r := r) c.1)).1
   have := Option.some.inj hj
   omega
 · split at hj
   · rename_i c
     have := (hs _ (rdE_mem (r := r) c.1)).1
     have := Option.some.inj hj
     omega
   · cases hj
theorem led_lt {t n : Nat} {x : S41} (h : okR t n x = true) {r : Bool} {j : Nat} (hj : led r x.f1 = some j) : j < n := by
 have hs := (okR_sides h).2.2.2
 unfold led at hj
 split at hj
 · rename_i c
   have := (hs _ (rdE_mem (r := r) c.1)).2
   have := Option.some.inj hj
   omega
 · cases hj
inductive Beg (R : List S41) (r : Bool) : Nat → Nat → Prop
 | show {i t : Nat} {x : S41} : x ∈ R → x.f0 = (i : Int) → shw r x.f1 = some t → Beg R r i t
 | lead {i m t : Nat} {x : S41} : x ∈ R → x.f0 = (i : Int) → led r x.f1 = some m → Beg R r m t → Beg R r i t
def upd (r : Bool) (S : List Int) (x : S41) : Int :=
 let s1 := match shw r x.f1 with | some t => Go.bits .or .u64 (S.getD x.f0.toNat 0) (shl .u64 1 (t : Int)) | none => S.getD x.f0.toNat 0
 match led r x.f1 with | some m => Go.bits .or .u64 s1 (S.getD m 0) | none => s1
structure ESets (R : List S41) (r : Bool) (n : Nat) (S : List Int) : Prop where
 len : S.length = n
 u : ∀ i, i < n → U (S.getD i 0)
 sound : ∀ i, i < n → ∀ t, mem (S.getD i 0) t = true → Beg R r i t
structure EndsIs (R : List S41) (r : Bool) (n : Nat) (S : List Int) : Prop where
 len : S.length = n
 u : ∀ i, i < n → U (S.getD i 0)
 iff : ∀ i, i < n → ∀ t, mem (S.getD i 0) t = true ↔ Beg R r i t
section
variable {R : List S41} {r : Bool} {n t : Nat} {S : List Int} {x : S41}
theorem upd_u (hS : ESets R r n S) (h : okR t n x = true) (ht : t ≤ 60) : U (upd r S x) ∧ S.getD x.f0.toNat 0 ≤ upd r S x ∧ ∀ j, mem (upd r S x) j = true ↔ (mem (S.getD x.f0.toNat 0) j = true ∨ shw r x.f1 = some j ∨ ∃ m, led r x.f1 = some m ∧ mem (S.getD m 0) j = true) := by
 obtain ⟨_, ha0, ha1, _⟩ := okR_sides h
 have ua := hS.u x.f0.toNat (by omega)
 have h1 : ∃ s1, s1 = (match shw r x.f1 with | some t => Go.bits .or .u64 (S.getD x.f0.toNat 0) (shl .u64 1 (t : Int)) | none => S.getD x.f0.toNat 0) ∧ U s1 ∧ S.getD x.f0.toNat 0 ≤ s1 ∧ ∀ j, mem s1 j = true ↔ (mem (S.getD x.f0.toNat 0) j = true ∨ shw r x.f1 = some j) := by
  refine ⟨_, rfl, ?_⟩
  cases hs : shw r x.f1 with
  | none => exact ⟨ua, Int.le_refl _, fun j => by simp⟩
  | some q =>
   have hq := shw_lt h hs
   have uq := U_one q (by omega)
   refine ⟨U_or ua uq, or_ge ua uq, fun j => ?_⟩
   dsimp only
   rw [mem_or ua uq, mem_one q (by omega), Bool.or_eq_true, decide_eq_true_eq, Option.some_inj]
 obtain ⟨s1, e1, u1, g1, m1⟩ := h1
 unfold upd
 simp only [← e1]
 cases hl : led r x.f1 with
 | none => exact ⟨u1, g1, fun j => by rw [m1]; simp⟩
 | some m =>
  have hm := led_lt h hl
  have um := hS.u m hm
  refine ⟨U_or u1 um, Int.le_trans g1 (or_ge u1 um), fun j => ?_⟩
  dsimp only
  rw [mem_or u1 um, Bool.or_eq_true, m1]
  simp [or_assoc]
theorem ESets.set (hS : ESets R r n S) (hx : x ∈ R) (h : okR t n x = true) (ht : t ≤ 60) : ESets R r n (S.set x.f0.toNat (upd r S x)) := by
 obtain ⟨uu, _, mm⟩ := upd_u hS h ht
 obtain ⟨_, ha0, ha1, _⟩ := okR_sides h
 refine ⟨by simp [hS.len], fun i hi => ?_, fun i hi q hq => ?_⟩
 · rw [getD_set]
   split
   · exact uu
   · exact hS.u i hi
 · rw [getD_set] at hq
   split at hq
   · rename_i c
     have hxi : x.f0 = (i : Int) := by omega
     rcases (mm q).1 hq with h1 | h1 | ⟨m, h1, h2⟩
     · rw [c.1] at h1; exact hS.sound i hi q h1
     · exact .show hx hxi h1
     · exact .lead hx hxi h1 (hS.sound m (led_lt h h1) q h2)
   · exact hS.sound i hi q hq
theorem ESets.start (n : Nat) : ESets R r n (List.replicate n 0) := by
 have h0 : ∀ i, (List.replicate n (0 : Int)).getD i 0 = 0 := fun i => by
  rw [List.getD_eq_getElem?_getD, List.getElem?_replicate]; split <;> rfl
 exact ⟨by simp, fun i hi => by rw [h0]; exact U_zero, fun i hi q hq => by rw [h0, mem_zero] at hq; cases hq⟩
theorem ESets.ends (hS : ESets R r n S) (hR : ∀ x ∈ R, okR t n x = true) (ht : t ≤ 60) (hsh : ∀ x ∈ R, upd r S x = S.getD x.f0.toNat 0) : EndsIs R r n S := by
 refine ⟨hS.len, hS.u, fun i hi q => ⟨hS.sound i hi q, fun h => ?_⟩⟩
 clear hi
 induction h with
 | «show» hx h0 hs =>
  have := (upd_u hS (hR _ hx) ht).2.2 _ |>.2 (.inr (.inl hs))
  rw [hsh _ hx, h0, Int.toNat_natCast] at this
  exact this
 | lead hx h0 hl _ ih =>
  have := (upd_u hS (hR _ hx) ht).2.2 _ |>.2 (.inr (.inr ⟨_, hl, ih⟩))
  rw [hsh _ hx, h0, Int.toNat_natCast] at this
  exact this
end
theorem Beg.mono {R R' : List S41} {r : Bool} (h : ∀ x ∈ R, x ∈ R') {i t : Nat} (hb : Beg R r i t) : Beg R' r i t := by
 induction hb with
 | «show» hx h0 hs => exact .show (h _ hx) h0 hs
 | lead hx h0 hl _ ih => exact .lead (h _ hx) h0 hl ih
end Go.Proofs.YtjkifeladmhkoaaDoor.E8
/- ends.Chain, in plain Lean: how far nonterminals are from a terminal; the chain. -/
namespace Go.Proofs.YtjkifeladmhkoaaDoor.E8
open Go.RowKit YtjkifeladmhkoaaDoorW.PrintWords YtjkifeladmhkoaaDoorW.PrintLast YtjkifeladmhkoaaDoorW.PrintMore
open B

def hit (r : Bool) (tm : Nat) (far : List Int) (n : Nat) (l : List Int) : Bool :=
 (decide (n = 1) && decide (shw r l = some tm)) || (decide (1 < n) && match led r l with | some m => decide (far.getD m 0 = (n : Int) - 1) | none => false)
def ringStep (r : Bool) (tm n : Nat) (p : List Int × Bool) (x : S41) : List Int × Bool :=
 if p.1.getD x.f0.toNat 0 = 0 ∧ hit r tm p.1 n x.f1 = true then (p.1.set x.f0.toNat (n : Int), true) else p
def ring (r : Bool) (tm n : Nat) (R : List S41) (far : List Int) : List Int × Bool := R.foldl (ringStep r tm n) (far, false)
def rings (r : Bool) (tm : Nat) (R : List S41) : Nat → Nat → List Int → List Int
 | 0, _, far => far
 | k + 1, n, far => if (ring r tm n R far).2 = true then rings r tm R k (n + 1) (ring r tm n R far).1 else (ring r tm n R far).1
def farF (r : Bool) (tm N : Nat) (R : List S41) : List Int := rings r tm R N 1 (List.replicate N 0)
def nz : List Int → Nat
 | [] => 0
 | b :: l => (if b = 0 then 0 else 1) + nz l
theorem nz_le : ∀ l : List Int, nz l ≤ l.length
 | [] => Nat.le_refl _
 | b :: l => by
  have := nz_le l
  unfold nz
  rw [List.length_cons]
  split <;> omega
theorem nz_all : ∀ l : List Int, nz l = l.length → ∀ i, i < l.length → l.getD i 0 ≠ 0
 | [], _, i, hi => by simp at hi
 | b :: l, h, i, hi => by
  have hl := nz_le l
  unfold nz at h
  rw [List.length_cons] at h
  by_cases c : b = 0
  · rw [if_pos c] at h; omega
  · rw [if_neg c] at h
    cases i with
    | zero => simpa using c
    | succ i => simpa using nz_all l (by omega) i (by simpa using hi)
theorem nz_set : ∀ (l : List Int) (m : Nat) (v : Int), m < l.length → l.getD m 0 = 0 → v ≠ 0 → nz (l.set m v) = nz l + 1
 | [], m, _, h, _, _ => by simp at h
 | b :: l, 0, v, _, h0, hv => by
  have hb : b = 0 := by simpa using h0
  subst hb
  simp [nz, hv]; omega
 | b :: l, m + 1, v, h, h0, hv => by
  have := nz_set l m v (by simpa using h) (by simpa using h0) hv
  rw [List.set_cons_succ]
  unfold nz
  rw [this]; omega
structure FarK (R : List S41) (r : Bool) (tm N n : Nat) (far : List Int) : Prop where
 len : far.length = N
 rng : ∀ i, i < N → far.getD i 0 = 0 ∨ (1 ≤ far.getD i 0 ∧ far.getD i 0 < (n : Int))
 snd : ∀ i, i < N → far.getD i 0 ≠ 0 → ∃ x ∈ R, x.f0 = (i : Int) ∧ hit r tm far (far.getD i 0).toNat x.f1 = true
 shw1 : 1 < n → ∀ x ∈ R, shw r x.f1 = some tm → far.getD x.f0.toNat 0 = 1
 lead : ∀ x ∈ R, ∀ m, led r x.f1 = some m → 0 < far.getD m 0 → far.getD m 0 + 1 < (n : Int) → 0 < far.getD x.f0.toNat 0 ∧ far.getD x.f0.toNat 0 ≤ far.getD m 0 + 1
structure Far (R : List S41) (r : Bool) (tm N : Nat) (far : List Int) : Prop where
 len : far.length = N
 rng : ∀ i, i < N → far.getD i 0 = 0 ∨ (1 ≤ far.getD i 0 ∧ far.getD i 0 ≤ (N : Int))
 snd : ∀ i, i < N → far.getD i 0 ≠ 0 → ∃ x ∈ R, x.f0 = (i : Int) ∧ hit r tm far (far.getD i 0).toNat x.f1 = true
 shw1 : ∀ x ∈ R, shw r x.f1 = some tm → far.getD x.f0.toNat 0 = 1
 lead : ∀ x ∈ R, ∀ m, led r x.f1 = some m → 0 < far.getD m 0 → 0 < far.getD x.f0.toNat 0 ∧ far.getD x.f0.toNat 0 ≤ far.getD m 0 + 1
structure Mid (R : List S41) (r : Bool) (tm N n : Nat) (far0 : List Int) (done : List S41) (p : List Int × Bool) : Prop where
 len : p.1.length = N
 old : ∀ i, i < N → far0.getD i 0 ≠ 0 → p.1.getD i 0 = far0.getD i 0
 new : ∀ i, i < N → far0.getD i 0 = 0 → p.1.getD i 0 = 0 ∨ (p.1.getD i 0 = (n : Int) ∧ ∃ x ∈ R, x.f0 = (i : Int) ∧ hit r tm far0 n x.f1 = true)
 did : ∀ x ∈ done, hit r tm far0 n x.f1 = true → p.1.getD x.f0.toNat 0 ≠ 0
 no : p.2 = false → p.1 = far0
 yes : p.2 = true → nz far0 < nz p.1
 le : nz far0 ≤ nz p.1
section
variable {R : List S41} {r : Bool} {t tm N n : Nat} {far far0 : List Int} {done : List S41} {p : List Int × Bool} {x : S41}
theorem Mid.hit_eq (h : Mid R r tm N n far0 done p) (hr : ∀ i, i < N → far0.getD i 0 = 0 ∨ (1 ≤ far0.getD i 0 ∧ far0.getD i 0 < (n : Int))) {l : List Int} (hl : ∀ m, led r l = some m → m < N) : hit r tm p.1 n l = hit r tm far0 n l := by
 unfold hit
 cases hm : led r l with
 | none => rfl
 | some m =>
  have hN := hl m hm
  by_cases h1 : 1 < n
  · congr 2
    dsimp only
    congr 1
    by_cases h0 : far0.getD m 0 = 0
    · rcases h.new m hN h0 with h2 | ⟨h2, _⟩
      · rw [h2, h0]
      · rw [h2, h0]; exact propext ⟨fun e => by omega, fun e => by omega⟩
    · rw [h.old m hN h0]
  · rw [decide_eq_false h1]; rfl
theorem Mid.start (hf : FarK R r tm N n far0) : Mid R r tm N n far0 [] (far0, false) :=
 ⟨hf.len, fun _ _ _ => rfl, fun _ _ h => .inl h, fun _ h => absurd h (by simp), fun _ => rfl, fun h => absurd h (by simp), Nat.le_refl _⟩
theorem Mid.step (h : Mid R r tm N n far0 done p) (h1 : 1 ≤ n) (hr : ∀ i, i < N → far0.getD i 0 = 0 ∨ (1 ≤ far0.getD i 0 ∧ far0.getD i 0 < (n : Int))) (hx : x ∈ R) (hok : okR t N x = true) : Mid R r tm N n far0 (done ++ [x]) (ringStep r tm n p x) := by
 have he := h.hit_eq hr (l := x.f1) (fun m hm => led_lt hok hm)
 obtain ⟨_, ha0, ha1, _⟩ := okR_sides hok
 unfold ringStep
 rw [he]
 split
 · rename_i c
   have hx0 : far0.getD x.f0.toNat 0 = 0 := by
    by_cases h0 : far0.getD x.f0.toNat 0 = 0
    · exact h0
    · have := h.old _ (by omega) h0; rw [c.1] at this; exact this.symm
   have hz := nz_set p.1 x.f0.toNat (n : Int) (by rw [h.len]; omega) c.1 (by omega)
   have hle := h.le
   refine ⟨by simp [h.len], fun i hi h0 => ?_, fun i hi h0 => ?_, fun y hy hh => ?_, fun hh => (by cases hh), fun _ => by dsimp only; omega, by dsimp only; omega⟩
   · dsimp only
     rw [getD_set, if_neg (fun e => h0 (by rw [← e.1]; exact hx0))]
     exact h.old i hi h0
   · dsimp only
     rw [getD_set]
     split
     · rename_i e; exact .inr ⟨rfl, x, hx, by omega, c.2⟩
     · exact h.new i hi h0
   · dsimp only
     rw [getD_set]
     split
     · omega
     · rename_i e
       rcases List.mem_append.1 hy with hy | hy
       · exact h.did y hy hh
       · obtain rfl := List.mem_singleton.1 hy
         exact absurd ⟨rfl, by rw [h.len]; omega⟩ e
 · rename_i c
   refine ⟨h.len, h.old, h.new, fun y hy hh => ?_, h.no, h.yes, h.le⟩
   rcases List.mem_append.1 hy with hy | hy
   · exact h.did y hy hh
   · obtain rfl := List.mem_singleton.1 hy
     exact fun h0 => c ⟨h0, hh⟩
theorem Mid.fold (h1 : 1 ≤ n) (hr : ∀ i, i < N → far0.getD i 0 = 0 ∨ (1 ≤ far0.getD i 0 ∧ far0.getD i 0 < (n : Int))) : ∀ (L done : List S41) (p : List Int × Bool), (∀ x ∈ L, x ∈ R ∧ okR t N x = true) → Mid R r tm N n far0 done p → Mid R r tm N n far0 (done ++ L) (L.foldl (ringStep r tm n) p)
 | [], done, p, _, h => by simpa using h
 | x :: L, done, p, hL, h => by
  have h2 := h.step (t := t) h1 hr (hL x (by simp)).1 (hL x (by simp)).2
  have := Mid.fold h1 hr L (done ++ [x]) _ (fun y hy => hL y (by simp [hy])) h2
  simpa using this
theorem Mid.all (hf : FarK R r tm N n far0) (h1 : 1 ≤ n) (hR : ∀ x ∈ R, okR t N x = true) : Mid R r tm N n far0 R (ring r tm n R far0) := by
 have := Mid.fold (t := t) h1 hf.rng R [] (far0, false) (fun x hx => ⟨hx, hR x hx⟩) (Mid.start hf)
 simpa [ring] using this
theorem FarK.next (hf : FarK R r tm N n far0) (h1 : 1 ≤ n) (hR : ∀ x ∈ R, okR t N x = true) : FarK R r tm N (n + 1) (ring r tm n R far0).1 := by
 have hM := Mid.all hf h1 hR
 generalize ring r tm n R far0 = p at hM
 have keep : ∀ i, i < N → p.1.getD i 0 = 0 → far0.getD i 0 = 0 := fun i hi h0 => by
  by_cases c : far0.getD i 0 = 0
  · exact c
  · rw [← hM.old i hi c]; exact h0
 have up : ∀ l (hl : ∀ m, led r l = some m → m < N) (q : Nat), q ≤ n → hit r tm far0 q l = true → hit r tm p.1 q l = true := by
  intro l hl q hq hh
  unfold hit at hh ⊢
  cases hm : led r l with
  | none => rw [hm] at hh; exact hh
  | some m =>
   rw [hm] at hh
   dsimp only at hh ⊢
   by_cases c : 1 < q
   · rw [Bool.or_eq_true, Bool.and_eq_true, Bool.and_eq_true, decide_eq_true_eq, decide_eq_true_eq, decide_eq_true_eq, decide_eq_true_eq] at hh ⊢
     rcases hh with hh | hh
     · exact .inl hh
     · refine .inr ⟨hh.1, ?_⟩
       rw [hM.old m (hl m hm) (by omega)]; exact hh.2
   · rw [decide_eq_false c] at hh ⊢; exact hh
 refine ⟨hM.len, fun i hi => ?_, fun i hi h0 => ?_, fun _ x hx hs => ?_, fun x hx m hm h0 hlt => ?_⟩
 · by_cases c : far0.getD i 0 = 0
   · rcases hM.new i hi c with h | ⟨h, _⟩
     · exact .inl h
     · rw [h]; right; omega
   · rw [hM.old i hi c]
     rcases hf.rng i hi with h | h
     · exact .inl h
     · right; omega
 · by_cases c : far0.getD i 0 = 0
   · rcases hM.new i hi c with h | ⟨h, x, hx, hxi, hh⟩
     · exact absurd h h0
     · rw [h]
       exact ⟨x, hx, hxi, by rw [Int.toNat_natCast]; exact up _ (fun m hm => led_lt (hR x hx) hm) n (Nat.le_refl _) hh⟩
   · obtain ⟨x, hx, hxi, hh⟩ := hf.snd i hi c
     rw [hM.old i hi c]
     have := (hf.rng i hi).resolve_left c
     exact ⟨x, hx, hxi, up _ (fun m hm => led_lt (hR x hx) hm) _ (by omega) hh⟩
 · obtain ⟨_, ha0, ha1, _⟩ := okR_sides (hR x hx)
   by_cases c : 1 < n
   · have := hf.shw1 c x hx hs
     rw [hM.old _ (by omega) (by omega)]; exact this
   · obtain rfl : n = 1 := by omega
     have hd := hM.did x hx (by simp [hit, hs])
     have hz : far0.getD x.f0.toNat 0 = 0 := by
      rcases hf.rng x.f0.toNat (by omega) with h | h
      · exact h
      · omega
     rcases hM.new _ (by omega) hz with h | ⟨h, _⟩
     · exact absurd h hd
     · exact h
 · obtain ⟨_, ha0, ha1, _⟩ := okR_sides (hR x hx)
   have hmN := led_lt (hR x hx) hm
   have hm0 : far0.getD m 0 ≠ 0 := by
    intro c
    rcases hM.new m hmN c with h | ⟨h, _⟩ <;> omega
   rw [hM.old m hmN hm0] at h0 hlt ⊢
   by_cases c : far0.getD m 0 + 1 < (n : Int)
   · have := hf.lead x hx m hm h0 c
     rw [hM.old _ (by omega) (by omega)]; exact this
   · have hd := hM.did x hx (by
      simp only [hit, hm, Bool.or_eq_true, Bool.and_eq_true, decide_eq_true_eq]
      right; omega)
     by_cases c2 : far0.getD x.f0.toNat 0 = 0
     · rcases hM.new _ (by omega) c2 with h | ⟨h, _⟩
       · exact absurd h hd
       · rw [h]; omega
     · rw [hM.old _ (by omega) c2]
       have := (hf.rng x.f0.toNat (by omega)).resolve_left c2
       omega
theorem rings_far (hR : ∀ x ∈ R, okR t N x = true) : ∀ (k n : Nat) (far : List Int), 1 ≤ n → k + n = N + 1 → n ≤ nz far + 1 → FarK R r tm N n far → Far R r tm N (rings r tm R k n far)
 | 0, n, far, h1, hk, hz, hf => by
  have hall := nz_all far (by have := nz_le far; rw [hf.len] at this ⊢; omega)
  rw [hf.len] at hall
  refine ⟨hf.len, fun i hi => .inr ?_, hf.snd, fun x hx hs => ?_, fun x hx m hm h0 => ?_⟩
  · have := (hf.rng i hi).resolve_left (hall i hi); unfold rings; omega
  · obtain ⟨_, ha0, ha1, _⟩ := okR_sides (hR x hx)
    exact hf.shw1 (by omega) x hx hs
  · obtain ⟨_, ha0, ha1, _⟩ := okR_sides (hR x hx)
    have hmN := led_lt (hR x hx) hm
    unfold rings at h0 ⊢
    by_cases c : far.getD m 0 + 1 < (n : Int)
    · exact hf.lead x hx m hm h0 c
    · have := (hf.rng x.f0.toNat (by omega)).resolve_left (hall _ (by omega))
      have := (hf.rng m hmN).resolve_left (by omega)
      omega
 | k + 1, n, far, h1, hk, hz, hf => by
  have hM := Mid.all hf h1 hR
  unfold rings
  split
  · rename_i c
    have := hM.yes c
    exact rings_far hR k (n + 1) _ (by omega) (by omega) (by omega) (hf.next h1 hR)
  · rename_i c
    have he := hM.no (by simpa using c)
    rw [he]
    refine ⟨hf.len, fun i hi => ?_, hf.snd, fun x hx hs => ?_, fun x hx m hm h0 => ?_⟩
    · rcases hf.rng i hi with h | h
      · exact .inl h
      · right; omega
    · obtain ⟨_, ha0, ha1, _⟩ := okR_sides (hR x hx)
      by_cases c1 : 1 < n
      · exact hf.shw1 c1 x hx hs
      · obtain rfl : n = 1 := by omega
        have hd := hM.did x hx (by simp [hit, hs])
        rw [he] at hd
        have := (hf.rng x.f0.toNat (by omega)).resolve_left hd
        omega
    · obtain ⟨_, ha0, ha1, _⟩ := okR_sides (hR x hx)
      have hmN := led_lt (hR x hx) hm
      by_cases c1 : far.getD m 0 + 1 < (n : Int)
      · exact hf.lead x hx m hm h0 c1
      · have hm1 := (hf.rng m hmN).resolve_left (by omega)
        have hd := hM.did x hx (by
         simp only [hit, hm, Bool.or_eq_true, Bool.and_eq_true, decide_eq_true_eq]
         right; omega)
        rw [he] at hd
        have := (hf.rng x.f0.toNat (by omega)).resolve_left hd
        omega
theorem FarK.start : FarK R r tm N 1 (List.replicate N 0) := by
 have h0 : ∀ i, (List.replicate N (0 : Int)).getD i 0 = 0 := fun i => by
  rw [List.getD_eq_getElem?_getD, List.getElem?_replicate]; split <;> rfl
 refine ⟨by simp, fun i _ => .inl (h0 i), fun i _ h => absurd (h0 i) h, fun h => by omega, fun x _ m _ h _ => by rw [h0] at h; omega⟩
theorem farF_far (hR : ∀ x ∈ R, okR t N x = true) : Far R r tm N (farF r tm N R) :=
 rings_far hR N 1 _ (Nat.le_refl _) rfl (by omega) FarK.start
theorem hit_cases {q : Nat} {l : List Int} (h : hit r tm far q l = true) : (q = 1 ∧ shw r l = some tm) ∨ (1 < q ∧ ∃ m, led r l = some m ∧ far.getD m 0 = (q : Int) - 1) := by
 unfold hit at h
 rw [Bool.or_eq_true, Bool.and_eq_true, Bool.and_eq_true, decide_eq_true_eq, decide_eq_true_eq, decide_eq_true_eq] at h
 rcases h with h | ⟨h1, h2⟩
 · exact .inl h
 · right
   cases hm : led r l with
   | none => rw [hm] at h2; cases h2
   | some m => rw [hm] at h2; exact ⟨h1, m, rfl, of_decide_eq_true h2⟩
def idxC (r : Bool) (tm : Nat) (far : List Int) (R : List S41) (n i : Nat) : Nat := R.findIdx (fun x => decide (x.f0 = (i : Int)) && hit r tm far n x.f1)
def nextC (r : Bool) (R : List S41) (k : Nat) : Nat := match led r (R.getD k z41).f1 with | some m => m | none => 0
def walkC (r : Bool) (tm : Nat) (far : List Int) (R : List S41) : Nat → Nat → List Int
 | 0, _ => []
 | n + 1, i => ((idxC r tm far R (n + 1) i : Nat) : Int) :: walkC r tm far R n (nextC r R (idxC r tm far R (n + 1) i))
theorem idxC_lt (hf : Far R r tm N far) {i q : Nat} (hi : i < N) (hq : far.getD i 0 = (q : Int)) (h1 : 1 ≤ q) : ∃ h : idxC r tm far R q i < R.length, R[idxC r tm far R q i].f0 = (i : Int) ∧ hit r tm far q R[idxC r tm far R q i].f1 = true := by
 obtain ⟨x, hx, hxi, hh⟩ := hf.snd i hi (by omega)
 rw [hq, Int.toNat_natCast] at hh
 have hl : idxC r tm far R q i < R.length := List.findIdx_lt_length_of_exists ⟨x, hx, by simp [hxi, hh]⟩
 have := List.findIdx_getElem (p := fun x : S41 => decide (x.f0 = (i : Int)) && hit r tm far q x.f1) (xs := R) (w := hl)
 rw [Bool.and_eq_true, decide_eq_true_eq] at this
 exact ⟨hl, this⟩
theorem nextC_far (hR : ∀ x ∈ R, okR t N x = true) {k q : Nat} (hk : k < R.length) (hh : hit r tm far (q + 2) R[k].f1 = true) : nextC r R k < N ∧ far.getD (nextC r R k) 0 = ((q + 1 : Nat) : Int) ∧ led r R[k].f1 = some (nextC r R k) := by
 unfold nextC
 rw [getD_lt R k _ hk]
 rcases hit_cases hh with ⟨h, _⟩ | ⟨_, m, hm, hd⟩
 · omega
 · rw [hm]
   exact ⟨led_lt (hR _ (List.getElem_mem hk)) hm, by dsimp only; omega, rfl⟩
def IsCh (R : List S41) (r : Bool) (tm : Nat) : Nat → List Int → Prop
 | _, [] => False
 | i, k :: l => ∃ j : Nat, k = (j : Int) ∧ ∃ h : j < R.length, R[j].f0 = (i : Int) ∧ ((l = [] ∧ shw r R[j].f1 = some tm) ∨ ∃ m, led r R[j].f1 = some m ∧ IsCh R r tm m l)
theorem walkC_ch (hf : Far R r tm N far) (hR : ∀ x ∈ R, okR t N x = true) : ∀ (q i : Nat), i < N → far.getD i 0 = ((q + 1 : Nat) : Int) → IsCh R r tm i (walkC r tm far R (q + 1) i) ∧ (walkC r tm far R (q + 1) i).length = q + 1
 | 0, i, hi, hq => by
  obtain ⟨hl, h1, h2⟩ := idxC_lt hf hi hq (Nat.le_refl _)
  refine ⟨⟨_, rfl, hl, h1, .inl ⟨rfl, ?_⟩⟩, rfl⟩
  rcases hit_cases h2 with ⟨_, h⟩ | ⟨h, _⟩
  · exact h
  · omega
 | q + 1, i, hi, hq => by
  obtain ⟨hl, h1, h2⟩ := idxC_lt hf hi hq (by omega)
  obtain ⟨h3, h4, h5⟩ := nextC_far hR hl h2
  have ih := walkC_ch hf hR q _ h3 h4
  exact ⟨⟨_, rfl, hl, h1, .inr ⟨_, h5, ih.1⟩⟩, by rw [walkC, List.length_cons, ih.2]⟩
end
end Go.Proofs.YtjkifeladmhkoaaDoor.E8
/- The document's chains of chapter 8, in plain Lean: rings of nonterminals with the way to each. -/
namespace Go.Proofs.YtjkifeladmhkoaaDoor.E8
open Go.RowKit YtjkifeladmhkoaaDoorW.PrintWords YtjkifeladmhkoaaDoorW.PrintLast YtjkifeladmhkoaaDoorW.PrintMore
open B

structure Rg where
 seen : List Bool
 nx : List (Nat × List Int)
def exStep (r : Bool) (a : Nat) (p : List Int) (s : Rg) (k : Nat) (x : S41) : Rg :=
 if x.f0 = (a : Int) then
  match led r x.f1 with
  | some m => if s.seen.getD m false = true then s else ⟨s.seen.set m true, s.nx ++ [(m, p ++ [(k : Int)])]⟩
  | none => s
 else s
def exR (r : Bool) (a : Nat) (p : List Int) : List S41 → Nat → Rg → Rg
 | [], _, s => s
 | x :: l, k, s => exR r a p l (k + 1) (exStep r a p s k x)
def exA (r : Bool) (R : List S41) : List (Nat × List Int) → Rg → Rg
 | [], s => s
 | e :: l, s => exA r R l (exR r e.1 e.2 R 0 s)
def shR (r : Bool) (t a : Nat) (p : List Int) : List S41 → Nat → Option (List Int)
 | [], _ => none
 | x :: l, k => if x.f0 = (a : Int) ∧ shw r x.f1 = some t then some (p ++ [(k : Int)]) else shR r t a p l (k + 1)
def shA (r : Bool) (t : Nat) (R : List S41) : List (Nat × List Int) → Option (List Int)
 | [] => none
 | e :: l => match shR r t e.1 e.2 R 0 with
  | some q => some q
  | none => shA r t R l
def bfsC (r : Bool) (t : Nat) (R : List S41) : Nat → List Bool → List (Nat × List Int) → List Int × Int × Int
 | 0, _, _ => ([], 15, -1)
 | f + 1, seen, at_ => if at_ = [] then ([], 15, -1) else
  match shA r t R at_ with
  | some q => (q, 0, -1)
  | none => bfsC r t R f (exA r R at_ ⟨seen, []⟩).seen (exA r R at_ ⟨seen, []⟩).nx
section
variable {R : List S41} {r : Bool} {t tt N : Nat} {far : List Int}
theorem far_show (hf : Far R r t N far) {x : S41} (hx : x ∈ R) {a : Nat} (h0 : x.f0 = (a : Int)) (hs : shw r x.f1 = some t) : far.getD a 0 = 1 := by
 have := hf.shw1 x hx hs
 rwa [h0, Int.toNat_natCast] at this
theorem far_lead (hf : Far R r t N far) {x : S41} (hx : x ∈ R) {a m : Nat} (h0 : x.f0 = (a : Int)) (hl : led r x.f1 = some m) (hm : 0 < far.getD m 0) : 0 < far.getD a 0 ∧ far.getD a 0 ≤ far.getD m 0 + 1 := by
 have := hf.lead x hx m hl hm
 rwa [h0, Int.toNat_natCast] at this
theorem shR_none (hf : Far R r t N far) {a : Nat} {p : List Int} (ha : far.getD a 0 ≠ 1) : ∀ (l : List S41) (k : Nat), (∀ x ∈ l, x ∈ R) → shR r t a p l k = none
 | [], _, _ => rfl
 | x :: l, k, h => by
  unfold shR
  rw [if_neg (fun hh => ha (far_show hf (h x List.mem_cons_self) hh.1 hh.2))]
  exact shR_none hf ha l (k + 1) (fun y hy => h y (List.mem_cons_of_mem _ hy))
theorem shA_none (hf : Far R r t N far) : ∀ (l : List (Nat × List Int)), (∀ e ∈ l, far.getD e.1 0 ≠ 1) → shA r t R l = none
 | [], _ => rfl
 | e :: l, h => by
  unfold shA
  rw [shR_none hf (h e List.mem_cons_self) R 0 (fun x hx => hx)]
  exact shA_none hf l (fun y hy => h y (List.mem_cons_of_mem _ hy))
theorem shR_find {a : Nat} {p : List Int} : ∀ (l : List S41) (k : Nat), l.findIdx (fun x => decide (x.f0 = (a : Int)) && hit r t far 1 x.f1) < l.length → shR r t a p l k = some (p ++ [((k + l.findIdx (fun x => decide (x.f0 = (a : Int)) && hit r t far 1 x.f1) : Nat) : Int)])
 | [], k, h => by simp at h
 | x :: l, k, h => by
  unfold shR
  have hh : hit r t far 1 x.f1 = decide (shw r x.f1 = some t) := by simp [hit]
  rw [List.findIdx_cons] at h ⊢
  by_cases c : x.f0 = (a : Int) ∧ shw r x.f1 = some t
  · rw [if_pos c, hh, decide_eq_true c.1, decide_eq_true c.2]; simp
  · have hc : (decide (x.f0 = (a : Int)) && hit r t far 1 x.f1) = false := by
     rw [hh]
     by_cases c1 : x.f0 = (a : Int)
     · rw [decide_eq_false (fun c2 => c ⟨c1, c2⟩), Bool.and_false]
     · rw [decide_eq_false c1, Bool.false_and]
    rw [hc] at h ⊢
    rw [if_neg c]
    simp only [cond_false] at h ⊢
    rw [shR_find l (k + 1) (by rw [List.length_cons] at h; omega)]
    congr 3
    omega
def Ph1 (far : List Int) (q : Nat) (s : Rg) : Prop := (∀ v, s.seen.getD v false = true → far.getD v 0 = 0 ∨ (q : Int) + 2 ≤ far.getD v 0) ∧ ∀ e ∈ s.nx, s.seen.getD e.1 false = true
def Ph2 (R : List S41) (r : Bool) (t : Nat) (far : List Int) (N q : Nat) (W : List Int) (s : Rg) : Prop :=
 (∀ v, s.seen.getD v false = true → far.getD v 0 = 0 ∨ (q : Int) + 1 ≤ far.getD v 0) ∧ (∀ e ∈ s.nx, s.seen.getD e.1 false = true) ∧
 ∃ pre a p post, s.nx = pre ++ (a, p) :: post ∧ (∀ e ∈ pre, far.getD e.1 0 ≠ (q : Int) + 1) ∧ a < N ∧ far.getD a 0 = (q : Int) + 1 ∧ p ++ walkC r t far R (q + 1) a = W
theorem seen_set {l : List Bool} {m v : Nat} (h : (l.set m true).getD v false = true) : v = m ∨ l.getD v false = true := by
 rw [getD_set] at h
 split at h
 · rename_i c; exact .inl c.1.symm
 · exact .inr h
theorem seen_keep {l : List Bool} {m v : Nat} (h : l.getD v false = true) : (l.set m true).getD v false = true := by
 rw [getD_set]
 split
 · rfl
 · exact h
theorem seen_new {l : List Bool} {m : Nat} (h : m < l.length) : (l.set m true).getD m false = true := by rw [getD_set, if_pos ⟨rfl, h⟩]
theorem exStep_len (a : Nat) (p : List Int) (s : Rg) (k : Nat) (x : S41) : (exStep r a p s k x).seen.length = s.seen.length := by
 unfold exStep
 split
 · split
   · split
     · rfl
     · simp
   · rfl
 · rfl
theorem ph1_step (hf : Far R r t N far) {q a k : Nat} {p : List Int} {x : S41} {s : Rg} (hx : x ∈ R) (hok : okR tt N x = true) (hs : s.seen.length = N) (h : Ph1 far q s) (ha : far.getD a 0 = 0 ∨ (q : Int) + 2 ≤ far.getD a 0) (hn : ¬ (x.f0 = (a : Int) ∧ hit r t far (q + 2) x.f1 = true ∧ far.getD a 0 = (q : Int) + 2)) (ha3 : far.getD a 0 = 0 ∨ far.getD a 0 = (q : Int) + 2 ∨ (q : Int) + 3 ≤ far.getD a 0) : Ph1 far q (exStep r a p s k x) := by
 unfold exStep
 split
 · rename_i h0
   split
   · rename_i m hm
     split
     · exact h
     · have hmN := led_lt hok hm
       refine ⟨fun v hv => ?_, fun e he => ?_⟩
       · rcases seen_set hv with rfl | hv
         · by_cases c : 0 < far.getD v 0
           · obtain ⟨g1, g2⟩ := far_lead hf hx h0 hm c
             right
             rcases ha3 with g | g | g
             · omega
             · have hnh : far.getD v 0 ≠ (q : Int) + 1 := by
                intro e
                refine hn ⟨h0, ?_, g⟩
                unfold hit
                rw [hm]
                have : decide (far.getD v 0 = ((q + 2 : Nat) : Int) - 1) = true := decide_eq_true (by omega)
                dsimp only
                rw [this]; simp
               omega
             · omega
           · left
             rcases hf.rng v hmN with g | g <;> omega
         · exact h.1 v hv
       · rcases List.mem_append.1 he with he | he
         · exact seen_keep (h.2 e he)
         · obtain rfl := List.mem_singleton.1 he
           exact seen_new (by rw [hs]; exact hmN)
   · exact h
 · exact h
theorem ph2_step (hf : Far R r t N far) {q a k : Nat} {p W : List Int} {x : S41} {s : Rg} (hx : x ∈ R) (hok : okR tt N x = true) (hs : s.seen.length = N) (h : Ph2 R r t far N q W s) (ha : far.getD a 0 = 0 ∨ (q : Int) + 2 ≤ far.getD a 0) : Ph2 R r t far N q W (exStep r a p s k x) := by
 unfold exStep
 split
 · rename_i h0
   split
   · rename_i m hm
     split
     · exact h
     · have hmN := led_lt hok hm
       obtain ⟨h1, h2, pre, b, pb, post, e0, e1, e2, e3, e4⟩ := h
       refine ⟨fun v hv => ?_, fun e he => ?_, pre, b, pb, post ++ [(m, p ++ [(k : Int)])], by simp [e0], e1, e2, e3, e4⟩
       · rcases seen_set hv with rfl | hv
         · by_cases c : 0 < far.getD v 0
           · obtain ⟨g1, g2⟩ := far_lead hf hx h0 hm c
             right
             omega
           · left
             rcases hf.rng v hmN with g | g <;> omega
         · exact h1 v hv
       · rcases List.mem_append.1 he with he | he
         · exact seen_keep (h2 e he)
         · obtain rfl := List.mem_singleton.1 he
           exact seen_new (by rw [hs]; exact hmN)
   · exact h
 · exact h
theorem ph1_exR (hf : Far R r t N far) {q a : Nat} {p : List Int} (ha : far.getD a 0 = 0 ∨ (q : Int) + 3 ≤ far.getD a 0) : ∀ (l : List S41) (k : Nat) (s : Rg), (∀ x ∈ l, x ∈ R ∧ okR tt N x = true) → s.seen.length = N → Ph1 far q s → Ph1 far q (exR r a p l k s) ∧ (exR r a p l k s).seen.length = N
 | [], _, s, _, hs, h => ⟨h, hs⟩
 | x :: l, k, s, hl, hs, h => by
  unfold exR
  have hx := hl x List.mem_cons_self
  exact ph1_exR hf ha l (k + 1) _ (fun y hy => hl y (List.mem_cons_of_mem _ hy)) (by rw [exStep_len]; exact hs) (ph1_step hf hx.1 hx.2 hs h (by omega) (fun c => by omega) (by omega))
theorem ph2_exR (hf : Far R r t N far) {q a : Nat} {p W : List Int} (ha : far.getD a 0 = 0 ∨ (q : Int) + 2 ≤ far.getD a 0) : ∀ (l : List S41) (k : Nat) (s : Rg), (∀ x ∈ l, x ∈ R ∧ okR tt N x = true) → s.seen.length = N → Ph2 R r t far N q W s → Ph2 R r t far N q W (exR r a p l k s) ∧ (exR r a p l k s).seen.length = N
 | [], _, s, _, hs, h => ⟨h, hs⟩
 | x :: l, k, s, hl, hs, h => by
  unfold exR
  have hx := hl x List.mem_cons_self
  exact ph2_exR hf ha l (k + 1) _ (fun y hy => hl y (List.mem_cons_of_mem _ hy)) (by rw [exStep_len]; exact hs) (ph2_step hf hx.1 hx.2 hs h ha)
theorem ph12_exR (hf : Far R r t N far) {q a : Nat} {p W : List Int} (ha : far.getD a 0 = (q : Int) + 2) : ∀ (l : List S41) (k : Nat) (s : Rg), R.drop k = l → (∀ x ∈ R, okR tt N x = true) → s.seen.length = N → Ph1 far q s → l.findIdx (fun x => decide (x.f0 = (a : Int)) && hit r t far (q + 2) x.f1) < l.length →
 p ++ ((k + l.findIdx (fun x => decide (x.f0 = (a : Int)) && hit r t far (q + 2) x.f1) : Nat) : Int) :: walkC r t far R (q + 1) (nextC r R (k + l.findIdx (fun x => decide (x.f0 = (a : Int)) && hit r t far (q + 2) x.f1))) = W →
 Ph2 R r t far N q W (exR r a p l k s) ∧ (exR r a p l k s).seen.length = N
 | [], _, s, _, _, _, _, h, _ => by simp at h
 | x :: l, k, s, hd, hR, hs, h1, h, hW => by
  have hk : k < R.length := by
   rcases Nat.lt_or_ge k R.length with g | g
   · exact g
   · rw [List.drop_of_length_le g] at hd; cases hd
  have hcons := List.drop_eq_getElem_cons hk
  rw [hd] at hcons
  injection hcons with hx0 hl0
  have hxR : x ∈ R := by rw [hx0]; exact List.getElem_mem hk
  have hlR : ∀ y ∈ l, y ∈ R ∧ okR tt N y = true := fun y hy => by
   have : y ∈ R := List.mem_of_mem_drop (by rw [hl0] at hy; exact hy)
   exact ⟨this, hR y this⟩
  unfold exR
  rw [List.findIdx_cons] at h hW
  by_cases c : (decide (x.f0 = (a : Int)) && hit r t far (q + 2) x.f1) = true
  · rw [c] at h hW
    simp only [cond_true, Nat.add_zero] at h hW
    rw [Bool.and_eq_true, decide_eq_true_eq] at c
    obtain ⟨h0, hh⟩ := c
    have hh' : hit r t far (q + 2) R[k].f1 = true := by rw [← hx0]; exact hh
    obtain ⟨n1, n2, n3⟩ := nextC_far hR hk hh'
    rw [← hx0] at n3
    have hnew : s.seen.getD (nextC r R k) false = false := by
     cases hsn : s.seen.getD (nextC r R k) false with
     | false => rfl
     | true => rcases h1.1 _ hsn with g | g <;> omega
    have hstep : exStep r a p s k x = ⟨s.seen.set (nextC r R k) true, s.nx ++ [(nextC r R k, p ++ [(k : Int)])]⟩ := by
     unfold exStep
     rw [if_pos h0, n3]
     dsimp only
     rw [hnew]; rfl
    refine ph2_exR hf (by omega) l (k + 1) _ hlR (by rw [exStep_len]; exact hs) ?_
    rw [hstep]
    refine ⟨fun v hv => ?_, fun e he => ?_, s.nx, nextC r R k, p ++ [(k : Int)], [], rfl, fun e he => ?_, n1, by rw [n2]; omega, by rw [List.append_assoc]; exact hW⟩
    · rcases seen_set hv with rfl | hv
      · right; omega
      · rcases h1.1 v hv with g | g
        · exact .inl g
        · right; omega
    · rcases List.mem_append.1 he with he | he
      · exact seen_keep (h1.2 e he)
      · obtain rfl := List.mem_singleton.1 he
        exact seen_new (by rw [hs]; exact n1)
    · rcases h1.1 _ (h1.2 e he) with g | g <;> omega
  · rw [Bool.not_eq_true] at c
    rw [c] at h hW
    simp only [cond_false] at h hW
    refine ph12_exR hf ha l (k + 1) _ hl0.symm hR (by rw [exStep_len]; exact hs) (ph1_step hf hxR (hR x hxR) hs h1 (by omega) (fun g => ?_) (by omega)) (by rw [List.length_cons] at h; omega) ?_
    · rw [decide_eq_true g.1, g.2.1] at c; cases c
    · have e : k + 1 + l.findIdx (fun x => decide (x.f0 = (a : Int)) && hit r t far (q + 2) x.f1) = k + (l.findIdx (fun x => decide (x.f0 = (a : Int)) && hit r t far (q + 2) x.f1) + 1) := by omega
      rw [e]; exact hW
theorem ph1_exA (hf : Far R r t N far) (hR : ∀ x ∈ R, okR tt N x = true) {q : Nat} : ∀ (l : List (Nat × List Int)) (s : Rg), (∀ e ∈ l, far.getD e.1 0 = 0 ∨ (q : Int) + 3 ≤ far.getD e.1 0) → s.seen.length = N → Ph1 far q s → Ph1 far q (exA r R l s) ∧ (exA r R l s).seen.length = N
 | [], s, _, hs, h => ⟨h, hs⟩
 | e :: l, s, he, hs, h => by
  unfold exA
  obtain ⟨g1, g2⟩ := ph1_exR hf (he e List.mem_cons_self) (p := e.2) R 0 s (fun x hx => ⟨hx, hR x hx⟩) hs h
  exact ph1_exA hf hR l _ (fun y hy => he y (List.mem_cons_of_mem _ hy)) g2 g1
theorem ph2_exA (hf : Far R r t N far) (hR : ∀ x ∈ R, okR tt N x = true) {q : Nat} {W : List Int} : ∀ (l : List (Nat × List Int)) (s : Rg), (∀ e ∈ l, far.getD e.1 0 = 0 ∨ (q : Int) + 2 ≤ far.getD e.1 0) → s.seen.length = N → Ph2 R r t far N q W s → Ph2 R r t far N q W (exA r R l s) ∧ (exA r R l s).seen.length = N
 | [], s, _, hs, h => ⟨h, hs⟩
 | e :: l, s, he, hs, h => by
  unfold exA
  obtain ⟨g1, g2⟩ := ph2_exR hf (he e List.mem_cons_self) (p := e.2) R 0 s (fun x hx => ⟨hx, hR x hx⟩) hs h
  exact ph2_exA hf hR l _ (fun y hy => he y (List.mem_cons_of_mem _ hy)) g2 g1
theorem exA_append (l l' : List (Nat × List Int)) (s : Rg) : exA r R (l ++ l') s = exA r R l' (exA r R l s) := by
 induction l generalizing s with
 | nil => rfl
 | cons e l ih => exact ih _
theorem shA_append_none {l l' : List (Nat × List Int)} (h : shA r t R l = none) : shA r t R (l ++ l') = shA r t R l' := by
 induction l with
 | nil => rfl
 | cons e l ih =>
  have e1 : shA r t R (e :: l) = match shR r t e.1 e.2 R 0 with | some q => some q | none => shA r t R l := rfl
  have e2 : shA r t R (e :: l ++ l') = match shR r t e.1 e.2 R 0 with | some q => some q | none => shA r t R (l ++ l') := rfl
  rw [e1] at h
  rw [e2]
  cases he : shR r t e.1 e.2 R 0 with
  | some q => rw [he] at h; cases h
  | none => rw [he] at h; exact ih h
theorem bfsC_chain (hf : Far R r t N far) (hR : ∀ x ∈ R, okR tt N x = true) : ∀ (q f : Nat) (seen : List Bool) (at_ : List (Nat × List Int)) (W : List Int), q + 1 ≤ f → seen.length = N → Ph2 R r t far N q W ⟨seen, at_⟩ → bfsC r t R f seen at_ = (W, 0, -1) := by
 intro q
 induction q with
 | zero =>
  intro f seen at_ W hq hs ⟨h1, h2, pre, a, p, post, e0, e1, e2, e3, e4⟩
  obtain ⟨f, rfl⟩ : ∃ g, f = g + 1 := ⟨f - 1, by omega⟩
  obtain ⟨hl, g1, g2⟩ := idxC_lt hf (q := 1) e2 (by omega) (Nat.le_refl _)
  unfold bfsC
  dsimp only at e0
  subst e0
  rw [if_neg (by simp), shA_append_none (shA_none hf pre (fun e he => by have := e1 e he; simpa using this))]
  unfold shA
  rw [shR_find (far := far) R 0 hl]
  dsimp only
  rw [← e4]
  simp only [walkC, Nat.zero_add]
  rfl
 | succ q ih =>
  intro f seen at_ W hq hs ⟨h1, h2, pre, a, p, post, e0, e1, e2, e3, e4⟩
  obtain ⟨f, rfl⟩ : ∃ g, f = g + 1 := ⟨f - 1, by omega⟩
  dsimp only at e0 h1 h2
  subst e0
  have hall : ∀ e ∈ pre ++ (a, p) :: post, far.getD e.1 0 = 0 ∨ (q : Int) + 2 ≤ far.getD e.1 0 := fun e he => by
   rcases h1 _ (h2 e he) with g | g
   · exact .inl g
   · right; omega
  unfold bfsC
  rw [if_neg (by simp), shA_none hf _ (fun e he => by rcases hall e he with g | g <;> omega)]
  dsimp only
  obtain ⟨hl, g1, g2⟩ := idxC_lt hf (q := q + 2) e2 (by omega) (by omega)
  have hp1 : Ph1 far q ⟨seen, []⟩ := ⟨fun v hv => by
   rcases h1 v hv with g | g
   · exact .inl g
   · right; omega, fun e he => by cases he⟩
  rw [exA_append]
  obtain ⟨a1, a2⟩ := ph1_exA hf hR pre ⟨seen, []⟩ (fun e he => by
   have g := e1 e he
   rcases hall e (List.mem_append_left _ he) with g' | g'
   · exact .inl g'
   · right; omega) hs hp1
  obtain ⟨b1, b2⟩ := ph12_exR (tt := tt) (p := p) (W := W) hf (a := a) (q := q) (by omega) R 0 _ List.drop_zero hR a2 a1 hl (by rw [Nat.zero_add, ← e4]; rfl)
  have hpost : exA r R ((a, p) :: post) (exA r R pre ⟨seen, []⟩) = exA r R post (exR r a p R 0 (exA r R pre ⟨seen, []⟩)) := rfl
  rw [hpost]
  obtain ⟨c1, c2⟩ := ph2_exA hf hR post _ (fun e he => hall e (List.mem_append_right _ (List.mem_cons_of_mem _ he))) b2 b1
  exact ih f _ _ W (by omega) c2 c1
def Ph0 (far : List Int) (s : Rg) : Prop := (∀ v, s.seen.getD v false = true → far.getD v 0 = 0) ∧ ∀ e ∈ s.nx, s.seen.getD e.1 false = true
theorem ph0_exR (hf : Far R r t N far) {a : Nat} {p : List Int} (ha : far.getD a 0 = 0) : ∀ (l : List S41) (k : Nat) (s : Rg), (∀ x ∈ l, x ∈ R ∧ okR tt N x = true) → s.seen.length = N → Ph0 far s → Ph0 far (exR r a p l k s) ∧ (exR r a p l k s).seen.length = N
 | [], _, s, _, hs, h => ⟨h, hs⟩
 | x :: l, k, s, hl, hs, h => by
  unfold exR
  have hx := hl x List.mem_cons_self
  refine ph0_exR hf ha l (k + 1) _ (fun y hy => hl y (List.mem_cons_of_mem _ hy)) (by rw [exStep_len]; exact hs) ?_
  unfold exStep
  split
  · rename_i h0
    split
    · rename_i m hm
      split
      · exact h
      · have hmN := led_lt hx.2 hm
        refine ⟨fun v hv => ?_, fun e he => ?_⟩
        · rcases seen_set hv with rfl | hv
          · by_cases c : 0 < far.getD v 0
            · have := far_lead hf hx.1 h0 hm c
              omega
            · rcases hf.rng v hmN with g | g <;> omega
          · exact h.1 v hv
        · rcases List.mem_append.1 he with he | he
          · exact seen_keep (h.2 e he)
          · obtain rfl := List.mem_singleton.1 he
            exact seen_new (by rw [hs]; exact hmN)
    · exact h
  · exact h
theorem ph0_exA (hf : Far R r t N far) (hR : ∀ x ∈ R, okR tt N x = true) : ∀ (l : List (Nat × List Int)) (s : Rg), (∀ e ∈ l, far.getD e.1 0 = 0) → s.seen.length = N → Ph0 far s → Ph0 far (exA r R l s) ∧ (exA r R l s).seen.length = N
 | [], s, _, hs, h => ⟨h, hs⟩
 | e :: l, s, he, hs, h => by
  unfold exA
  obtain ⟨g1, g2⟩ := ph0_exR hf (he e List.mem_cons_self) (p := e.2) R 0 s (fun x hx => ⟨hx, hR x hx⟩) hs h
  exact ph0_exA hf hR l _ (fun y hy => he y (List.mem_cons_of_mem _ hy)) g2 g1
theorem bfsC_none (hf : Far R r t N far) (hR : ∀ x ∈ R, okR tt N x = true) : ∀ (f : Nat) (seen : List Bool) (at_ : List (Nat × List Int)), seen.length = N → Ph0 far ⟨seen, at_⟩ → bfsC r t R f seen at_ = ([], 15, -1)
 | 0, _, _, _, _ => rfl
 | f + 1, seen, at_, hs, h => by
  unfold bfsC
  by_cases c : at_ = []
  · rw [if_pos c]
  · have h0 : ∀ e ∈ at_, far.getD e.1 0 = 0 := fun e he => h.1 _ (h.2 e he)
    rw [if_neg c, shA_none hf _ (fun e he => by rw [h0 e he]; decide)]
    dsimp only
    obtain ⟨g1, g2⟩ := ph0_exA hf hR at_ ⟨seen, []⟩ h0 hs ⟨h.1, fun e he => by cases he⟩
    exact bfsC_none hf hR f _ _ g2 g1
end
end Go.Proofs.YtjkifeladmhkoaaDoor.E8
/- gram.Check: what it answers, whatever the grammar. -/
namespace Go.Proofs.YtjkifeladmhkoaaDoor.B
open Go.RowKit YtjkifeladmhkoaaDoorW.PrintWords YtjkifeladmhkoaaDoorW.PrintLast YtjkifeladmhkoaaDoorW.PrintMore

def Sents (ad : Int → Addr) (w : World) : Prop := w.cell? ⟨3, 0, none⟩ = some (.iface 190 (.pointer (some (ad 3)))) ∧ w.cell? ⟨10, 0, none⟩ = some (.iface 190 (.pointer (some (ad 10)))) ∧ w.cell? ⟨0, 0, none⟩ = some (.iface 190 (.pointer (some (ad 1))))
theorem Sents.below {ad : Int → Addr} {w w' : World} (h : Sents ad w) (hb : Below w.heap.size w w') : Sents ad w' :=
 ⟨(hb.cell (World.block_lt_of_cell? w _ h.1)).trans h.1, (hb.cell (World.block_lt_of_cell? w _ h.2.1)).trans h.2.1, (hb.cell (World.block_lt_of_cell? w _ h.2.2)).trans h.2.2⟩
def checkR (t n : Nat) (x : S41) : Int := if 32 < x.f1.length then 3 else if x.f0 < 0 ∨ (n : Int) ≤ x.f0 ∨ x.f1.any (outS t n) = true then 1 else 0
def chkRs (t n : Nat) : List S41 → Nat → Int × Int
 | [], _ => (0, -1)
 | x :: l, j => if checkR t n x = 0 then chkRs t n l (j + 1) else (checkR t n x, (j : Int))
theorem chkRs_drop (t n : Nat) (R : List S41) (j : Nat) (h : j < R.length) : chkRs t n (R.drop j) j = if checkR t n R[j] = 0 then chkRs t n (R.drop (j + 1)) (j + 1) else (checkR t n R[j], (j : Int)) := by
 rw [List.drop_eq_getElem_cons h, chkRs]
def chk (b0 b1 : Bool) (l0 l1 : Nat) (a2 : Int) (R : List S41) : Int × Int :=
 if 60 < l0 + l1 ∨ 120 < R.length then (3, -1) else if (b0 && b1) = false then (10, -1) else if a2 < 0 ∨ (l1 : Int) ≤ a2 then (1, -1) else chkRs l0 l1 R 0
theorem checkR_cases (t n : Nat) (x : S41) : checkR t n x = 0 ∧ okR t n x = true ∨ (checkR t n x = 3 ∨ checkR t n x = 1) ∧ okR t n x = false := by
 unfold checkR okR
 by_cases c1 : 32 < x.f1.length
 · rw [if_pos c1]; right; simp; omega
 · rw [if_neg c1]
   by_cases c2 : x.f0 < 0 ∨ (n : Int) ≤ x.f0 ∨ x.f1.any (outS t n) = true
   · rw [if_pos c2]; right
     refine ⟨.inr rfl, ?_⟩
     rcases c2 with c | c | c
     · simp [show ¬ (0 ≤ x.f0) from by omega]
     · simp [show ¬ (x.f0 < (n : Int)) from by omega]
     · simp [c]
   · rw [if_neg c2]; left
     simp only [not_or, Bool.not_eq_true] at c2
     refine ⟨rfl, ?_⟩
     simp [c2.2.2, show x.f1.length ≤ 32 from by omega, show 0 ≤ x.f0 from by omega, show x.f0 < (n : Int) from by omega]
def ErrV (ad : Int → Addr) (w : World) (v : Value) (p : Int × Int) : Prop :=
 (p.1 = 0 ∧ p.2 = -1 ∧ v = .nilIface) ∨ ((p.1 = 3 ∨ p.1 = 10 ∨ p.1 = 1) ∧ p.2 = -1 ∧ v = .iface 190 (.pointer (some (ad p.1)))) ∨
 ((p.1 = 3 ∨ p.1 = 1) ∧ 0 ≤ p.2 ∧ p.2 < 120 ∧ ∃ b, v = .iface 119 (.pointer (some ⟨b, 0, none⟩)) ∧ w.heap[b]? = some (.cells #[.int .i64 p.2, .iface 190 (.pointer (some (ad p.1)))] 123 (0, 0)))
def CheckPost (ad : Int → Addr) (w : World) (p : Int × Int) (e : Ending) (w' : World) : Prop := (∃ v, e = .returned v ∧ ErrV ad w' v p) ∧ Below w.heap.size w w'
theorem ErrV.nil {ad : Int → Addr} {w : World} {v : Value} {p : Int × Int} (h : ErrV ad w v p) (h0 : p.1 = 0) : v = .nilIface := by
 rcases h with h | h | h
 · exact h.2.2
 · rcases h.1 with h | h | h <;> omega
 · rcases h.1 with h | h <;> omega
theorem ErrV.some {ad : Int → Addr} {w : World} {v : Value} {p : Int × Int} (h : ErrV ad w v p) (h0 : p.1 ≠ 0) : ∃ t u, v = .iface t u := by
 rcases h with h | h | h
 · exact absurd h.1 h0
 · exact ⟨_, _, h.2.2⟩
 · obtain ⟨_, _, _, b, h, _⟩ := h; exact ⟨_, _, h⟩
theorem ErrV.below {ad : Int → Addr} {w w' : World} {v : Value} {p : Int × Int} (h : ErrV ad w v p) (hb : Below w.heap.size w w') : ErrV ad w' v p := by
 rcases h with h | h | ⟨h1, h2, h3, b, hv, hx⟩
 · exact .inl h
 · exact .inr (.inl h)
 · exact .inr (.inr ⟨h1, h2, h3, b, hv, Box.below (W := w) (W' := w') hx hb⟩)
def ruleV (ad : Int → Addr) (c : Int) : Value := if c = 0 then .nilIface else .iface 190 (.pointer (some (ad c)))

set_option maxHeartbeats 1000000 in
set_option maxRecDepth 100000 in
theorem Rule_full (ad : Int → Addr) (A0 : Option Addr) (c0 t : Nat) (A1 : Option Addr) (c1 n : Nat) (a2 : Int) (v3 : Value) (x : S41) (A : Option Addr) (c : Nat) (w : World) (hg : Sents ad w) (ht : t ≤ 60) (hn : n ≤ 60) (hr : Kd.C (Kd.int .i64) w A x.f1.length x.f1) (hc : x.f1.length ≤ c) :
 Calls Tryd.prog 82 #[.agg #[.slice A0 t c0, .slice A1 n c1, .int .i64 a2, v3], .agg #[.int .i64 x.f0, .slice A x.f1.length c]] w fun e w' => e = .returned (ruleV ad (checkR t n x)) ∧ Below w.heap.size w w' := by
 obtain ⟨x0, x1⟩ := x
 dsimp only at hr hc ⊢
 have hB1 := (Box.new w #[.slice A0 t c0, .slice A1 n c1, .int .i64 a2, v3] 32).alloc (.cells #[.int .i64 x0, .slice A x1.length c] 41)
 have hb : Below w.heap.size w ((w.alloc (.cells #[.slice A0 t c0, .slice A1 n c1, .int .i64 a2, v3] 32)).alloc (.cells #[.int .i64 x0, .slice A x1.length c] 41)) := ((Below.refl _ w).alloc (Nat.le_refl _) _).alloc (by simp) _
 have hcall := ContS_calls A x1 c w.heap.size t n c0 c1 A0 A1 _ ht hn (hB1.cell 0 _ rfl) (hB1.cell 1 _ rfl) (Kd.C_below hr hb) hc
 obtain ⟨h0, h1, h2⟩ := hg.below hb
 have HB := Aside0.mk hb
 have H0 : ∀ w', Below ((w.alloc (.cells #[.slice A0 t c0, .slice A1 n c1, .int .i64 a2, v3] 32)).alloc (.cells #[.int .i64 x0, .slice A x1.length c] 41)).heap.size ((w.alloc (.cells #[.slice A0 t c0, .slice A1 n c1, .int .i64 a2, v3] 32)).alloc (.cells #[.int .i64 x0, .slice A x1.length c] 41)) w' → w'.cell? ⟨0, 0, none⟩ = some (.iface 190 (.pointer (some (ad 1)))) := fun w' hb' => (hb'.cell (World.block_lt_of_cell? _ _ h2)).trans h2
 by_cases k1 : x1.length ≤ 32
 · have b1 : decide ((32 : Int) < x1.length) = false := decide_eq_false (by omega)
   have b1' : decide (32 < x1.length) = false := decide_eq_false (by omega)
   by_cases k2 : x0 < 0
   · have b2 : decide (x0 < 0) = true := decide_eq_true k2
     have HE := Lib.hid (show ruleV ad (checkR t n ⟨x0, x1⟩) = .iface 190 (.pointer (some (ad 1))) by simp [ruleV, checkR, show ¬ 32 < x1.length from by omega, k2])
     clear hr hcall hB1 hb H0
     go_enter Tryd.func82, Tryd.ntmps82
     go_wp2_with fail
     go_ret
     exact ⟨by rw [HE.out]; rfl, HB.out⟩
   · have b2 : decide (x0 < 0) = false := decide_eq_false k2
     by_cases k3 : (n : Int) ≤ x0
     · have b3 : decide ((n : Int) ≤ x0) = true := decide_eq_true k3
       have HE := Lib.hid (show ruleV ad (checkR t n ⟨x0, x1⟩) = .iface 190 (.pointer (some (ad 1))) by simp [ruleV, checkR, show ¬ 32 < x1.length from by omega, k3])
       clear hr hcall hB1 hb H0
       go_enter Tryd.func82, Tryd.ntmps82
       go_wp2_with fail
       go_ret
       exact ⟨by rw [HE.out]; rfl, HB.out⟩
     · have b3 : decide ((n : Int) ≤ x0) = false := decide_eq_false k3
       cases hany : x1.any (outS t n) with
       | true =>
        rw [hany] at hcall
        have HE := Lib.hid (show ruleV ad (checkR t n ⟨x0, x1⟩) = .iface 190 (.pointer (some (ad 1))) by simp [ruleV, checkR, hany, show ¬ 32 < x1.length from by omega])
        have HC := Aside0.mk hcall
        have HH := Aside0.mk H0
        clear hr hcall hB1 hb hany H0
        go_enter Tryd.func82, Tryd.ntmps82
        go_wp2_with (go_at_call 102; (with_reducible refine HC.out.mono ?_); rintro e w' ⟨rfl, hb'⟩; have q2 := HH.out _ hb')
        go_ret
        exact ⟨by rw [HE.out]; rfl, HB.out.trans (hb'.mono HB.out.size)⟩
       | false =>
        rw [hany] at hcall
        have HE := Lib.hid (show ruleV ad (checkR t n ⟨x0, x1⟩) = .nilIface by simp [ruleV, checkR, hany, show ¬ 32 < x1.length from by omega, k2, k3])
        have HC := Aside0.mk hcall
        clear hr hcall hB1 hb hany H0
        go_enter Tryd.func82, Tryd.ntmps82
        go_wp2_with (go_at_call 102; (with_reducible refine HC.out.mono ?_); rintro e w' ⟨rfl, hb'⟩)
        go_ret
        exact ⟨by rw [HE.out]; rfl, HB.out.trans (hb'.mono HB.out.size)⟩
 · have b1 : decide ((32 : Int) < x1.length) = true := decide_eq_true (by omega)
   have b1' : decide (32 < x1.length) = true := decide_eq_true (by omega)
   have HE := Lib.hid (show ruleV ad (checkR t n ⟨x0, x1⟩) = .iface 190 (.pointer (some (ad 3))) by simp [ruleV, checkR, show 32 < x1.length from by omega])
   clear hr hcall hB1 hb H0
   go_enter Tryd.func82, Tryd.ntmps82
   go_wp2_with fail
   go_ret
   exact ⟨by rw [HE.out]; rfl, HB.out⟩
set_option maxHeartbeats 1500000 in
set_option maxRecDepth 100000 in
theorem Check_full (ad : Int → Addr) (k : Nat) (A0 : Option Addr) (c0 : Nat) (l0 : List ByteArray) (A1 : Option Addr) (c1 : Nat) (l1 : List ByteArray) (a2 : Int) (A3 : Option Addr) (c3 : Nat) (l3 : List S41) (b0 b1 : Bool) (w : World) (hG : Sents ad w) (hr0 : Kd.C Kd.string w A0 l0.length l0) (hc0 : l0.length ≤ c0) (hr1 : Kd.C Kd.string w A1 l1.length l1) (hc1 : l1.length ≤ c1) (hr3 : Kd.C k41 w A3 l3.length l3) (hc3 : l3.length ≤ c3)
 (hn0 : gram_names.f k l0 = some b0) (hn1 : gram_names.f k l1 = some b1) :
 Calls Tryd.prog 52 #[.agg #[.slice A0 l0.length c0, .slice A1 l1.length c1, .int .i64 a2, .slice A3 l3.length c3]] w (CheckPost ad w (chk b0 b1 l0.length l1.length a2 l3)) := by
 obtain ⟨x0, x1, x2⟩ := id hG
 obtain ⟨Tw, hT⟩ : ∃ Tw : World → Prop, ∀ W, Tw W ↔ (Below w.heap.size w W ∧ Box w.heap.size #[.slice A0 l0.length c0, .slice A1 l1.length c1, .int .i64 a2, .slice A3 l3.length c3] 32 W) := ⟨_, fun _ => Iff.rfl⟩
 have start : Tw (w.alloc (.cells #[.slice A0 l0.length c0, .slice A1 l1.length c1, .int .i64 a2, .slice A3 l3.length c3] 32)) := (hT _).2 ⟨(Below.refl _ w).alloc (Nat.le_refl _) _, Box.new w _ _⟩
 have cells : ∀ W, Tw W → W.cell? ⟨w.heap.size, 0, none⟩ = some (.slice A0 l0.length c0) ∧ W.cell? ⟨w.heap.size, 1, none⟩ = some (.slice A1 l1.length c1) ∧ W.cell? ⟨w.heap.size, 2, none⟩ = some (.int .i64 a2) ∧ W.cell? ⟨w.heap.size, 3, none⟩ = some (.slice A3 l3.length c3) ∧ W.cell? ⟨3, 0, none⟩ = some (.iface 190 (.pointer (some (ad 3)))) ∧ W.cell? ⟨10, 0, none⟩ = some (.iface 190 (.pointer (some (ad 10)))) ∧ W.cell? ⟨0, 0, none⟩ = some (.iface 190 (.pointer (some (ad 1)))) := by
  intro W hW
  have hb := ((hT W).1 hW).1
  have h3' := ((hT W).1 hW).2
  exact ⟨h3'.cell 0 _ rfl, h3'.cell 1 _ rfl, h3'.cell 2 _ rfl, h3'.cell 3 _ rfl, (hb.cell (World.block_lt_of_cell? w _ x0)).trans x0, (hb.cell (World.block_lt_of_cell? w _ x1)).trans x1, (hb.cell (World.block_lt_of_cell? w _ x2)).trans x2⟩
 have more : ∀ W W', Tw W → Below W.heap.size W W' → Tw W' := fun W W' h hb => (hT W').2 ⟨((hT W).1 h).1.trans (hb.mono ((hT W).1 h).1.size), ((hT W).1 h).2.below hb⟩
 have last : ∀ W, Tw W → Below w.heap.size w W := fun W h => ((hT W).1 h).1
 clear hT
 have key0 : ∀ W, Tw W → Calls Tryd.prog 81 #[.slice A0 l0.length c0] W fun e W => e = .returned (.bool b0) ∧ Aside0 (Tw W) ∧ W.cell? ⟨w.heap.size, 0, none⟩ = some (.slice A0 l0.length c0) ∧ W.cell? ⟨w.heap.size, 1, none⟩ = some (.slice A1 l1.length c1) ∧ W.cell? ⟨w.heap.size, 2, none⟩ = some (.int .i64 a2) ∧ W.cell? ⟨w.heap.size, 3, none⟩ = some (.slice A3 l3.length c3) ∧ W.cell? ⟨3, 0, none⟩ = some (.iface 190 (.pointer (some (ad 3)))) ∧ W.cell? ⟨10, 0, none⟩ = some (.iface 190 (.pointer (some (ad 10)))) ∧ W.cell? ⟨0, 0, none⟩ = some (.iface 190 (.pointer (some (ad 1)))) := by
  intro W hW
  refine (gram_names.calls k A0 c0 l0 b0 W (Kd.C_below hr0 (last W hW)) hc0 hn0).mono ?_
  rintro e w' ⟨he, hd⟩
  have := more W w' hW hd.below
  exact ⟨he, ⟨this⟩, cells _ this⟩
 have key1 : ∀ W, Tw W → Calls Tryd.prog 81 #[.slice A1 l1.length c1] W fun e W => e = .returned (.bool b1) ∧ Aside0 (Tw W) ∧ W.cell? ⟨w.heap.size, 0, none⟩ = some (.slice A0 l0.length c0) ∧ W.cell? ⟨w.heap.size, 1, none⟩ = some (.slice A1 l1.length c1) ∧ W.cell? ⟨w.heap.size, 2, none⟩ = some (.int .i64 a2) ∧ W.cell? ⟨w.heap.size, 3, none⟩ = some (.slice A3 l3.length c3) ∧ W.cell? ⟨3, 0, none⟩ = some (.iface 190 (.pointer (some (ad 3)))) ∧ W.cell? ⟨10, 0, none⟩ = some (.iface 190 (.pointer (some (ad 10)))) ∧ W.cell? ⟨0, 0, none⟩ = some (.iface 190 (.pointer (some (ad 1)))) := by
  intro W hW
  refine (gram_names.calls k A1 c1 l1 b1 W (Kd.C_below hr1 (last W hW)) hc1 hn1).mono ?_
  rintro e w' ⟨he, hd⟩
  have := more W w' hW hd.below
  exact ⟨he, ⟨this⟩, cells _ this⟩
 obtain ⟨s0, s1, s2, s3, s4, s5, s6⟩ := cells _ start
 have HR3 := Aside0.mk hr3
 have ST := Aside0.mk start
 have CE := Aside0.mk cells
 have MO := Aside0.mk more
 have LA := Aside0.mk last
 clear hr0 hr1 hr3 start cells more last hn0 hn1
 by_cases d1 : l0.length ≤ 60
 rotate_left
 · have e1 : decide ((60 : Int) < l0.length) = true := decide_eq_true (by omega)
   have e1' : decide (60 < l0.length) = true := decide_eq_true (by omega)
   clear key0 key1
   have HE := Lib.hid (show chk b0 b1 l0.length l1.length a2 l3 = (3, -1) by simp [chk, show 60 < l0.length + l1.length from by omega])
   go_enter Tryd.func52, Tryd.ntmps52
   go_wp2_with fail
   go_ret
   exact ⟨⟨_, rfl, by rw [HE.out]; exact .inr (.inl ⟨by simp, rfl, rfl⟩)⟩, LA.out _ ST.out⟩
 have e1 : decide ((60 : Int) < l0.length) = false := decide_eq_false (by omega)
 have e1' : decide (60 < l0.length) = false := decide_eq_false (by omega)
 by_cases d2 : l0.length + l1.length ≤ 60
 rotate_left
 · have e2 : decide ((60 : Int) - l0.length < l1.length) = true := decide_eq_true (by omega)
   clear key0 key1
   have HE := Lib.hid (show chk b0 b1 l0.length l1.length a2 l3 = (3, -1) by simp [chk, show 60 < l0.length + l1.length from by omega])
   go_enter Tryd.func52, Tryd.ntmps52
   go_wp2_with fail
   go_ret
   exact ⟨⟨_, rfl, by rw [HE.out]; exact .inr (.inl ⟨by simp, rfl, rfl⟩)⟩, LA.out _ ST.out⟩
 have e2 : decide ((60 : Int) - l0.length < l1.length) = false := decide_eq_false (by omega)
 by_cases d3 : l3.length ≤ 120
 rotate_left
 · have e3 : decide ((120 : Int) < l3.length) = true := decide_eq_true (by omega)
   have e3' : decide (120 < l3.length) = true := decide_eq_true (by omega)
   clear key0 key1
   have HE := Lib.hid (show chk b0 b1 l0.length l1.length a2 l3 = (3, -1) by simp [chk, show 120 < l3.length from by omega])
   go_enter Tryd.func52, Tryd.ntmps52
   go_wp2_with fail
   go_ret
   exact ⟨⟨_, rfl, by rw [HE.out]; exact .inr (.inl ⟨by simp, rfl, rfl⟩)⟩, LA.out _ ST.out⟩
 have e3 : decide ((120 : Int) < l3.length) = false := decide_eq_false (by omega)
 have e3' : decide (120 < l3.length) = false := decide_eq_false (by omega)
 have K0 := Aside0.mk key0
 have K1 := Aside0.mk key1
 clear key0 key1
 cases b0
 · skip
   have HE := Lib.hid (show chk false b1 l0.length l1.length a2 l3 = (10, -1) by simp [chk, show ¬ 60 < l0.length + l1.length from by omega, show ¬ 120 < l3.length from by omega])
   go_enter Tryd.func52, Tryd.ntmps52
   go_wp2_with (first | (go_at_call 81; (with_reducible refine (K0.out _ ST.out).mono ?_); rintro e w1 ⟨rfl, z1, f0, f1, f2, f3, f4, f5, f6⟩))
   go_ret
   exact ⟨⟨_, rfl, by rw [HE.out]; exact .inr (.inl ⟨by simp, rfl, rfl⟩)⟩, LA.out _ z1.out⟩
 cases b1
 · skip
   have HE := Lib.hid (show chk true false l0.length l1.length a2 l3 = (10, -1) by simp [chk, show ¬ 60 < l0.length + l1.length from by omega, show ¬ 120 < l3.length from by omega])
   go_enter Tryd.func52, Tryd.ntmps52
   go_wp2_with (first | (go_at_call 81; (with_reducible refine (K0.out _ ST.out).mono ?_); rintro e w1 ⟨rfl, z1, f0, f1, f2, f3, f4, f5, f6⟩) | (go_at_call 81; (with_reducible refine (K1.out _ z1.out).mono ?_); rintro e w2 ⟨rfl, z2, g0, g1, g2, g3, g4, g5, g6⟩))
   go_ret
   exact ⟨⟨_, rfl, by rw [HE.out]; exact .inr (.inl ⟨by simp, rfl, rfl⟩)⟩, LA.out _ z2.out⟩
 by_cases d4 : a2 < 0
 · have e4 : decide (a2 < 0) = true := decide_eq_true d4
   have HE := Lib.hid (show chk true true l0.length l1.length a2 l3 = (1, -1) by simp [chk, show ¬ 60 < l0.length + l1.length from by omega, show ¬ 120 < l3.length from by omega, d4])
   go_enter Tryd.func52, Tryd.ntmps52
   go_wp2_with (first | (go_at_call 81; (with_reducible refine (K0.out _ ST.out).mono ?_); rintro e w1 ⟨rfl, z1, f0, f1, f2, f3, f4, f5, f6⟩) | (go_at_call 81; (with_reducible refine (K1.out _ z1.out).mono ?_); rintro e w2 ⟨rfl, z2, g0, g1, g2, g3, g4, g5, g6⟩))
   go_ret
   exact ⟨⟨_, rfl, by rw [HE.out]; exact .inr (.inl ⟨by simp, rfl, rfl⟩)⟩, LA.out _ z2.out⟩
 have e4 : decide (a2 < 0) = false := decide_eq_false d4
 by_cases d5 : (l1.length : Int) ≤ a2
 · have e5 : decide ((l1.length : Int) ≤ a2) = true := decide_eq_true d5
   have HE := Lib.hid (show chk true true l0.length l1.length a2 l3 = (1, -1) by simp [chk, show ¬ 60 < l0.length + l1.length from by omega, show ¬ 120 < l3.length from by omega, d5])
   go_enter Tryd.func52, Tryd.ntmps52
   go_wp2_with (first | (go_at_call 81; (with_reducible refine (K0.out _ ST.out).mono ?_); rintro e w1 ⟨rfl, z1, f0, f1, f2, f3, f4, f5, f6⟩) | (go_at_call 81; (with_reducible refine (K1.out _ z1.out).mono ?_); rintro e w2 ⟨rfl, z2, g0, g1, g2, g3, g4, g5, g6⟩))
   go_ret
   exact ⟨⟨_, rfl, by rw [HE.out]; exact .inr (.inl ⟨by simp, rfl, rfl⟩)⟩, LA.out _ z2.out⟩
 have e5 : decide ((l1.length : Int) ≤ a2) = false := decide_eq_false d5
 have HE := Lib.hid (show chk true true l0.length l1.length a2 l3 = chkRs l0.length l1.length l3 0 by simp [chk, show ¬ 60 < l0.length + l1.length from by omega, show ¬ 120 < l3.length from by omega, d4, d5])
 go_enter Tryd.func52, Tryd.ntmps52
 go_wp2_with (first | (go_at_call 81; (with_reducible refine (K0.out _ ST.out).mono ?_); rintro e w1 ⟨rfl, z1, f0, f1, f2, f3, f4, f5, f6⟩) | (go_at_call 81; (with_reducible refine (K1.out _ z1.out).mono ?_); rintro e w2 ⟨rfl, z2, g0, g1, g2, g3, g4, g5, g6⟩))
 go_loopw [3, 4, 5, 53] (fun _ _ _ i wr => ∃ j : Nat, j ≤ l3.length ∧ i = .int .i64 j ∧ Aside0 (Tw wr) ∧ Hid (chkRs l0.length l1.length (l3.drop j) j = chkRs l0.length l1.length l3 0)) (fun _ _ _ i _ => l3.length - (intOf i).toNat)
 case atStart => exact ⟨0, Nat.zero_le _, rfl, z2, Lib.hid rfl⟩
 case round =>
  obtain ⟨j, hj, rfl, htw, hok⟩ := hrel
  clear f0 f1 f2 f3 f4 f5 f6 g0 g1 g2 g3 g4 g5 g6 s0 s1 s2 s3 s4 s5 s6
  by_cases hlt : j < l3.length
  · obtain ⟨f0, f1, f2, f3, f4, f5, f6⟩ := CE.out wr htw.out
    obtain ⟨ad', A, cc, rfl, h0, h1, h2, h3⟩ := at_T41 (Kd.C_below HR3.out (LA.out wr htw.out)) (j : Int) (by omega) (by omega)
    have q0 : rd_T41 l3 (j : Int) = l3[j] := by simp [rd_T41, List.getD_eq_getElem?_getD, List.getElem?_eq_getElem hlt]
    have hn := chkRs_drop l0.length l1.length l3 j hlt
    rw [Int.toNat_natCast] at h0 h1
    rw [q0] at h0 h1 h2 h3
    generalize l3[j] = x at h0 h1 h2 h3 hn
    have hGr : Sents ad wr := ⟨f4, f5, f6⟩
    have f0a := fun o => Lib.cell?_alloc_some o f0
    have f1a := fun o => Lib.cell?_alloc_some o f1
    have f2a := fun o => Lib.cell?_alloc_some o f2
    have f3a := fun o => Lib.cell?_alloc_some o f3
    have hcall : ∀ W, Below wr.heap.size wr W → Calls Tryd.prog 82 #[.agg #[.slice A0 l0.length c0, .slice A1 l1.length c1, .int .i64 a2, .slice (some ad') l3.length c3], .agg #[.int .i64 x.f0, .slice A x.f1.length cc]] W fun e w' => e = .returned (ruleV ad (checkR l0.length l1.length x)) ∧ Aside0 (Tw w') := by
     intro W hW
     refine (Rule_full ad A0 c0 l0.length A1 c1 l1.length a2 _ x A cc W (hGr.below hW) (by omega) (by omega) (Kd.C_below h3 hW) h2).mono ?_
     rintro e w' ⟨he, hb⟩
     exact ⟨he, ⟨MO.out _ _ (MO.out _ _ htw.out hW) hb⟩⟩
    by_cases hq : checkR l0.length l1.length x = 0
    · rw [if_pos hq] at hn
      rw [hq, show ruleV ad 0 = .nilIface from rfl] at hcall
      have HC := Aside0.mk hcall
      have HN := Lib.hid hn
      clear hcall h3 q0 hq hn hGr
      go_wp2_with (go_at_call 82; (with_reducible refine (HC.out _ ((Below.refl _ wr).alloc (Nat.le_refl _) _)).mono ?_); rintro e w' ⟨rfl, t3⟩)
      go_roundw
      case measure => simp [intOf]; omega
      case rel => exact ⟨j + 1, by omega, rfl, t3, Lib.hid (HN.out.symm.trans hok.out)⟩
    · rw [if_neg hq] at hn
      have hc : checkR l0.length l1.length x = 3 ∨ checkR l0.length l1.length x = 1 := (checkR_cases l0.length l1.length x).elim (fun h => absurd h.1 hq) (fun h => h.1)
      rw [show ruleV ad (checkR l0.length l1.length x) = .iface 190 (.pointer (some (ad (checkR l0.length l1.length x)))) from if_neg hq] at hcall
      generalize checkR l0.length l1.length x = c at hcall hn hc
      have HC := Aside0.mk hcall
      have HN := Lib.hid (hn.symm.trans hok.out)
      have HCC := Aside0.mk hc
      clear hcall h3 q0 hq hn hGr hc
      go_wp2_with (go_at_call 82; (with_reducible refine (HC.out _ ((Below.refl _ wr).alloc (Nat.le_refl _) _)).mono ?_); rintro e w' ⟨rfl, t3⟩)
      go_ret
      exact ⟨⟨_, rfl, by rw [HE.out, ← HN.out]; exact .inr (.inr ⟨HCC.out, by simp, by simp; omega, _, rfl, heap_alloc_new _ _⟩)⟩, (LA.out _ t3.out).alloc (LA.out _ t3.out).size _⟩
  · have hjn : j = l3.length := by omega
    subst hjn
    have HN := Lib.hid (show chkRs l0.length l1.length l3 0 = (0, -1) by have := hok.out; rw [List.drop_length] at this; exact this.symm)
    go_wp2_with fail
    go_ret
    exact ⟨⟨_, rfl, by rw [HE.out, HN.out]; exact .inl ⟨rfl, rfl, rfl⟩⟩, LA.out _ htw.out⟩
theorem chkRs_ok (t n : Nat) : ∀ (R : List S41) (j : Nat), (chkRs t n R j).1 = 0 → ∀ x ∈ R, okR t n x = true
 | [], _, _, x, hx => by cases hx
 | y :: R, j, h, x, hx => by
  unfold chkRs at h
  rcases checkR_cases t n y with ⟨h0, hok⟩ | ⟨h0, _⟩
  · rw [if_pos h0] at h
    rcases List.mem_cons.1 hx with rfl | hx
    · exact hok
    · exact chkRs_ok t n R (j + 1) h x hx
  · rw [if_neg (by rcases h0 with h0 | h0 <;> omega)] at h
    rcases h0 with h0 | h0 <;> (dsimp only at h; omega)
theorem chk_ok {b0 b1 : Bool} {n0 n1 : Nat} {a2 : Int} {R : List S41} (h : (chk b0 b1 n0 n1 a2 R).1 = 0) : n0 + n1 ≤ 60 ∧ R.length ≤ 120 ∧ b0 = true ∧ b1 = true ∧ 0 ≤ a2 ∧ a2 < (n1 : Int) ∧ ∀ x ∈ R, okR n0 n1 x = true := by
 unfold chk at h
 split at h
 · simp at h
 · split at h
   · simp at h
   · split at h
     · simp at h
     · rename_i h1 h2 h3
       simp only [Bool.and_eq_false_iff, not_or, Bool.not_eq_false] at h2
       exact ⟨by omega, by omega, h2.1, h2.2, by omega, by omega, chkRs_ok _ _ R 0 h⟩
end Go.Proofs.YtjkifeladmhkoaaDoor.B
/- Names: their places, and which lists of names are right. -/
namespace Go.Proofs.YtjkifeladmhkoaaDoor.B
open Go.RowKit YtjkifeladmhkoaaDoorW.PrintWords YtjkifeladmhkoaaDoorW.PrintLast YtjkifeladmhkoaaDoorW.PrintMore

theorem toL_eq (a b : ByteArray) : a.toList = b.toList ↔ a = b := by
 constructor
 · intro h
   rw [ByteArray.toList_eq, ByteArray.toList_eq] at h
   have := Array.ext' h
   cases a; cases b; simp_all
 · rintro rfl; rfl

def place (l : List ByteArray) (s : ByteArray) (i : Nat) : Int := if (l.drop i).findIdx (fun x => decide (s = x)) < (l.drop i).length then ((i + (l.drop i).findIdx (fun x => decide (s = x)) : Nat) : Int) else -1
theorem place_end (l : List ByteArray) (s : ByteArray) : place l s l.length = -1 := by simp [place]
theorem place_step (l : List ByteArray) (s : ByteArray) (i : Nat) (h : i < l.length) : place l s i = if s = l[i] then (i : Int) else place l s (i + 1) := by
 unfold place
 rw [List.drop_eq_getElem_cons h, List.findIdx_cons, List.length_cons]
 by_cases c : s = l[i]
 · rw [if_pos c, decide_eq_true c, cond_true, if_pos (by omega)]; rfl
 · rw [if_neg c, decide_eq_false c, cond_false]
   by_cases c2 : (l.drop (i + 1)).findIdx (fun x => decide (s = x)) < (l.drop (i + 1)).length
   · rw [if_pos (by omega), if_pos c2]; congr 1; omega
   · rw [if_neg (by omega), if_neg c2]
theorem place_nonneg (l : List ByteArray) (s : ByteArray) : 0 ≤ place l s 0 ↔ s ∈ l := by
 have : (l.findIdx (fun x => decide (s = x)) < l.length) ↔ s ∈ l := by
  rw [List.findIdx_lt_length]; simp
 unfold place
 rw [List.drop_zero, ← this]
 split <;> omega
theorem Index_l (l : List ByteArray) (s : ByteArray) (hm : l.length ≤ 9223372036854775807) : ∀ (d i k : Nat), l.length - i = d → i ≤ l.length → d < k → slices_Index_string_string.l0 k l s (l.length : Int) (i : Int) = some (place l s i) := by
 intro d
 induction d with
 | zero =>
  intro i k hi hle hk
  obtain ⟨k, rfl⟩ : ∃ j, k = j + 1 := ⟨k - 1, by omega⟩
  have : i = l.length := by omega
  subst this
  rw [slices_Index_string_string.l0, if_neg (by omega), place_end]
 | succ d ih =>
  intro i k hi hle hk
  obtain ⟨k, rfl⟩ : ∃ j, k = j + 1 := ⟨k - 1, by omega⟩
  have hlt : i < l.length := by omega
  rw [slices_Index_string_string.l0, if_pos (by omega), if_pos (by omega), if_pos (by omega), rdS_D, getD_lt _ _ _ hlt, place_step l s i hlt]
  by_cases c : s = l[i]
  · rw [if_pos ((toL_eq _ _).2 c), if_pos c]
  · rw [if_neg (fun h => c ((toL_eq _ _).1 h)), if_neg c, w64 i (by omega), ih (i + 1) k (by omega) (by omega) (by omega)]
theorem Index_f (l : List ByteArray) (s : ByteArray) (k : Nat) (hm : l.length ≤ 9223372036854775807) (hk : l.length < k) : slices_Index_string_string.f k l s = some (place l s 0) := by
 unfold slices_Index_string_string.f
 have := Index_l l s hm l.length 0 k (by omega) (by omega) hk
 simpa using this
def faultAt (l : List ByteArray) (i : Nat) : Bool := decide ((l.getD i ByteArray.empty).size = 0) || decide (32 < (l.getD i ByteArray.empty).size) || (l.take i).any (fun x => decide (l.getD i ByteArray.empty = x))
def namesOK (l : List ByteArray) : Bool := (List.range l.length).all fun i => !faultAt l i
def namesFrom (l : List ByteArray) (i : Nat) : Bool := (List.range' i (l.length - i)).all fun i => !faultAt l i
theorem namesFrom_zero (l : List ByteArray) : namesFrom l 0 = namesOK l := by simp [namesFrom, namesOK, List.range_eq_range']
theorem namesFrom_step (l : List ByteArray) (i : Nat) (h : i < l.length) : namesFrom l i = (!faultAt l i && namesFrom l (i + 1)) := by
 unfold namesFrom
 rw [show l.length - i = (l.length - (i + 1)) + 1 from by omega, List.range'_succ, List.all_cons]
theorem namesFrom_end (l : List ByteArray) : namesFrom l l.length = true := by simp [namesFrom]

theorem NameFault_f (l : List ByteArray) (i k : Nat) (h : i < l.length) (hm : l.length ≤ 9223372036854775807) (hk : l.length < k) : gram_nameFault.f k l (i : Int) = some (faultAt l i) := by
 unfold gram_nameFault.f faultAt slices_Contains_string_string.f
 rw [if_pos (by omega), if_pos (by omega), rdS_D, Int.toNat_natCast]
 generalize l.getD i ByteArray.empty = s
 by_cases c1 : s.size = 0
 · rw [if_pos (by omega)]; simp [c1]
 · rw [if_neg (by omega)]
   by_cases c2 : 32 < s.size
   · rw [if_pos (by omega)]; simp [c2]
   · rw [if_neg (by omega), if_pos (by omega), Index_f _ s k (by rw [List.length_take]; omega) (by rw [List.length_take]; omega), Option.bind_some, Option.bind_some]
     cases c3 : (l.take i).any (fun x => decide (s = x)) with
     | true =>
      have : s ∈ l.take i := by
       obtain ⟨x, hx, he⟩ := List.any_eq_true.1 c3
       rw [of_decide_eq_true he]; exact hx
      rw [if_pos (decide_eq_true ((place_nonneg (l.take i) s).2 this)), Bool.or_true]
     | false =>
      have : ¬ s ∈ l.take i := fun hs => by
       have := List.any_eq_false.1 c3 s hs
       simp at this
      rw [if_neg (by rw [decide_eq_true_eq]; exact fun h => this ((place_nonneg (l.take i) s).1 h)), decide_eq_false c1, decide_eq_false c2]; rfl
theorem Names_l (l : List ByteArray) (hm : l.length ≤ 9223372036854775807) : ∀ (d i k : Nat), l.length - i = d → i ≤ l.length → d + l.length + 1 < k → gram_names.l0 k l (l.length : Int) (i : Int) = some (namesFrom l i) := by
 intro d
 induction d with
 | zero =>
  intro i k hi hle hk
  obtain ⟨k, rfl⟩ : ∃ j, k = j + 1 := ⟨k - 1, by omega⟩
  have : i = l.length := by omega
  subst this
  rw [gram_names.l0, if_neg (by omega), namesFrom_end]
 | succ d ih =>
  intro i k hi hle hk
  obtain ⟨k, rfl⟩ : ∃ j, k = j + 1 := ⟨k - 1, by omega⟩
  have hlt : i < l.length := by omega
  rw [gram_names.l0, if_pos (by omega), NameFault_f l i k hlt hm (by omega), Option.bind_some, namesFrom_step l i hlt]
  cases hf : faultAt l i with
  | true => rw [if_pos rfl]; rfl
  | false => rw [if_neg (by decide), w64 i (by omega), ih (i + 1) k (by omega) (by omega) (by omega)]; rfl
theorem Names_f (l : List ByteArray) (k : Nat) (hm : l.length ≤ 9223372036854775807) (hk : l.length + l.length + 1 < k) : gram_names.f k l = some (namesOK l) := by
 unfold gram_names.f
 have := Names_l l hm l.length 0 k (by omega) (by omega) hk
 rw [namesFrom_zero] at this
 simpa using this
end Go.Proofs.YtjkifeladmhkoaaDoor.B
namespace Go.Proofs.YtjkifeladmhkoaaDoor.B
open Go.RowKit YtjkifeladmhkoaaDoorW.PrintWords YtjkifeladmhkoaaDoorW.PrintLast YtjkifeladmhkoaaDoorW.PrintMore
attribute [local go_sem] max2_int min2_int max_two min_two max_three min_three max_four min_four   -- for this text's walks alone
set_option linter.unusedVariables false
set_option linter.unusedSimpArgs false

mutual
def dovetailref03_named.l0 : Nat → List ByteArray → Int → Option (Bool)
 | 0, _, _ => none
 | k + 1, x0, x3 => if x3 < (x0.length : Int) then (if 0 ≤ x3 then (if ((rdOf ByteArray.empty x0 x3).size : Int) = 0 then (dovetailref03_named.j1 k x0 x3 true) else (dovetailref03_named.j1 k x0 x3 (decide (((rdOf ByteArray.empty x0 x3).size : Int) > 32)))) else (none)) else (some true)
def dovetailref03_named.j1 : Nat → List ByteArray → Int → Bool → Option (Bool)
 | 0, _, _, _ => none
 | k + 1, x0, x3, x24 => if x24 = true then (some false) else (dovetailref03_named.l1 k x0 x3 0)
def dovetailref03_named.l1 : Nat → List ByteArray → Int → Int → Option (Bool)
 | 0, _, _, _ => none
 | k + 1, x0, x3, x4 => if x4 < x3 then (if 0 ≤ x4 then (if x4 < (x0.length : Int) then (if 0 ≤ x3 then (if x3 < (x0.length : Int) then (if (rdOf ByteArray.empty x0 x4).toList = (rdOf ByteArray.empty x0 x3).toList then (some false) else (dovetailref03_named.l1 k x0 x3 (wrap64 (x4 + 1)))) else (none)) else (none)) else (none)) else (none)) else (dovetailref03_named.l0 k x0 (wrap64 (x3 + 1)))
end
def dovetailref03_named.f (k : Nat) (l0 : List ByteArray) : Option (Bool) := dovetailref03_named.l0 k l0 0
theorem dovetailref03_named.mono_l : ∀ k, (∀ y0 y1, LeO (dovetailref03_named.l0 k y0 y1) (dovetailref03_named.l0 (k + 1) y0 y1)) ∧ (∀ y0 y1 y2, LeO (dovetailref03_named.j1 k y0 y1 y2) (dovetailref03_named.j1 (k + 1) y0 y1 y2)) ∧ (∀ y0 y1 y2, LeO (dovetailref03_named.l1 k y0 y1 y2) (dovetailref03_named.l1 (k + 1) y0 y1 y2))
 | 0 => ⟨fun _ _ r h => by simp [dovetailref03_named.l0] at h, fun _ _ _ r h => by simp [dovetailref03_named.j1] at h, fun _ _ _ r h => by simp [dovetailref03_named.l1] at h⟩
 | k + 1 => by
  obtain ⟨ih0, ih1, ih2⟩ := dovetailref03_named.mono_l k
  refine ⟨?_, ?_, ?_⟩
  · intro y0 y1
    unfold dovetailref03_named.l0
    repeat' first
    | (with_reducible exact ih0 _ _)
    | (with_reducible exact ih1 _ _ _)
    | (with_reducible exact ih2 _ _ _)
    | (with_reducible exact LeO.refl _)
    | (with_reducible exact LeO.none _)
    | (with_reducible refine LeO.ite ?_ ?_)
    | (with_reducible refine LeO.bind ?_ (fun _ => ?_))
    | exact ih0 _ _
    | exact ih1 _ _ _
    | exact ih2 _ _ _
    | exact LeO.none _
    | refine LeO.ite ?_ ?_
    | refine LeO.bind ?_ (fun _ => ?_)
  · intro y0 y1 y2
    unfold dovetailref03_named.j1
    repeat' first
    | (with_reducible exact ih0 _ _)
    | (with_reducible exact ih1 _ _ _)
    | (with_reducible exact ih2 _ _ _)
    | (with_reducible exact LeO.refl _)
    | (with_reducible exact LeO.none _)
    | (with_reducible refine LeO.ite ?_ ?_)
    | (with_reducible refine LeO.bind ?_ (fun _ => ?_))
    | exact ih0 _ _
    | exact ih1 _ _ _
    | exact ih2 _ _ _
    | exact LeO.none _
    | refine LeO.ite ?_ ?_
    | refine LeO.bind ?_ (fun _ => ?_)
  · intro y0 y1 y2
    unfold dovetailref03_named.l1
    repeat' first
    | (with_reducible exact ih0 _ _)
    | (with_reducible exact ih1 _ _ _)
    | (with_reducible exact ih2 _ _ _)
    | (with_reducible exact LeO.refl _)
    | (with_reducible exact LeO.none _)
    | (with_reducible refine LeO.ite ?_ ?_)
    | (with_reducible refine LeO.bind ?_ (fun _ => ?_))
    | exact ih0 _ _
    | exact ih1 _ _ _
    | exact ih2 _ _ _
    | exact LeO.none _
    | refine LeO.ite ?_ ?_
    | refine LeO.bind ?_ (fun _ => ?_)
theorem dovetailref03_named.mono : ∀ a0 k, LeO (dovetailref03_named.f k a0) (dovetailref03_named.f (k + 1) a0) := by
 intro a0 k
 obtain ⟨ih0, ih1, ih2⟩ := dovetailref03_named.mono_l k
 unfold dovetailref03_named.f
 repeat' first
  | (with_reducible exact ih0 _ _)
  | (with_reducible exact ih1 _ _ _)
  | (with_reducible exact ih2 _ _ _)
  | (with_reducible exact LeO.refl _)
  | (with_reducible exact LeO.none _)
  | (with_reducible refine LeO.ite ?_ ?_)
  | (with_reducible refine LeO.bind ?_ (fun _ => ?_))
  | exact ih0 _ _
  | exact ih1 _ _ _
  | exact ih2 _ _ _
  | exact LeO.none _
  | refine LeO.ite ?_ ?_
  | refine LeO.bind ?_ (fun _ => ?_)
set_option maxHeartbeats 8000000 in
set_option maxRecDepth 100000 in
theorem dovetailref03_named.calls (k : Nat) (A0 : Option Addr) (c0 : Nat) (l0 : List ByteArray) (r : Bool) (w : World) (hr0 : Kd.C Kd.string w A0 l0.length l0) (hc0 : l0.length ≤ c0) (h : dovetailref03_named.f k l0 = some r) :
 Calls Tryd.prog 89 #[.slice A0 l0.length c0] w fun e w' => e = .returned (.bool r) ∧ Drawn0 w w' := by
 have HR0 := Aside0.mk hr0
 have HC0 := Aside0.mk hc0
 clear hr0 hc0
 have H : (dovetailref03_named.l0 k l0 0) = some r := h
 clear h
 have H' := Aside0.mk H
 clear H
 go_enter Tryd.func89, Tryd.ntmps89
 go_wp2
 repeat (go_quiet (fail); try go_wp2)
 go_loopg [3] k (fun kq v3 w' => ∃ (x3_1 : Int), v3 = .int .i64 x3_1 ∧ Aside0 (dovetailref03_named.l0 kq l0 x3_1 = some r) ∧ Aside0 (kq ≤ k) ∧ Drawn0 w w')
 case atStart => exact ⟨(0), (by first | rfl | (simp; done) | (simp [*]; done)), H', ⟨Nat.le_refl _⟩, by repeat (first | exact Drawn0.refl _ | apply Drawn0.step)⟩
 case round =>
  clear H'
  obtain ⟨x3_1, rfl, HA, HK1, ⟨m1, rfl⟩⟩ := hrel
  cases gk with
  | zero => exact absurd HA.out (by simp [dovetailref03_named.l0])
  | succ k1 =>
   have H := HA.out
   clear HA
   simp only [dovetailref03_named.l0] at H
   by_cases c2 : x3_1 < (l0.length : Int)
   · rw [if_pos c2] at H
     have c2b0 : decide (x3_1 < (l0.length : Int)) = true := decide_eq_true c2
     clear c2
     have HC3 := Aside0.mk H
     clear H
     go_upto_region 4 with (fail)
     repeat (go_quiet (fail); go_upto_region 4 with (fail))
     go_cut [24] (fun v24 wc => ∃ (kq : Nat) (x24_2 : Bool), v24 = .bool x24_2 ∧ Aside0 (dovetailref03_named.j1 kq l0 x3_1 x24_2 = some r) ∧ Aside0 (kq ≤ k1) ∧ Drawn0 w wc)
     case first =>
      have H := HC3.out
      clear HC3
      by_cases c4 : 0 ≤ x3_1
      · rw [if_pos c4] at H
        have c4b0 : decide (0 ≤ x3_1) = true := decide_eq_true c4
        clear c4
        (first | rw [c4b0] | (simp only [i64_w, i32_w]; rw [c4b0]) | skip)
        by_cases c5 : ((rdOf ByteArray.empty l0 x3_1).size : Int) = 0
        · rw [if_pos c5] at H
          have c5b0 : (((rdOf ByteArray.empty l0 x3_1).size : Int) == 0) = true := beq_iff_eq.mpr c5
          have c5b1 : (((rdOf ByteArray.empty l0 x3_1).size : Int) != 0) = false := bne_eq_false_iff_eq.mpr c5
          clear c5
          have H' := Aside0.mk H
          clear H
          have p173 : 0 ≤ (x3_1 : Int) := of_decide_eq_true (by first | (with_reducible assumption) | assumption)
          have q173 : x3_1 < (l0.length : Int) := of_decide_eq_true (by first | (with_reducible assumption) | assumption)
          obtain ⟨ad173, e173, hx173_0⟩ := Kd.at_string HR0.out x3_1 p173 q173
          cases e173
          replace p173 := eq_true p173
          replace q173 := eq_true q173
          go_wp2
          repeat (go_quiet (fail); try go_wp2)
          go_meet
          case rel => exact ⟨_, (true), (by first | rfl | (simp; done) | (simp [*]; done)), H', ⟨by have := HK1.out; first | omega | exact Nat.le_refl _⟩, by repeat (first | exact Drawn0.refl _ | apply Drawn0.step)⟩
        · rw [if_neg c5] at H
          have c5b0 : (((rdOf ByteArray.empty l0 x3_1).size : Int) == 0) = false := beq_eq_false_iff_ne.mpr c5
          have c5b1 : (((rdOf ByteArray.empty l0 x3_1).size : Int) != 0) = true := bne_iff_ne.mpr c5
          have H' := Aside0.mk H
          clear H
          have p173 : 0 ≤ (x3_1 : Int) := of_decide_eq_true (by first | (with_reducible assumption) | assumption)
          have q173 : x3_1 < (l0.length : Int) := of_decide_eq_true (by first | (with_reducible assumption) | assumption)
          obtain ⟨ad173, e173, hx173_0⟩ := Kd.at_string HR0.out x3_1 p173 q173
          cases e173
          replace p173 := eq_true p173
          replace q173 := eq_true q173
          have p174 : 0 ≤ (x3_1 : Int) := of_decide_eq_true (by first | (with_reducible assumption) | assumption)
          have q174 : x3_1 < (l0.length : Int) := of_decide_eq_true (by first | (with_reducible assumption) | assumption)
          obtain ⟨ad174, e174, hx174_0⟩ := Kd.at_string HR0.out x3_1 p174 q174
          obtain rfl : ad173 = ad174 := (by injection e174)
          replace p174 := eq_true p174
          replace q174 := eq_true q174
          go_wp2
          repeat (go_quiet (fail); try go_wp2)
          go_meet
          case rel => exact ⟨_, (decide (((rdOf ByteArray.empty l0 x3_1).size : Int) > 32)), (by first | rfl | (simp; done) | (simp [*]; done)), H', ⟨by have := HK1.out; first | omega | exact Nat.le_refl _⟩, by repeat (first | exact Drawn0.refl _ | apply Drawn0.step)⟩
      · rw [if_neg c4] at H
        exact absurd H (by simp)
     case rest =>
      clear HC3
      try clear p1
      try clear q1
      try clear hx1
      try clear c2
      try clear c2b0
      try clear p2
      try clear c4
      try clear c4b0
      try clear c5
      try clear c5b0
      try clear c5b1
      try clear hx173_0
      try clear hx174_0
      try clear p173
      try clear p174
      try clear q173
      try clear q174
      obtain ⟨kq, x24_2, rfl, HA, HJ2, ⟨mc2, rfl⟩⟩ := hcut
      cases kq with
      | zero => exact absurd HA.out (by simp [dovetailref03_named.j1])
      | succ kj2 =>
       have H := HA.out
       clear HA
       simp only [dovetailref03_named.j1] at H
       by_cases c6 : x24_2 = true
       · subst c6
         have H1 : (some false) = some r := by rw [if_pos rfl] at H; exact H
         clear H
         have H := H1
         clear H1
         obtain rfl := Option.some.inj H
         go_wp2
         repeat (go_quiet (fail); try go_wp2)
         go_ret
         exact ⟨by first | rfl | (simp; done) | (simp [*]; done), by repeat (first | exact Drawn0.refl _ | apply Drawn0.step)⟩
       · replace c6 := Bool.eq_false_iff.mpr c6
         subst c6
         have H1 : (dovetailref03_named.l1 kj2 l0 x3_1 0) = some r := by rw [if_neg (show ¬ (false = true) by decide)] at H; exact H
         clear H
         have H := H1
         clear H1
         have H' := Aside0.mk H
         clear H
         go_wp2
         repeat (go_quiet (fail); try go_wp2)
         go_loopg [4] kj2 (fun kq v4 w' => ∃ (x4_3 : Int), v4 = .int .i64 x4_3 ∧ Aside0 (dovetailref03_named.l1 kq l0 x3_1 x4_3 = some r) ∧ Aside0 (kq ≤ kj2) ∧ Drawn0 w w')
         case atStart => exact ⟨(0), (by first | rfl | (simp; done) | (simp [*]; done)), H', ⟨Nat.le_refl _⟩, by repeat (first | exact Drawn0.refl _ | apply Drawn0.step)⟩
         case round =>
          clear H'
          try clear p1
          try clear q1
          try clear hx1
          try clear c2
          try clear c2b0
          try clear p2
          try clear c4
          try clear c4b0
          try clear c5
          try clear c5b0
          try clear c5b1
          try clear c6
          try clear hx173_0
          try clear hx174_0
          try clear p1
          try clear p173
          try clear p174
          try clear p2
          try clear q1
          try clear q173
          try clear q174
          obtain ⟨x4_3, rfl, HA, HK3, ⟨m3, rfl⟩⟩ := hrel
          cases gk with
          | zero => exact absurd HA.out (by simp [dovetailref03_named.l1])
          | succ k3 =>
           have H := HA.out
           clear HA
           simp only [dovetailref03_named.l1] at H
           by_cases c7 : x4_3 < x3_1
           · rw [if_pos c7] at H
             have c7b0 : decide (x4_3 < x3_1) = true := decide_eq_true c7
             clear c7
             by_cases c8 : 0 ≤ x4_3
             · rw [if_pos c8] at H
               have c8b0 : decide (0 ≤ x4_3) = true := decide_eq_true c8
               clear c8
               by_cases c9 : x4_3 < (l0.length : Int)
               · rw [if_pos c9] at H
                 have c9b0 : decide (x4_3 < (l0.length : Int)) = true := decide_eq_true c9
                 clear c9
                 by_cases c10 : 0 ≤ x3_1
                 · rw [if_pos c10] at H
                   have c10b0 : decide (0 ≤ x3_1) = true := decide_eq_true c10
                   clear c10
                   by_cases c11 : x3_1 < (l0.length : Int)
                   · rw [if_pos c11] at H
                     have c11b0 : decide (x3_1 < (l0.length : Int)) = true := decide_eq_true c11
                     clear c11
                     by_cases c12 : (rdOf ByteArray.empty l0 x4_3).toList = (rdOf ByteArray.empty l0 x3_1).toList
                     · rw [if_pos c12] at H
                       have c12b0 : ((rdOf ByteArray.empty l0 x4_3).toList == (rdOf ByteArray.empty l0 x3_1).toList) = true := beq_iff_eq.mpr c12
                       have c12b1 : ((rdOf ByteArray.empty l0 x4_3).toList != (rdOf ByteArray.empty l0 x3_1).toList) = false := bne_eq_false_iff_eq.mpr c12
                       clear c12
                       obtain rfl := Option.some.inj H
                       have p175 : 0 ≤ (x4_3 : Int) := of_decide_eq_true (by first | (with_reducible assumption) | assumption)
                       have q175 : x4_3 < (l0.length : Int) := of_decide_eq_true (by first | (with_reducible assumption) | assumption)
                       obtain ⟨ad175, e175, hx175_0⟩ := Kd.at_string HR0.out x4_3 p175 q175
                       cases e175
                       replace p175 := eq_true p175
                       replace q175 := eq_true q175
                       have p176 : 0 ≤ (x3_1 : Int) := of_decide_eq_true (by first | (with_reducible assumption) | assumption)
                       have q176 : x3_1 < (l0.length : Int) := of_decide_eq_true (by first | (with_reducible assumption) | assumption)
                       obtain ⟨ad176, e176, hx176_0⟩ := Kd.at_string HR0.out x3_1 p176 q176
                       obtain rfl : ad175 = ad176 := (by injection e176)
                       replace p176 := eq_true p176
                       replace q176 := eq_true q176
                       go_wp2
                       repeat (go_quiet (fail); try go_wp2)
                       go_ret
                       exact ⟨by first | rfl | (simp; done) | (simp [*]; done), by repeat (first | exact Drawn0.refl _ | apply Drawn0.step)⟩
                     · rw [if_neg c12] at H
                       have c12b0 : ((rdOf ByteArray.empty l0 x4_3).toList == (rdOf ByteArray.empty l0 x3_1).toList) = false := beq_eq_false_iff_ne.mpr c12
                       have c12b1 : ((rdOf ByteArray.empty l0 x4_3).toList != (rdOf ByteArray.empty l0 x3_1).toList) = true := bne_iff_ne.mpr c12
                       have H' := Aside0.mk H
                       clear H
                       have p175 : 0 ≤ (x4_3 : Int) := of_decide_eq_true (by first | (with_reducible assumption) | assumption)
                       have q175 : x4_3 < (l0.length : Int) := of_decide_eq_true (by first | (with_reducible assumption) | assumption)
                       obtain ⟨ad175, e175, hx175_0⟩ := Kd.at_string HR0.out x4_3 p175 q175
                       cases e175
                       replace p175 := eq_true p175
                       replace q175 := eq_true q175
                       have p176 : 0 ≤ (x3_1 : Int) := of_decide_eq_true (by first | (with_reducible assumption) | assumption)
                       have q176 : x3_1 < (l0.length : Int) := of_decide_eq_true (by first | (with_reducible assumption) | assumption)
                       obtain ⟨ad176, e176, hx176_0⟩ := Kd.at_string HR0.out x3_1 p176 q176
                       obtain rfl : ad175 = ad176 := (by injection e176)
                       replace p176 := eq_true p176
                       replace q176 := eq_true q176
                       go_wp2
                       repeat (go_quiet (fail); try go_wp2)
                       go_roundg k3
                       case measure => have := HK1.out; have := HJ2.out; have := HK3.out; omega
                       case rel => exact ⟨(wrap64 (x4_3 + 1)), (by first | rfl | (simp; done) | (simp [*]; done)), H', ⟨by have := HK1.out; have := HJ2.out; have := HK3.out; omega⟩, by repeat (first | exact Drawn0.refl _ | apply Drawn0.step)⟩
                   · rw [if_neg c11] at H
                     exact absurd H (by simp)
                 · rw [if_neg c10] at H
                   exact absurd H (by simp)
               · rw [if_neg c9] at H
                 exact absurd H (by simp)
             · rw [if_neg c8] at H
               exact absurd H (by simp)
           · rw [if_neg c7] at H
             have c7b0 : decide (x4_3 < x3_1) = false := decide_eq_false c7
             clear c7
             have H' := Aside0.mk H
             clear H
             go_wp2
             repeat (go_quiet (fail); try go_wp2)
             go_roundg k3
             case measure => have := HK1.out; have := HJ2.out; have := HK3.out; omega
             case rel => exact ⟨(wrap64 (x3_1 + 1)), (by first | rfl | (simp; done) | (simp [*]; done)), H', ⟨by have := HK1.out; have := HJ2.out; have := HK3.out; omega⟩, by repeat (first | exact Drawn0.refl _ | apply Drawn0.step)⟩
   · rw [if_neg c2] at H
     have c2b0 : decide (x3_1 < (l0.length : Int)) = false := decide_eq_false c2
     clear c2
     obtain rfl := Option.some.inj H
     go_wp2
     repeat (go_quiet (fail); try go_wp2)
     go_ret
     exact ⟨by first | rfl | (simp; done) | (simp [*]; done), by repeat (first | exact Drawn0.refl _ | apply Drawn0.step)⟩

end Go.Proofs.YtjkifeladmhkoaaDoor.B
namespace Go.Proofs.YtjkifeladmhkoaaDoor.B
open Go.RowKit Go.Proofs.YtjkifeladmhkoaaDoorW.PrintWords Go.Proofs.YtjkifeladmhkoaaDoorW.PrintLast Go.Proofs.YtjkifeladmhkoaaDoorW.PrintMore
attribute [local go_sem] max2_int min2_int max_two min_two max_three min_three max_four min_four   -- for this text's walks alone

mutual
def dovetailref03_Check.j0 : Nat → Int → Int → Bool → List ByteArray → List ByteArray → Int → List (S41) → Option (Int × Int)
 | 0, _, _, _, _, _, _, _ => none
 | k + 1, x4, x5, x32, x178000, x178001, x178002, x178003 => if x32 = true then (some (3, (-1))) else ((dovetailref03_named.f k x178000).bind fun t178 => (if t178 = true then ((dovetailref03_named.f k x178001).bind fun t179 => (dovetailref03_Check.j1 k x4 x5 (!t179) x178000 x178001 x178002 x178003)) else (dovetailref03_Check.j1 k x4 x5 true x178000 x178001 x178002 x178003)))
def dovetailref03_Check.j1 : Nat → Int → Int → Bool → List ByteArray → List ByteArray → Int → List (S41) → Option (Int × Int)
 | 0, _, _, _, _, _, _, _ => none
 | k + 1, x4, x5, x42, x178000, x178001, x178002, x178003 => if x42 = true then (some (10, (-1))) else (if x5 = 0 then (dovetailref03_Check.j2 k x4 x5 true x178000 x178001 x178002 x178003) else (if x178002 < 0 then (dovetailref03_Check.j2 k x4 x5 true x178000 x178001 x178002 x178003) else (dovetailref03_Check.j2 k x4 x5 (decide (x178002 ≥ x5)) x178000 x178001 x178002 x178003)))
def dovetailref03_Check.j2 : Nat → Int → Int → Bool → List ByteArray → List ByteArray → Int → List (S41) → Option (Int × Int)
 | 0, _, _, _, _, _, _, _ => none
 | k + 1, x4, x5, x55, x178000, x178001, x178002, x178003 => if x55 = true then (some (1, (-1))) else (dovetailref03_Check.l0 k x4 x5 0 x178000 x178001 x178002 x178003)
def dovetailref03_Check.l0 : Nat → Int → Int → Int → List ByteArray → List ByteArray → Int → List (S41) → Option (Int × Int)
 | 0, _, _, _, _, _, _, _ => none
 | k + 1, x4, x5, x6, x178000, x178001, x178002, x178003 => if x6 < (x178003.length : Int) then (if 0 ≤ x6 then (if (((rd_T41 x178003 x6).f1).length : Int) > 32 then (some (3, x6)) else (if ((rd_T41 x178003 x6).f0) < 0 then (dovetailref03_Check.j4 k x4 x5 x6 true x178000 x178001 x178002 x178003 ((rd_T41 x178003 x6).f0) ((rd_T41 x178003 x6).f1)) else (dovetailref03_Check.j4 k x4 x5 x6 (decide (((rd_T41 x178003 x6).f0) ≥ x5)) x178000 x178001 x178002 x178003 ((rd_T41 x178003 x6).f0) ((rd_T41 x178003 x6).f1)))) else (none)) else (some (0, (-1)))
def dovetailref03_Check.j4 : Nat → Int → Int → Int → Bool → List ByteArray → List ByteArray → Int → List (S41) → Int → List Int → Option (Int × Int)
 | 0, _, _, _, _, _, _, _, _, _, _ => none
 | k + 1, x4, x5, x6, x81, x178000, x178001, x178002, x178003, x182000, x182001 => if x81 = true then (some (1, x6)) else (dovetailref03_Check.l1 k x4 x5 x6 0 x178000 x178001 x178002 x178003 x182000 x182001)
def dovetailref03_Check.l1 : Nat → Int → Int → Int → Int → List ByteArray → List ByteArray → Int → List (S41) → Int → List Int → Option (Int × Int)
 | 0, _, _, _, _, _, _, _, _, _, _ => none
 | k + 1, x4, x5, x6, x8, x178000, x178001, x178002, x178003, x182000, x182001 => if x8 < (x182001.length : Int) then (if 0 ≤ x8 then (if (rd x182001 x8) ≥ x4 then (some (1, x6)) else (if (rd x182001 x8) < (wrap64 (-x5)) then (some (1, x6)) else (dovetailref03_Check.l1 k x4 x5 x6 (wrap64 (x8 + 1)) x178000 x178001 x178002 x178003 x182000 x182001))) else (none)) else (dovetailref03_Check.l0 k x4 x5 (wrap64 (x6 + 1)) x178000 x178001 x178002 x178003)
end
def dovetailref03_Check.f (k : Nat) (l0_0 : List ByteArray) (l0_1 : List ByteArray) (a0_2 : Int) (l0_3 : List (S41)) : Option (Int × Int) := if (l0_0.length : Int) > 60 then (dovetailref03_Check.j0 k (l0_0.length : Int) (l0_1.length : Int) true l0_0 l0_1 a0_2 l0_3) else (if (l0_1.length : Int) > 60 then (dovetailref03_Check.j0 k (l0_0.length : Int) (l0_1.length : Int) true l0_0 l0_1 a0_2 l0_3) else (if (wrap64 ((l0_0.length : Int) + (l0_1.length : Int))) > 60 then (dovetailref03_Check.j0 k (l0_0.length : Int) (l0_1.length : Int) true l0_0 l0_1 a0_2 l0_3) else (dovetailref03_Check.j0 k (l0_0.length : Int) (l0_1.length : Int) (decide ((l0_3.length : Int) > 120)) l0_0 l0_1 a0_2 l0_3)))
theorem dovetailref03_Check.mono_l : ∀ k, (∀ y0 y1 y2 y3 y4 y5 y6, LeO (dovetailref03_Check.j0 k y0 y1 y2 y3 y4 y5 y6) (dovetailref03_Check.j0 (k + 1) y0 y1 y2 y3 y4 y5 y6)) ∧ (∀ y0 y1 y2 y3 y4 y5 y6, LeO (dovetailref03_Check.j1 k y0 y1 y2 y3 y4 y5 y6) (dovetailref03_Check.j1 (k + 1) y0 y1 y2 y3 y4 y5 y6)) ∧ (∀ y0 y1 y2 y3 y4 y5 y6, LeO (dovetailref03_Check.j2 k y0 y1 y2 y3 y4 y5 y6) (dovetailref03_Check.j2 (k + 1) y0 y1 y2 y3 y4 y5 y6)) ∧ (∀ y0 y1 y2 y3 y4 y5 y6, LeO (dovetailref03_Check.l0 k y0 y1 y2 y3 y4 y5 y6) (dovetailref03_Check.l0 (k + 1) y0 y1 y2 y3 y4 y5 y6)) ∧ (∀ y0 y1 y2 y3 y4 y5 y6 y7 y8 y9, LeO (dovetailref03_Check.j4 k y0 y1 y2 y3 y4 y5 y6 y7 y8 y9) (dovetailref03_Check.j4 (k + 1) y0 y1 y2 y3 y4 y5 y6 y7 y8 y9)) ∧ (∀ y0 y1 y2 y3 y4 y5 y6 y7 y8 y9, LeO (dovetailref03_Check.l1 k y0 y1 y2 y3 y4 y5 y6 y7 y8 y9) (dovetailref03_Check.l1 (k + 1) y0 y1 y2 y3 y4 y5 y6 y7 y8 y9))
 | 0 => ⟨fun _ _ _ _ _ _ _ r h => by simp [dovetailref03_Check.j0] at h, fun _ _ _ _ _ _ _ r h => by simp [dovetailref03_Check.j1] at h, fun _ _ _ _ _ _ _ r h => by simp [dovetailref03_Check.j2] at h, fun _ _ _ _ _ _ _ r h => by simp [dovetailref03_Check.l0] at h, fun _ _ _ _ _ _ _ _ _ _ r h => by simp [dovetailref03_Check.j4] at h, fun _ _ _ _ _ _ _ _ _ _ r h => by simp [dovetailref03_Check.l1] at h⟩
 | k + 1 => by
  obtain ⟨ih0, ih1, ih2, ih3, ih4, ih5⟩ := dovetailref03_Check.mono_l k
  refine ⟨?_, ?_, ?_, ?_, ?_, ?_⟩
  · intro y0 y1 y2 y3 y4 y5 y6
    unfold dovetailref03_Check.j0
    repeat' first
    | (with_reducible exact ih0 _ _ _ _ _ _ _)
    | (with_reducible exact ih1 _ _ _ _ _ _ _)
    | (with_reducible exact ih2 _ _ _ _ _ _ _)
    | (with_reducible exact ih3 _ _ _ _ _ _ _)
    | (with_reducible exact ih4 _ _ _ _ _ _ _ _ _ _)
    | (with_reducible exact ih5 _ _ _ _ _ _ _ _ _ _)
    | (with_reducible exact dovetailref03_named.mono _ _)
    | (with_reducible exact LeO.refl _)
    | (with_reducible exact LeO.none _)
    | (with_reducible refine LeO.ite ?_ ?_)
    | (with_reducible refine LeO.bind ?_ (fun _ => ?_))
    | exact ih0 _ _ _ _ _ _ _
    | exact ih1 _ _ _ _ _ _ _
    | exact ih2 _ _ _ _ _ _ _
    | exact ih3 _ _ _ _ _ _ _
    | exact ih4 _ _ _ _ _ _ _ _ _ _
    | exact ih5 _ _ _ _ _ _ _ _ _ _
    | exact dovetailref03_named.mono _ _
    | exact LeO.none _
    | refine LeO.ite ?_ ?_
    | refine LeO.bind ?_ (fun _ => ?_)
  · intro y0 y1 y2 y3 y4 y5 y6
    unfold dovetailref03_Check.j1
    repeat' first
    | (with_reducible exact ih0 _ _ _ _ _ _ _)
    | (with_reducible exact ih1 _ _ _ _ _ _ _)
    | (with_reducible exact ih2 _ _ _ _ _ _ _)
    | (with_reducible exact ih3 _ _ _ _ _ _ _)
    | (with_reducible exact ih4 _ _ _ _ _ _ _ _ _ _)
    | (with_reducible exact ih5 _ _ _ _ _ _ _ _ _ _)
    | (with_reducible exact dovetailref03_named.mono _ _)
    | (with_reducible exact LeO.refl _)
    | (with_reducible exact LeO.none _)
    | (with_reducible refine LeO.ite ?_ ?_)
    | (with_reducible refine LeO.bind ?_ (fun _ => ?_))
    | exact ih0 _ _ _ _ _ _ _
    | exact ih1 _ _ _ _ _ _ _
    | exact ih2 _ _ _ _ _ _ _
    | exact ih3 _ _ _ _ _ _ _
    | exact ih4 _ _ _ _ _ _ _ _ _ _
    | exact ih5 _ _ _ _ _ _ _ _ _ _
    | exact dovetailref03_named.mono _ _
    | exact LeO.none _
    | refine LeO.ite ?_ ?_
    | refine LeO.bind ?_ (fun _ => ?_)
  · intro y0 y1 y2 y3 y4 y5 y6
    unfold dovetailref03_Check.j2
    repeat' first
    | (with_reducible exact ih0 _ _ _ _ _ _ _)
    | (with_reducible exact ih1 _ _ _ _ _ _ _)
    | (with_reducible exact ih2 _ _ _ _ _ _ _)
    | (with_reducible exact ih3 _ _ _ _ _ _ _)
    | (with_reducible exact ih4 _ _ _ _ _ _ _ _ _ _)
    | (with_reducible exact ih5 _ _ _ _ _ _ _ _ _ _)
    | (with_reducible exact dovetailref03_named.mono _ _)
    | (with_reducible exact LeO.refl _)
    | (with_reducible exact LeO.none _)
    | (with_reducible refine LeO.ite ?_ ?_)
    | (with_reducible refine LeO.bind ?_ (fun _ => ?_))
    | exact ih0 _ _ _ _ _ _ _
    | exact ih1 _ _ _ _ _ _ _
    | exact ih2 _ _ _ _ _ _ _
    | exact ih3 _ _ _ _ _ _ _
    | exact ih4 _ _ _ _ _ _ _ _ _ _
    | exact ih5 _ _ _ _ _ _ _ _ _ _
    | exact dovetailref03_named.mono _ _
    | exact LeO.none _
    | refine LeO.ite ?_ ?_
    | refine LeO.bind ?_ (fun _ => ?_)
  · intro y0 y1 y2 y3 y4 y5 y6
    unfold dovetailref03_Check.l0
    repeat' first
    | (with_reducible exact ih0 _ _ _ _ _ _ _)
    | (with_reducible exact ih1 _ _ _ _ _ _ _)
    | (with_reducible exact ih2 _ _ _ _ _ _ _)
    | (with_reducible exact ih3 _ _ _ _ _ _ _)
    | (with_reducible exact ih4 _ _ _ _ _ _ _ _ _ _)
    | (with_reducible exact ih5 _ _ _ _ _ _ _ _ _ _)
    | (with_reducible exact dovetailref03_named.mono _ _)
    | (with_reducible exact LeO.refl _)
    | (with_reducible exact LeO.none _)
    | (with_reducible refine LeO.ite ?_ ?_)
    | (with_reducible refine LeO.bind ?_ (fun _ => ?_))
    | exact ih0 _ _ _ _ _ _ _
    | exact ih1 _ _ _ _ _ _ _
    | exact ih2 _ _ _ _ _ _ _
    | exact ih3 _ _ _ _ _ _ _
    | exact ih4 _ _ _ _ _ _ _ _ _ _
    | exact ih5 _ _ _ _ _ _ _ _ _ _
    | exact dovetailref03_named.mono _ _
    | exact LeO.none _
    | refine LeO.ite ?_ ?_
    | refine LeO.bind ?_ (fun _ => ?_)
  · intro y0 y1 y2 y3 y4 y5 y6 y7 y8 y9
    unfold dovetailref03_Check.j4
    repeat' first
    | (with_reducible exact ih0 _ _ _ _ _ _ _)
    | (with_reducible exact ih1 _ _ _ _ _ _ _)
    | (with_reducible exact ih2 _ _ _ _ _ _ _)
    | (with_reducible exact ih3 _ _ _ _ _ _ _)
    | (with_reducible exact ih4 _ _ _ _ _ _ _ _ _ _)
    | (with_reducible exact ih5 _ _ _ _ _ _ _ _ _ _)
    | (with_reducible exact dovetailref03_named.mono _ _)
    | (with_reducible exact LeO.refl _)
    | (with_reducible exact LeO.none _)
    | (with_reducible refine LeO.ite ?_ ?_)
    | (with_reducible refine LeO.bind ?_ (fun _ => ?_))
    | exact ih0 _ _ _ _ _ _ _
    | exact ih1 _ _ _ _ _ _ _
    | exact ih2 _ _ _ _ _ _ _
    | exact ih3 _ _ _ _ _ _ _
    | exact ih4 _ _ _ _ _ _ _ _ _ _
    | exact ih5 _ _ _ _ _ _ _ _ _ _
    | exact dovetailref03_named.mono _ _
    | exact LeO.none _
    | refine LeO.ite ?_ ?_
    | refine LeO.bind ?_ (fun _ => ?_)
  · intro y0 y1 y2 y3 y4 y5 y6 y7 y8 y9
    unfold dovetailref03_Check.l1
    repeat' first
    | (with_reducible exact ih0 _ _ _ _ _ _ _)
    | (with_reducible exact ih1 _ _ _ _ _ _ _)
    | (with_reducible exact ih2 _ _ _ _ _ _ _)
    | (with_reducible exact ih3 _ _ _ _ _ _ _)
    | (with_reducible exact ih4 _ _ _ _ _ _ _ _ _ _)
    | (with_reducible exact ih5 _ _ _ _ _ _ _ _ _ _)
    | (with_reducible exact dovetailref03_named.mono _ _)
    | (with_reducible exact LeO.refl _)
    | (with_reducible exact LeO.none _)
    | (with_reducible refine LeO.ite ?_ ?_)
    | (with_reducible refine LeO.bind ?_ (fun _ => ?_))
    | exact ih0 _ _ _ _ _ _ _
    | exact ih1 _ _ _ _ _ _ _
    | exact ih2 _ _ _ _ _ _ _
    | exact ih3 _ _ _ _ _ _ _
    | exact ih4 _ _ _ _ _ _ _ _ _ _
    | exact ih5 _ _ _ _ _ _ _ _ _ _
    | exact dovetailref03_named.mono _ _
    | exact LeO.none _
    | refine LeO.ite ?_ ?_
    | refine LeO.bind ?_ (fun _ => ?_)
theorem dovetailref03_Check.mono : ∀ a0 a1 a2 a3 k, LeO (dovetailref03_Check.f k a0 a1 a2 a3) (dovetailref03_Check.f (k + 1) a0 a1 a2 a3) := by
 intro a0 a1 a2 a3 k
 obtain ⟨ih0, ih1, ih2, ih3, ih4, ih5⟩ := dovetailref03_Check.mono_l k
 unfold dovetailref03_Check.f
 repeat' first
  | (with_reducible exact ih0 _ _ _ _ _ _ _)
  | (with_reducible exact ih1 _ _ _ _ _ _ _)
  | (with_reducible exact ih2 _ _ _ _ _ _ _)
  | (with_reducible exact ih3 _ _ _ _ _ _ _)
  | (with_reducible exact ih4 _ _ _ _ _ _ _ _ _ _)
  | (with_reducible exact ih5 _ _ _ _ _ _ _ _ _ _)
  | (with_reducible exact dovetailref03_named.mono _ _)
  | (with_reducible exact LeO.refl _)
  | (with_reducible exact LeO.none _)
  | (with_reducible refine LeO.ite ?_ ?_)
  | (with_reducible refine LeO.bind ?_ (fun _ => ?_))
  | exact ih0 _ _ _ _ _ _ _
  | exact ih1 _ _ _ _ _ _ _
  | exact ih2 _ _ _ _ _ _ _
  | exact ih3 _ _ _ _ _ _ _
  | exact ih4 _ _ _ _ _ _ _ _ _ _
  | exact ih5 _ _ _ _ _ _ _ _ _ _
  | exact dovetailref03_named.mono _ _
  | exact LeO.none _
  | refine LeO.ite ?_ ?_
  | refine LeO.bind ?_ (fun _ => ?_)
set_option maxHeartbeats 8000000 in
set_option maxRecDepth 100000 in
theorem dovetailref03_Check.calls (k : Nat) (A0_0 : Option Addr) (c0_0 : Nat) (l0_0 : List ByteArray) (A0_1 : Option Addr) (c0_1 : Nat) (l0_1 : List ByteArray) (a0_2 : Int) (A0_3 : Option Addr) (c0_3 : Nat) (l0_3 : List (S41)) (r1 : Int) (r2 : Int) (w : World) (hr0_0 : Kd.C Kd.string w A0_0 l0_0.length l0_0) (hc0_0 : l0_0.length ≤ c0_0) (hr0_1 : Kd.C Kd.string w A0_1 l0_1.length l0_1) (hc0_1 : l0_1.length ≤ c0_1) (hr0_3 : Kd.C k41 w A0_3 l0_3.length l0_3) (hc0_3 : l0_3.length ≤ c0_3) (h : dovetailref03_Check.f k l0_0 l0_1 a0_2 l0_3 = some (r1, r2)) :
 Calls Tryd.prog 65 #[.agg #[.slice A0_0 l0_0.length c0_0, .slice A0_1 l0_1.length c0_1, .int .i64 a0_2, .slice A0_3 l0_3.length c0_3]] w fun e w' => e = .returned (.tuple #[.int .i64 r1, .int .i64 r2]) ∧ Below w.heap.size w w' := by
 have hu32 := Tryd.underlying32
 have hu41 := Tryd.underlying41
 have HR0_0 := Aside0.mk hr0_0
 have HC0_0 := Aside0.mk hc0_0
 clear hr0_0 hc0_0
 have HR0_1 := Aside0.mk hr0_1
 have HC0_1 := Aside0.mk hc0_1
 clear hr0_1 hc0_1
 have HR0_3 := Aside0.mk hr0_3
 have HC0_3 := Aside0.mk hc0_3
 clear hr0_3 hc0_3
 have HB := Aside0.mk (Below.refl w.heap.size w)
 have H : (if (l0_0.length : Int) > 60 then (dovetailref03_Check.j0 k (l0_0.length : Int) (l0_1.length : Int) true l0_0 l0_1 a0_2 l0_3) else (if (l0_1.length : Int) > 60 then (dovetailref03_Check.j0 k (l0_0.length : Int) (l0_1.length : Int) true l0_0 l0_1 a0_2 l0_3) else (if (wrap64 ((l0_0.length : Int) + (l0_1.length : Int))) > 60 then (dovetailref03_Check.j0 k (l0_0.length : Int) (l0_1.length : Int) true l0_0 l0_1 a0_2 l0_3) else (dovetailref03_Check.j0 k (l0_0.length : Int) (l0_1.length : Int) (decide ((l0_3.length : Int) > 120)) l0_0 l0_1 a0_2 l0_3)))) = some (r1, r2) := h
 clear h
 have HC2 := Aside0.mk H
 clear H
 go_enter Tryd.func65, Tryd.ntmps65
 go_upto_region 3 with (first | ((with_reducible refine gate_dst (N := 1) rfl ?_); (try (refine gate_guard (by rfl) ?_; dsimp only)); refine box_event ?hg (N := 1) ?hd (cs := #[.slice A0_0 l0_0.length c0_0, .slice A0_1 l0_1.length c0_1, .int .i64 a0_2, .slice A0_3 l0_3.length c0_3]) (t := 32) ?hr ?_; (case hd => rfl); (case hg => rfl); (case hr => first | (go_simp; done) | (go_simp; rfl)); intro gb177 hg w3 hbox hb; have n0_ := Aside0.mk (below_step (by repeat (first | (with_reducible first | exact HB.out | apply below_alloc | apply pw_below_drewN | apply below_drew1) | exact HB.out)) hb); have n1_ := Aside0.mk (hbox); have n2_ := Aside0.mk ((by rw [hg]; exact (below_size (by repeat (first | (with_reducible first | exact HB.out | apply below_alloc | apply pw_below_drewN | apply below_drew1) | exact HB.out))) : w.heap.size ≤ gb177)); have n3_ := Aside0.mk ((by rw [hg]; exact (below_size (by repeat (first | (with_reducible first | exact HB.out | apply below_alloc | apply pw_below_drewN | apply below_drew1) | exact HB.out))) : w.heap.size ≤ gb177)); clear HB; have HB := n0_; have BK177 := n1_; have GW177 := n2_; have GE177 := n3_; clear n0_ n1_ n2_ n3_; clear hb hbox hg; have hcz4_0 : w3.cell? ⟨gb177, 0, none⟩ = some (.slice A0_0 l0_0.length c0_0) := (blk_cell BK177.out 0).trans rfl; have hcz4_1 : w3.cell? ⟨gb177, 1, none⟩ = some (.slice A0_1 l0_1.length c0_1) := (blk_cell BK177.out 1).trans rfl; have hcz4_2 : w3.cell? ⟨gb177, 2, none⟩ = some (.int .i64 a0_2) := (blk_cell BK177.out 2).trans rfl; have hcz4_3 : w3.cell? ⟨gb177, 3, none⟩ = some (.slice A0_3 l0_3.length c0_3) := (blk_cell BK177.out 3).trans rfl; have hfz4_0 := blk_frozen BK177.out 0; have hfz4_1 := blk_frozen BK177.out 1; have hfz4_2 := blk_frozen BK177.out 2; have hfz4_3 := blk_frozen BK177.out 3))
 (try simp only [Act.put, List.setIfInBounds_toArray, List.set_cons_zero, List.set_cons_succ])
 go_cut [32] (fun v32 wc => ∃ (kq : Nat) (x32_1 : Bool), v32 = .bool x32_1 ∧ Aside0 (dovetailref03_Check.j0 kq (l0_0.length : Int) (l0_1.length : Int) x32_1 l0_0 l0_1 a0_2 l0_3 = some (r1, r2)) ∧ Aside0 (kq ≤ k) ∧ Aside0 (wc.heap[gb177]? = some (.cells #[(.slice A0_0 l0_0.length c0_0), (.slice A0_1 l0_1.length c0_1), .int .i64 a0_2, (.slice A0_3 l0_3.length c0_3)] 32 (0, 0))) ∧ Aside0 (Below w.heap.size w wc))
 case first =>
  have H := HC2.out
  clear HC2
  by_cases c5 : (l0_0.length : Int) > 60
  · rw [if_pos c5] at H
    have c5b0 : decide (60 < (l0_0.length : Int)) = true := decide_eq_true c5
    have c5b1 : decide (60 < l0_0.length) = true := decide_eq_true (by omega)
    clear c5
    (first | rw [c5b0] | (simp only [i64_w, i32_w]; rw [c5b0]) | skip)
    have H' := Aside0.mk H
    clear H
    go_wp2
    go_meet
    case rel => exact ⟨_, (true), (by first | rfl | (simp; done) | (simp [*]; done)), H', ⟨by first | omega | exact Nat.le_refl _⟩, ⟨by (with_reducible repeat (first | refine blk_drewN ?_ _ | refine blk_drew ?_ | refine blk_alloc ?_ _)); exact BK177.out⟩, ⟨by repeat (first | (with_reducible first | exact HB.out | apply below_alloc | apply pw_below_drewN | apply below_drew1 | refine below_set ?_ GE177.out) | exact HB.out)⟩⟩
  · rw [if_neg c5] at H
    have c5b0 : decide (60 < (l0_0.length : Int)) = false := decide_eq_false c5
    have c5b1 : decide (60 < l0_0.length) = false := decide_eq_false (by omega)
    clear c5
    (first | rw [c5b0] | (simp only [i64_w, i32_w]; rw [c5b0]) | skip)
    by_cases c6 : (l0_1.length : Int) > 60
    · rw [if_pos c6] at H
      have c6b0 : decide (60 < (l0_1.length : Int)) = true := decide_eq_true c6
      have c6b1 : decide (60 < l0_1.length) = true := decide_eq_true (by omega)
      clear c6
      have H' := Aside0.mk H
      clear H
      go_wp2
      go_meet
      case rel => exact ⟨_, (true), (by first | rfl | (simp; done) | (simp [*]; done)), H', ⟨by first | omega | exact Nat.le_refl _⟩, ⟨by (with_reducible repeat (first | refine blk_drewN ?_ _ | refine blk_drew ?_ | refine blk_alloc ?_ _)); exact BK177.out⟩, ⟨by repeat (first | (with_reducible first | exact HB.out | apply below_alloc | apply pw_below_drewN | apply below_drew1 | refine below_set ?_ GE177.out) | exact HB.out)⟩⟩
    · rw [if_neg c6] at H
      have c6b0 : decide (60 < (l0_1.length : Int)) = false := decide_eq_false c6
      have c6b1 : decide (60 < l0_1.length) = false := decide_eq_false (by omega)
      clear c6
      by_cases c7 : (wrap64 ((l0_0.length : Int) + (l0_1.length : Int))) > 60
      · rw [if_pos c7] at H
        have c7b0 : decide (60 < (wrap64 ((l0_0.length : Int) + (l0_1.length : Int)))) = true := decide_eq_true c7
        clear c7
        have H' := Aside0.mk H
        clear H
        go_wp2
        go_meet
        case rel => exact ⟨_, (true), (by first | rfl | (simp; done) | (simp [*]; done)), H', ⟨by first | omega | exact Nat.le_refl _⟩, ⟨by (with_reducible repeat (first | refine blk_drewN ?_ _ | refine blk_drew ?_ | refine blk_alloc ?_ _)); exact BK177.out⟩, ⟨by repeat (first | (with_reducible first | exact HB.out | apply below_alloc | apply pw_below_drewN | apply below_drew1 | refine below_set ?_ GE177.out) | exact HB.out)⟩⟩
      · rw [if_neg c7] at H
        have c7b0 : decide (60 < (wrap64 ((l0_0.length : Int) + (l0_1.length : Int)))) = false := decide_eq_false c7
        clear c7
        have H' := Aside0.mk H
        clear H
        have hcz8_0 : w3.cell? ⟨gb177, 0, none⟩ = some (.slice A0_0 l0_0.length c0_0) := (blk_cell BK177.out 0).trans rfl
        have hcz8_1 : w3.cell? ⟨gb177, 1, none⟩ = some (.slice A0_1 l0_1.length c0_1) := (blk_cell BK177.out 1).trans rfl
        have hcz8_2 : w3.cell? ⟨gb177, 2, none⟩ = some (.int .i64 a0_2) := (blk_cell BK177.out 2).trans rfl
        have hcz8_3 : w3.cell? ⟨gb177, 3, none⟩ = some (.slice A0_3 l0_3.length c0_3) := (blk_cell BK177.out 3).trans rfl
        have hfz8_0 := blk_frozen BK177.out 0
        have hfz8_1 := blk_frozen BK177.out 1
        have hfz8_2 := blk_frozen BK177.out 2
        have hfz8_3 := blk_frozen BK177.out 3
        go_wp2
        go_meet
        case rel => exact ⟨_, (decide ((l0_3.length : Int) > 120)), (by first | rfl | (simp; done) | (simp [*]; done)), H', ⟨by first | omega | exact Nat.le_refl _⟩, ⟨by (with_reducible repeat (first | refine blk_drewN ?_ _ | refine blk_drew ?_ | refine blk_alloc ?_ _)); exact BK177.out⟩, ⟨by repeat (first | (with_reducible first | exact HB.out | apply below_alloc | apply pw_below_drewN | apply below_drew1 | refine below_set ?_ GE177.out) | exact HB.out)⟩⟩
 case rest =>
  clear HC2
  try clear p2
  try clear c5
  try clear c5b0
  try clear c5b1
  try clear c6
  try clear c6b0
  try clear c6b1
  try clear p6
  try clear c7
  try clear c7b0
  try clear hcz4_0
  try clear hcz4_1
  try clear hcz4_2
  try clear hcz4_3
  try clear hcz8_0
  try clear hcz8_1
  try clear hcz8_2
  try clear hcz8_3
  try clear hfz4_0
  try clear hfz4_1
  try clear hfz4_2
  try clear hfz4_3
  try clear hfz8_0
  try clear hfz8_1
  try clear hfz8_2
  try clear hfz8_3
  obtain ⟨kq, x32_1, rfl, HA, HJ1, BK177, HB⟩ := hcut
  cases kq with
  | zero => exact absurd HA.out (by simp [dovetailref03_Check.j0])
  | succ kj1 =>
   have H := HA.out
   clear HA
   simp only [dovetailref03_Check.j0] at H
   by_cases c9 : x32_1 = true
   · subst c9
     have H1 : (some (3, (-1))) = some (r1, r2) := by rw [if_pos rfl] at H; exact H
     clear H
     have H := H1
     clear H1
     simp only [Option.some.injEq, Prod.mk.injEq] at H
     obtain ⟨rfl, rfl⟩ := H
     go_wp2
     go_ret2
     exact ⟨by first | rfl | (simp [errW_none, errW_some] <;> rfl) | (simp [*, errW_none, errW_some] <;> rfl), by repeat (first | (with_reducible first | exact HB.out | apply below_alloc | apply pw_below_drewN | apply below_drew1 | refine below_set ?_ GE177.out) | exact HB.out)⟩
   · replace c9 := Bool.eq_false_iff.mpr c9
     subst c9
     have H1 : ((dovetailref03_named.f kj1 l0_0).bind fun t178 => (if t178 = true then ((dovetailref03_named.f kj1 l0_1).bind fun t179 => (dovetailref03_Check.j1 kj1 (l0_0.length : Int) (l0_1.length : Int) (!t179) l0_0 l0_1 a0_2 l0_3)) else (dovetailref03_Check.j1 kj1 (l0_0.length : Int) (l0_1.length : Int) true l0_0 l0_1 a0_2 l0_3))) = some (r1, r2) := by rw [if_neg (show ¬ (false = true) by decide)] at H; exact H
     clear H
     have H := H1
     clear H1
     have HC10 := Aside0.mk H
     clear H
     go_upto_region 5 with (fail)
     go_cut [42] (fun v42 wc => ∃ (kq : Nat) (x42_9 : Bool), v42 = .bool x42_9 ∧ Aside0 (dovetailref03_Check.j1 kq (l0_0.length : Int) (l0_1.length : Int) x42_9 l0_0 l0_1 a0_2 l0_3 = some (r1, r2)) ∧ Aside0 (kq ≤ kj1) ∧ Aside0 (wc.heap[gb177]? = some (.cells #[(.slice A0_0 l0_0.length c0_0), (.slice A0_1 l0_1.length c0_1), .int .i64 a0_2, (.slice A0_3 l0_3.length c0_3)] 32 (0, 0))) ∧ Aside0 (Below w.heap.size w wc))
     case first =>
      have H := HC10.out
      clear HC10
      replace H := Option.bind_eq_some_iff.mp H
      obtain ⟨t178, A110, H⟩ := H
      replace H : (if t178 = true then ((dovetailref03_named.f kj1 l0_1).bind fun t179 => (dovetailref03_Check.j1 kj1 (l0_0.length : Int) (l0_1.length : Int) (!t179) l0_0 l0_1 a0_2 l0_3)) else (dovetailref03_Check.j1 kj1 (l0_0.length : Int) (l0_1.length : Int) true l0_0 l0_1 a0_2 l0_3)) = some (r1, r2) := H
      have A11 := Aside0.mk A110
      clear A110
      by_cases c12 : t178 = true
      · subst c12
        have H1 : ((dovetailref03_named.f kj1 l0_1).bind fun t179 => (dovetailref03_Check.j1 kj1 (l0_0.length : Int) (l0_1.length : Int) (!t179) l0_0 l0_1 a0_2 l0_3)) = some (r1, r2) := by rw [if_pos rfl] at H; exact H
        clear H
        have H := H1
        clear H1
        replace H := Option.bind_eq_some_iff.mp H
        obtain ⟨t179, A130, H⟩ := H
        replace H : (dovetailref03_Check.j1 kj1 (l0_0.length : Int) (l0_1.length : Int) (!t179) l0_0 l0_1 a0_2 l0_3) = some (r1, r2) := H
        have A13 := Aside0.mk A130
        clear A130
        have H' := Aside0.mk H
        clear H
        have hcz14_0 : wc.cell? ⟨gb177, 0, none⟩ = some (.slice A0_0 l0_0.length c0_0) := (blk_cell BK177.out 0).trans rfl
        have hcz14_1 : wc.cell? ⟨gb177, 1, none⟩ = some (.slice A0_1 l0_1.length c0_1) := (blk_cell BK177.out 1).trans rfl
        have hcz14_2 : wc.cell? ⟨gb177, 2, none⟩ = some (.int .i64 a0_2) := (blk_cell BK177.out 2).trans rfl
        have hcz14_3 : wc.cell? ⟨gb177, 3, none⟩ = some (.slice A0_3 l0_3.length c0_3) := (blk_cell BK177.out 3).trans rfl
        have hfz14_0 := blk_frozen BK177.out 0
        have hfz14_1 := blk_frozen BK177.out 1
        have hfz14_2 := blk_frozen BK177.out 2
        have hfz14_3 := blk_frozen BK177.out 3
        go_wp2_with (first | ((with_reducible refine gate_callee (f := 89) rfl ?_); refine goesL_ (some 35) rfl rfl Tryd.func89 (by kernel_rfl) rfl #[.slice A0_0 l0_0.length c0_0] rfl (by (try simp only [List.map_toArray, List.map_cons, List.map_nil]); first | done | rfl | (simp only [List.length_drop, List.length_take]; rfl)) ?_; (with_reducible refine (dovetailref03_named.calls kj1 _ _ l0_0 true _ ?side1 ?side2 A11.out).mono ?_); (case side1 => repeat (first | exact (Kd.C_below HR0_0.out HB.out) | (with_reducible refine Kd.C_alloc ?_ _) | (with_reducible refine Kd.C_drewN ?_ _) | (with_reducible refine Kd.C_drew ?_))); (case side2 => exact HC0_0.out); rintro e w' ⟨rfl, ⟨nd, rfl⟩⟩; refine ⟨_, rfl, ?_⟩) | (go_at_call 89; (with_reducible refine (dovetailref03_named.calls kj1 _ _ l0_1 t179 _ ?side1 ?side2 A13.out).mono ?_); (case side1 => repeat (first | exact (Kd.C_below HR0_1.out (by repeat (first | (with_reducible first | exact HB.out | apply below_alloc | apply pw_below_drewN | apply below_drew1 | refine below_set ?_ GE177.out) | exact HB.out))) | (with_reducible refine Kd.C_alloc ?_ _) | (with_reducible refine Kd.C_drewN ?_ _) | (with_reducible refine Kd.C_drew ?_))); (case side2 => exact HC0_1.out); rintro e w' ⟨rfl, ⟨nd, rfl⟩⟩))
        go_meet
        case rel => exact ⟨_, (!t179), (by first | rfl | (simp; done) | (simp [*]; done)), H', ⟨by have := HJ1.out; first | omega | exact Nat.le_refl _⟩, ⟨by (with_reducible repeat (first | refine blk_drewN ?_ _ | refine blk_drew ?_ | refine blk_alloc ?_ _)); exact BK177.out⟩, ⟨by repeat (first | (with_reducible first | exact HB.out | apply below_alloc | apply pw_below_drewN | apply below_drew1 | refine below_set ?_ GE177.out) | exact HB.out)⟩⟩
      · replace c12 := Bool.eq_false_iff.mpr c12
        subst c12
        have H1 : (dovetailref03_Check.j1 kj1 (l0_0.length : Int) (l0_1.length : Int) true l0_0 l0_1 a0_2 l0_3) = some (r1, r2) := by rw [if_neg (show ¬ (false = true) by decide)] at H; exact H
        clear H
        have H := H1
        clear H1
        have H' := Aside0.mk H
        clear H
        have hcz15_0 : wc.cell? ⟨gb177, 0, none⟩ = some (.slice A0_0 l0_0.length c0_0) := (blk_cell BK177.out 0).trans rfl
        have hcz15_1 : wc.cell? ⟨gb177, 1, none⟩ = some (.slice A0_1 l0_1.length c0_1) := (blk_cell BK177.out 1).trans rfl
        have hcz15_2 : wc.cell? ⟨gb177, 2, none⟩ = some (.int .i64 a0_2) := (blk_cell BK177.out 2).trans rfl
        have hcz15_3 : wc.cell? ⟨gb177, 3, none⟩ = some (.slice A0_3 l0_3.length c0_3) := (blk_cell BK177.out 3).trans rfl
        have hfz15_0 := blk_frozen BK177.out 0
        have hfz15_1 := blk_frozen BK177.out 1
        have hfz15_2 := blk_frozen BK177.out 2
        have hfz15_3 := blk_frozen BK177.out 3
        go_wp2_with (first | ((with_reducible refine gate_callee (f := 89) rfl ?_); refine goesL_ (some 35) rfl rfl Tryd.func89 (by kernel_rfl) rfl #[.slice A0_0 l0_0.length c0_0] rfl (by (try simp only [List.map_toArray, List.map_cons, List.map_nil]); first | done | rfl | (simp only [List.length_drop, List.length_take]; rfl)) ?_; (with_reducible refine (dovetailref03_named.calls kj1 _ _ l0_0 false _ ?side1 ?side2 A11.out).mono ?_); (case side1 => repeat (first | exact (Kd.C_below HR0_0.out HB.out) | (with_reducible refine Kd.C_alloc ?_ _) | (with_reducible refine Kd.C_drewN ?_ _) | (with_reducible refine Kd.C_drew ?_))); (case side2 => exact HC0_0.out); rintro e w' ⟨rfl, ⟨nd, rfl⟩⟩; refine ⟨_, rfl, ?_⟩))
        go_meet
        case rel => exact ⟨_, (true), (by first | rfl | (simp; done) | (simp [*]; done)), H', ⟨by have := HJ1.out; first | omega | exact Nat.le_refl _⟩, ⟨by (with_reducible repeat (first | refine blk_drewN ?_ _ | refine blk_drew ?_ | refine blk_alloc ?_ _)); exact BK177.out⟩, ⟨by repeat (first | (with_reducible first | exact HB.out | apply below_alloc | apply pw_below_drewN | apply below_drew1 | refine below_set ?_ GE177.out) | exact HB.out)⟩⟩
     case rest =>
      clear HC10
      try clear c1
      try clear p2
      try clear c5
      try clear c5b0
      try clear c5b1
      try clear c6
      try clear c6b0
      try clear c6b1
      try clear p6
      try clear c7
      try clear c7b0
      try clear c8
      try clear c9
      try clear c12
      try clear hcz14_0
      try clear hcz14_1
      try clear hcz14_2
      try clear hcz14_3
      try clear hcz15_0
      try clear hcz15_1
      try clear hcz15_2
      try clear hcz15_3
      try clear hcz4_0
      try clear hcz4_1
      try clear hcz4_2
      try clear hcz4_3
      try clear hcz8_0
      try clear hcz8_1
      try clear hcz8_2
      try clear hcz8_3
      try clear hfz14_0
      try clear hfz14_1
      try clear hfz14_2
      try clear hfz14_3
      try clear hfz15_0
      try clear hfz15_1
      try clear hfz15_2
      try clear hfz15_3
      try clear hfz4_0
      try clear hfz4_1
      try clear hfz4_2
      try clear hfz4_3
      try clear hfz8_0
      try clear hfz8_1
      try clear hfz8_2
      try clear hfz8_3
      try clear p2
      try clear p6
      obtain ⟨kq, x42_9, rfl, HA, HJ9, BK177, HB⟩ := hcut
      cases kq with
      | zero => exact absurd HA.out (by simp [dovetailref03_Check.j1])
      | succ kj9 =>
       have H := HA.out
       clear HA
       simp only [dovetailref03_Check.j1] at H
       by_cases c16 : x42_9 = true
       · subst c16
         have H1 : (some (10, (-1))) = some (r1, r2) := by rw [if_pos rfl] at H; exact H
         clear H
         have H := H1
         clear H1
         simp only [Option.some.injEq, Prod.mk.injEq] at H
         obtain ⟨rfl, rfl⟩ := H
         go_wp2
         go_ret2
         exact ⟨by first | rfl | (simp [errW_none, errW_some] <;> rfl) | (simp [*, errW_none, errW_some] <;> rfl), by repeat (first | (with_reducible first | exact HB.out | apply below_alloc | apply pw_below_drewN | apply below_drew1 | refine below_set ?_ GE177.out) | exact HB.out)⟩
       · replace c16 := Bool.eq_false_iff.mpr c16
         subst c16
         have H1 : (if (l0_1.length : Int) = 0 then (dovetailref03_Check.j2 kj9 (l0_0.length : Int) (l0_1.length : Int) true l0_0 l0_1 a0_2 l0_3) else (if a0_2 < 0 then (dovetailref03_Check.j2 kj9 (l0_0.length : Int) (l0_1.length : Int) true l0_0 l0_1 a0_2 l0_3) else (dovetailref03_Check.j2 kj9 (l0_0.length : Int) (l0_1.length : Int) (decide (a0_2 ≥ (l0_1.length : Int))) l0_0 l0_1 a0_2 l0_3))) = some (r1, r2) := by rw [if_neg (show ¬ (false = true) by decide)] at H; exact H
         clear H
         have H := H1
         clear H1
         have HC17 := Aside0.mk H
         clear H
         go_upto_region 7 with (fail)
         go_cut [55] (fun v55 wc => ∃ (kq : Nat) (x55_16 : Bool), v55 = .bool x55_16 ∧ Aside0 (dovetailref03_Check.j2 kq (l0_0.length : Int) (l0_1.length : Int) x55_16 l0_0 l0_1 a0_2 l0_3 = some (r1, r2)) ∧ Aside0 (kq ≤ kj9) ∧ Aside0 (wc.heap[gb177]? = some (.cells #[(.slice A0_0 l0_0.length c0_0), (.slice A0_1 l0_1.length c0_1), .int .i64 a0_2, (.slice A0_3 l0_3.length c0_3)] 32 (0, 0))) ∧ Aside0 (Below w.heap.size w wc))
         case first =>
          have H := HC17.out
          clear HC17
          by_cases c18 : (l0_1.length : Int) = 0
          · rw [if_pos c18] at H
            have c18b0 : ((l0_1.length : Int) == 0) = true := beq_iff_eq.mpr c18
            have c18b1 : ((l0_1.length : Int) != 0) = false := bne_eq_false_iff_eq.mpr c18
            clear c18
            (first | rw [c18b0] | (simp only [i64_w, i32_w]; rw [c18b0]) | skip)
            have H' := Aside0.mk H
            clear H
            go_wp2
            go_meet
            case rel => exact ⟨_, (true), (by first | rfl | (simp; done) | (simp [*]; done)), H', ⟨by have := HJ1.out; have := HJ9.out; first | omega | exact Nat.le_refl _⟩, ⟨by (with_reducible repeat (first | refine blk_drewN ?_ _ | refine blk_drew ?_ | refine blk_alloc ?_ _)); exact BK177.out⟩, ⟨by repeat (first | (with_reducible first | exact HB.out | apply below_alloc | apply pw_below_drewN | apply below_drew1 | refine below_set ?_ GE177.out) | exact HB.out)⟩⟩
          · rw [if_neg c18] at H
            have c18b0 : ((l0_1.length : Int) == 0) = false := beq_eq_false_iff_ne.mpr c18
            have c18b1 : ((l0_1.length : Int) != 0) = true := bne_iff_ne.mpr c18
            have c18b2 : ¬ (l0_1 = []) := fun h_ => c18 (by rw [h_]; rfl)
            (first | rw [c18b0] | (simp only [i64_w, i32_w]; rw [c18b0]) | skip)
            by_cases c19 : a0_2 < 0
            · rw [if_pos c19] at H
              have c19b0 : decide (a0_2 < 0) = true := decide_eq_true c19
              clear c19
              have H' := Aside0.mk H
              clear H
              have hcz20_0 : wc.cell? ⟨gb177, 0, none⟩ = some (.slice A0_0 l0_0.length c0_0) := (blk_cell BK177.out 0).trans rfl
              have hcz20_1 : wc.cell? ⟨gb177, 1, none⟩ = some (.slice A0_1 l0_1.length c0_1) := (blk_cell BK177.out 1).trans rfl
              have hcz20_2 : wc.cell? ⟨gb177, 2, none⟩ = some (.int .i64 a0_2) := (blk_cell BK177.out 2).trans rfl
              have hcz20_3 : wc.cell? ⟨gb177, 3, none⟩ = some (.slice A0_3 l0_3.length c0_3) := (blk_cell BK177.out 3).trans rfl
              have hfz20_0 := blk_frozen BK177.out 0
              have hfz20_1 := blk_frozen BK177.out 1
              have hfz20_2 := blk_frozen BK177.out 2
              have hfz20_3 := blk_frozen BK177.out 3
              go_wp2
              go_meet
              case rel => exact ⟨_, (true), (by first | rfl | (simp; done) | (simp [*]; done)), H', ⟨by have := HJ1.out; have := HJ9.out; first | omega | exact Nat.le_refl _⟩, ⟨by (with_reducible repeat (first | refine blk_drewN ?_ _ | refine blk_drew ?_ | refine blk_alloc ?_ _)); exact BK177.out⟩, ⟨by repeat (first | (with_reducible first | exact HB.out | apply below_alloc | apply pw_below_drewN | apply below_drew1 | refine below_set ?_ GE177.out) | exact HB.out)⟩⟩
            · rw [if_neg c19] at H
              have c19b0 : decide (a0_2 < 0) = false := decide_eq_false c19
              clear c19
              have H' := Aside0.mk H
              clear H
              have hcz21_0 : wc.cell? ⟨gb177, 0, none⟩ = some (.slice A0_0 l0_0.length c0_0) := (blk_cell BK177.out 0).trans rfl
              have hcz21_1 : wc.cell? ⟨gb177, 1, none⟩ = some (.slice A0_1 l0_1.length c0_1) := (blk_cell BK177.out 1).trans rfl
              have hcz21_2 : wc.cell? ⟨gb177, 2, none⟩ = some (.int .i64 a0_2) := (blk_cell BK177.out 2).trans rfl
              have hcz21_3 : wc.cell? ⟨gb177, 3, none⟩ = some (.slice A0_3 l0_3.length c0_3) := (blk_cell BK177.out 3).trans rfl
              have hfz21_0 := blk_frozen BK177.out 0
              have hfz21_1 := blk_frozen BK177.out 1
              have hfz21_2 := blk_frozen BK177.out 2
              have hfz21_3 := blk_frozen BK177.out 3
              go_wp2
              go_meet
              case rel => exact ⟨_, (decide (a0_2 ≥ (l0_1.length : Int))), (by first | rfl | (simp; done) | (simp [*]; done)), H', ⟨by have := HJ1.out; have := HJ9.out; first | omega | exact Nat.le_refl _⟩, ⟨by (with_reducible repeat (first | refine blk_drewN ?_ _ | refine blk_drew ?_ | refine blk_alloc ?_ _)); exact BK177.out⟩, ⟨by repeat (first | (with_reducible first | exact HB.out | apply below_alloc | apply pw_below_drewN | apply below_drew1 | refine below_set ?_ GE177.out) | exact HB.out)⟩⟩
         case rest =>
          clear HC17
          try clear c1
          try clear p2
          try clear c5
          try clear c5b0
          try clear c5b1
          try clear c6
          try clear c6b0
          try clear c6b1
          try clear p6
          try clear c7
          try clear c7b0
          try clear c8
          try clear c9
          try clear c12
          try clear c16
          try clear c18
          try clear c18b0
          try clear c18b1
          try clear c18b2
          try clear c19
          try clear c19b0
          try clear hcz14_0
          try clear hcz14_1
          try clear hcz14_2
          try clear hcz14_3
          try clear hcz15_0
          try clear hcz15_1
          try clear hcz15_2
          try clear hcz15_3
          try clear hcz20_0
          try clear hcz20_1
          try clear hcz20_2
          try clear hcz20_3
          try clear hcz21_0
          try clear hcz21_1
          try clear hcz21_2
          try clear hcz21_3
          try clear hcz4_0
          try clear hcz4_1
          try clear hcz4_2
          try clear hcz4_3
          try clear hcz8_0
          try clear hcz8_1
          try clear hcz8_2
          try clear hcz8_3
          try clear hfz14_0
          try clear hfz14_1
          try clear hfz14_2
          try clear hfz14_3
          try clear hfz15_0
          try clear hfz15_1
          try clear hfz15_2
          try clear hfz15_3
          try clear hfz20_0
          try clear hfz20_1
          try clear hfz20_2
          try clear hfz20_3
          try clear hfz21_0
          try clear hfz21_1
          try clear hfz21_2
          try clear hfz21_3
          try clear hfz4_0
          try clear hfz4_1
          try clear hfz4_2
          try clear hfz4_3
          try clear hfz8_0
          try clear hfz8_1
          try clear hfz8_2
          try clear hfz8_3
          try clear p2
          try clear p6
          obtain ⟨kq, x55_16, rfl, HA, HJ16, BK177, HB⟩ := hcut
          cases kq with
          | zero => exact absurd HA.out (by simp [dovetailref03_Check.j2])
          | succ kj16 =>
           have H := HA.out
           clear HA
           simp only [dovetailref03_Check.j2] at H
           by_cases c22 : x55_16 = true
           · subst c22
             have H1 : (some (1, (-1))) = some (r1, r2) := by rw [if_pos rfl] at H; exact H
             clear H
             have H := H1
             clear H1
             simp only [Option.some.injEq, Prod.mk.injEq] at H
             obtain ⟨rfl, rfl⟩ := H
             go_wp2
             go_ret2
             exact ⟨by first | rfl | (simp [errW_none, errW_some] <;> rfl) | (simp [*, errW_none, errW_some] <;> rfl), by repeat (first | (with_reducible first | exact HB.out | apply below_alloc | apply pw_below_drewN | apply below_drew1 | refine below_set ?_ GE177.out) | exact HB.out)⟩
           · replace c22 := Bool.eq_false_iff.mpr c22
             subst c22
             have H1 : (dovetailref03_Check.l0 kj16 (l0_0.length : Int) (l0_1.length : Int) 0 l0_0 l0_1 a0_2 l0_3) = some (r1, r2) := by rw [if_neg (show ¬ (false = true) by decide)] at H; exact H
             clear H
             have H := H1
             clear H1
             have H' := Aside0.mk H
             clear H
             go_wp2
             go_loopg [6] kj16 (fun kq v6 w' => ∃ (x6_4 : Int), v6 = .int .i64 x6_4 ∧ Aside0 (dovetailref03_Check.l0 kq (l0_0.length : Int) (l0_1.length : Int) x6_4 l0_0 l0_1 a0_2 l0_3 = some (r1, r2)) ∧ Aside0 (kq ≤ kj16) ∧ Aside0 (w'.heap[gb177]? = some (.cells #[(.slice A0_0 l0_0.length c0_0), (.slice A0_1 l0_1.length c0_1), .int .i64 a0_2, (.slice A0_3 l0_3.length c0_3)] 32 (0, 0))) ∧ Aside0 (Below w.heap.size w w'))
             case atStart => exact ⟨(0), (by first | rfl | (simp; done) | (simp [*]; done)), H', ⟨Nat.le_refl _⟩, ⟨by (with_reducible repeat (first | refine blk_drewN ?_ _ | refine blk_drew ?_ | refine blk_alloc ?_ _)); exact BK177.out⟩, ⟨by repeat (first | (with_reducible first | exact HB.out | apply below_alloc | apply pw_below_drewN | apply below_drew1 | refine below_set ?_ GE177.out) | exact HB.out)⟩⟩
             case round =>
              clear H'
              try clear c1
              try clear c2
              try clear p2
              try clear c5
              try clear c5b0
              try clear c5b1
              try clear c6
              try clear c6b0
              try clear c6b1
              try clear p6
              try clear c7
              try clear c7b0
              try clear c8
              try clear c9
              try clear c12
              try clear c16
              try clear c18
              try clear c18b0
              try clear c18b1
              try clear c18b2
              try clear c19
              try clear c19b0
              try clear c22
              try clear hcz14_0
              try clear hcz14_1
              try clear hcz14_2
              try clear hcz14_3
              try clear hcz15_0
              try clear hcz15_1
              try clear hcz15_2
              try clear hcz15_3
              try clear hcz20_0
              try clear hcz20_1
              try clear hcz20_2
              try clear hcz20_3
              try clear hcz21_0
              try clear hcz21_1
              try clear hcz21_2
              try clear hcz21_3
              try clear hcz4_0
              try clear hcz4_1
              try clear hcz4_2
              try clear hcz4_3
              try clear hcz8_0
              try clear hcz8_1
              try clear hcz8_2
              try clear hcz8_3
              try clear hfz14_0
              try clear hfz14_1
              try clear hfz14_2
              try clear hfz14_3
              try clear hfz15_0
              try clear hfz15_1
              try clear hfz15_2
              try clear hfz15_3
              try clear hfz20_0
              try clear hfz20_1
              try clear hfz20_2
              try clear hfz20_3
              try clear hfz21_0
              try clear hfz21_1
              try clear hfz21_2
              try clear hfz21_3
              try clear hfz4_0
              try clear hfz4_1
              try clear hfz4_2
              try clear hfz4_3
              try clear hfz8_0
              try clear hfz8_1
              try clear hfz8_2
              try clear hfz8_3
              try clear p2
              try clear p6
              obtain ⟨x6_4, rfl, HA, HK4, BK177, HB⟩ := hrel
              cases gk with
              | zero => exact absurd HA.out (by simp [dovetailref03_Check.l0])
              | succ k4 =>
               have H := HA.out
               clear HA
               simp only [dovetailref03_Check.l0] at H
               by_cases c23 : x6_4 < (l0_3.length : Int)
               · rw [if_pos c23] at H
                 have c23b0 : decide (x6_4 < (l0_3.length : Int)) = true := decide_eq_true c23
                 clear c23
                 by_cases c24 : 0 ≤ x6_4
                 · rw [if_pos c24] at H
                   have c24b0 : decide (0 ≤ x6_4) = true := decide_eq_true c24
                   clear c24
                   by_cases c25 : (((rd_T41 l0_3 x6_4).f1).length : Int) > 32
                   · rw [if_pos c25] at H
                     have c25b0 : decide (32 < (((rd_T41 l0_3 x6_4).f1).length : Int)) = true := decide_eq_true c25
                     have c25b1 : decide (32 < ((rd_T41 l0_3 x6_4).f1).length) = true := decide_eq_true (by omega)
                     clear c25
                     simp only [Option.some.injEq, Prod.mk.injEq] at H
                     obtain ⟨rfl, rfl⟩ := H
                     have hcz26_0 : wr.cell? ⟨gb177, 0, none⟩ = some (.slice A0_0 l0_0.length c0_0) := (blk_cell BK177.out 0).trans rfl
                     have hcz26_1 : wr.cell? ⟨gb177, 1, none⟩ = some (.slice A0_1 l0_1.length c0_1) := (blk_cell BK177.out 1).trans rfl
                     have hcz26_2 : wr.cell? ⟨gb177, 2, none⟩ = some (.int .i64 a0_2) := (blk_cell BK177.out 2).trans rfl
                     have hcz26_3 : wr.cell? ⟨gb177, 3, none⟩ = some (.slice A0_3 l0_3.length c0_3) := (blk_cell BK177.out 3).trans rfl
                     have hfz26_0 := blk_frozen BK177.out 0
                     have hfz26_1 := blk_frozen BK177.out 1
                     have hfz26_2 := blk_frozen BK177.out 2
                     have hfz26_3 := blk_frozen BK177.out 3
                     have p180 : 0 ≤ (x6_4 : Int) := of_decide_eq_true (by first | (with_reducible assumption) | assumption)
                     have q180 : x6_4 < (l0_3.length : Int) := of_decide_eq_true (by first | (with_reducible assumption) | assumption)
                     obtain ⟨ad180, A180_1, c180_1, e180, hx180_0, hx180_1, hl180_1, hi180_1⟩ := at_T41 HR0_3.out x6_4 p180 q180
                     cases e180
                     replace hx180_0 := (HB.out.cell (World.block_lt_of_cell? w _ hx180_0)).trans hx180_0
                     replace hx180_1 := (HB.out.cell (World.block_lt_of_cell? w _ hx180_1)).trans hx180_1
                     have HR180_1 := Aside0.mk hi180_1
                     have HC180_1 := Aside0.mk hl180_1
                     clear hi180_1 hl180_1
                     replace p180 := eq_true p180
                     replace q180 := eq_true q180
                     go_wp2_with (first | ((with_reducible refine gate_dst (N := 7) rfl ?_); (try (refine gate_guard (by rfl) ?_; dsimp only)); refine box_event ?hg (N := 7) ?hd (cs := #[.int .i64 0, .slice none 0 0]) (t := 41) ?hr ?_; (case hd => rfl); (case hg => rfl); (case hr => first | (go_simp; done) | (go_simp; rfl)); intro gb181 hg w27 hbox hb; have n0_ := Aside0.mk (blk_below (g := gb177) (o := .cells #[.slice A0_0 l0_0.length c0_0, .slice A0_1 l0_1.length c0_1, .int .i64 a0_2, .slice (some ad180) l0_3.length c0_3] 32 (0, 0)) (by (with_reducible repeat (first | refine blk_drewN ?_ _ | refine blk_drew ?_ | refine blk_alloc ?_ _)); exact BK177.out) hb); have n1_ := Aside0.mk (below_step (by repeat (first | (with_reducible first | exact HB.out | apply below_alloc | apply pw_below_drewN | apply below_drew1 | refine below_set ?_ GE177.out) | exact HB.out)) hb); have n2_ := Aside0.mk (hbox); have n3_ := Aside0.mk ((by rw [hg]; exact (below_size (by repeat (first | (with_reducible first | exact HB.out | apply below_alloc | apply pw_below_drewN | apply below_drew1 | refine below_set ?_ GE177.out) | exact HB.out))) : w.heap.size ≤ gb181)); have n4_ := Aside0.mk ((by rw [hg]; exact (below_size (by repeat (first | (with_reducible first | exact HB.out | apply below_alloc | apply pw_below_drewN | apply below_drew1 | refine below_set ?_ GE177.out) | exact HB.out))) : w.heap.size ≤ gb181)); have n5_ := Aside0.mk ((by rw [hg]; exact Nat.ne_of_lt (blk_lt (g := gb177) (o := .cells #[.slice A0_0 l0_0.length c0_0, .slice A0_1 l0_1.length c0_1, .int .i64 a0_2, .slice (some ad180) l0_3.length c0_3] 32 (0, 0)) (by (with_reducible repeat (first | refine blk_drewN ?_ _ | refine blk_drew ?_ | refine blk_alloc ?_ _)); exact BK177.out)) : gb177 ≠ gb181)); have n6_ := Aside0.mk ((by rw [hg]; exact Nat.ne_of_gt (blk_lt (g := gb177) (o := .cells #[.slice A0_0 l0_0.length c0_0, .slice A0_1 l0_1.length c0_1, .int .i64 a0_2, .slice (some ad180) l0_3.length c0_3] 32 (0, 0)) (by (with_reducible repeat (first | refine blk_drewN ?_ _ | refine blk_drew ?_ | refine blk_alloc ?_ _)); exact BK177.out)) : gb181 ≠ gb177)); clear BK177; clear HB; have BK177 := n0_; have HB := n1_; have BK181 := n2_; have GW181 := n3_; have GE181 := n4_; have NB177_181 := n5_; have NB181_177 := n6_; clear n0_ n1_ n2_ n3_ n4_ n5_ n6_; clear hb hbox hg; have hnb28 := NB181_177.out; have hnc28 := NB177_181.out; have hcz29_0 : w27.cell? ⟨gb181, 0, none⟩ = some (.int .i64 0) := (blk_cell BK181.out 0).trans rfl; have hcz29_1 : w27.cell? ⟨gb181, 1, none⟩ = some (.slice none 0 0) := (blk_cell BK181.out 1).trans rfl; have hfz29_0 := blk_frozen BK181.out 0; have hfz29_1 := blk_frozen BK181.out 1))
                     go_ret2
                     exact ⟨by first | rfl | (simp [errW_none, errW_some] <;> rfl) | (simp [*, errW_none, errW_some] <;> rfl), by repeat (first | (with_reducible first | exact HB.out | apply below_alloc | apply pw_below_drewN | apply below_drew1 | refine below_set ?_ GE177.out | refine below_set ?_ GE181.out) | exact HB.out)⟩
                   · rw [if_neg c25] at H
                     have c25b0 : decide (32 < (((rd_T41 l0_3 x6_4).f1).length : Int)) = false := decide_eq_false c25
                     have c25b1 : decide (32 < ((rd_T41 l0_3 x6_4).f1).length) = false := decide_eq_false (by omega)
                     clear c25
                     have HC30 := Aside0.mk H
                     clear H
                     have hcz31_0 : wr.cell? ⟨gb177, 0, none⟩ = some (.slice A0_0 l0_0.length c0_0) := (blk_cell BK177.out 0).trans rfl
                     have hcz31_1 : wr.cell? ⟨gb177, 1, none⟩ = some (.slice A0_1 l0_1.length c0_1) := (blk_cell BK177.out 1).trans rfl
                     have hcz31_2 : wr.cell? ⟨gb177, 2, none⟩ = some (.int .i64 a0_2) := (blk_cell BK177.out 2).trans rfl
                     have hcz31_3 : wr.cell? ⟨gb177, 3, none⟩ = some (.slice A0_3 l0_3.length c0_3) := (blk_cell BK177.out 3).trans rfl
                     have hfz31_0 := blk_frozen BK177.out 0
                     have hfz31_1 := blk_frozen BK177.out 1
                     have hfz31_2 := blk_frozen BK177.out 2
                     have hfz31_3 := blk_frozen BK177.out 3
                     have p180 : 0 ≤ (x6_4 : Int) := of_decide_eq_true (by first | (with_reducible assumption) | assumption)
                     have q180 : x6_4 < (l0_3.length : Int) := of_decide_eq_true (by first | (with_reducible assumption) | assumption)
                     obtain ⟨ad180, A180_1, c180_1, e180, hx180_0, hx180_1, hl180_1, hi180_1⟩ := at_T41 HR0_3.out x6_4 p180 q180
                     cases e180
                     replace hx180_0 := (HB.out.cell (World.block_lt_of_cell? w _ hx180_0)).trans hx180_0
                     replace hx180_1 := (HB.out.cell (World.block_lt_of_cell? w _ hx180_1)).trans hx180_1
                     have HR180_1 := Aside0.mk hi180_1
                     have HC180_1 := Aside0.mk hl180_1
                     clear hi180_1 hl180_1
                     replace p180 := eq_true p180
                     replace q180 := eq_true q180
                     go_upto_region 15 with (first | ((with_reducible refine gate_dst (N := 7) rfl ?_); (try (refine gate_guard (by rfl) ?_; dsimp only)); refine box_event ?hg (N := 7) ?hd (cs := #[.int .i64 0, .slice none 0 0]) (t := 41) ?hr ?_; (case hd => rfl); (case hg => rfl); (case hr => first | (go_simp; done) | (go_simp; rfl)); intro gb181 hg w32 hbox hb; have n0_ := Aside0.mk (blk_below (g := gb177) (o := .cells #[.slice A0_0 l0_0.length c0_0, .slice A0_1 l0_1.length c0_1, .int .i64 a0_2, .slice (some ad180) l0_3.length c0_3] 32 (0, 0)) (by (with_reducible repeat (first | refine blk_drewN ?_ _ | refine blk_drew ?_ | refine blk_alloc ?_ _)); exact BK177.out) hb); have n1_ := Aside0.mk (below_step (by repeat (first | (with_reducible first | exact HB.out | apply below_alloc | apply pw_below_drewN | apply below_drew1 | refine below_set ?_ GE177.out) | exact HB.out)) hb); have n2_ := Aside0.mk (hbox); have n3_ := Aside0.mk ((by rw [hg]; exact (below_size (by repeat (first | (with_reducible first | exact HB.out | apply below_alloc | apply pw_below_drewN | apply below_drew1 | refine below_set ?_ GE177.out) | exact HB.out))) : w.heap.size ≤ gb181)); have n4_ := Aside0.mk ((by rw [hg]; exact (below_size (by repeat (first | (with_reducible first | exact HB.out | apply below_alloc | apply pw_below_drewN | apply below_drew1 | refine below_set ?_ GE177.out) | exact HB.out))) : w.heap.size ≤ gb181)); have n5_ := Aside0.mk ((by rw [hg]; exact Nat.ne_of_lt (blk_lt (g := gb177) (o := .cells #[.slice A0_0 l0_0.length c0_0, .slice A0_1 l0_1.length c0_1, .int .i64 a0_2, .slice (some ad180) l0_3.length c0_3] 32 (0, 0)) (by (with_reducible repeat (first | refine blk_drewN ?_ _ | refine blk_drew ?_ | refine blk_alloc ?_ _)); exact BK177.out)) : gb177 ≠ gb181)); have n6_ := Aside0.mk ((by rw [hg]; exact Nat.ne_of_gt (blk_lt (g := gb177) (o := .cells #[.slice A0_0 l0_0.length c0_0, .slice A0_1 l0_1.length c0_1, .int .i64 a0_2, .slice (some ad180) l0_3.length c0_3] 32 (0, 0)) (by (with_reducible repeat (first | refine blk_drewN ?_ _ | refine blk_drew ?_ | refine blk_alloc ?_ _)); exact BK177.out)) : gb181 ≠ gb177)); clear BK177; clear HB; have BK177 := n0_; have HB := n1_; have BK181 := n2_; have GW181 := n3_; have GE181 := n4_; have NB177_181 := n5_; have NB181_177 := n6_; clear n0_ n1_ n2_ n3_ n4_ n5_ n6_; clear hb hbox hg; have hnb33 := NB181_177.out; have hnc33 := NB177_181.out; have hcz34_0 : w32.cell? ⟨gb181, 0, none⟩ = some (.int .i64 0) := (blk_cell BK181.out 0).trans rfl; have hcz34_1 : w32.cell? ⟨gb181, 1, none⟩ = some (.slice none 0 0) := (blk_cell BK181.out 1).trans rfl; have hfz34_0 := blk_frozen BK181.out 0; have hfz34_1 := blk_frozen BK181.out 1))
                     (try simp only [Act.put, List.setIfInBounds_toArray, List.set_cons_zero, List.set_cons_succ])
                     go_cut [81] (fun v81 wc => ∃ (kq : Nat) (x81_29 : Bool), v81 = .bool x81_29 ∧ Aside0 (dovetailref03_Check.j4 kq (l0_0.length : Int) (l0_1.length : Int) x6_4 x81_29 l0_0 l0_1 a0_2 l0_3 ((rd_T41 l0_3 x6_4).f0) ((rd_T41 l0_3 x6_4).f1) = some (r1, r2)) ∧ Aside0 (kq ≤ k4) ∧ Aside0 (wc.heap[gb177]? = some (.cells #[(.slice A0_0 l0_0.length c0_0), (.slice A0_1 l0_1.length c0_1), .int .i64 a0_2, (.slice (some ad180) l0_3.length c0_3)] 32 (0, 0))) ∧ Aside0 (wc.heap[gb181]? = some (.cells #[.int .i64 ((rd_T41 l0_3 x6_4).f0), (.slice A180_1 ((rd_T41 l0_3 x6_4).f1).length c180_1)] 41 (0, 0))) ∧ Aside0 (Below w.heap.size w wc))
                     case first =>
                      have H := HC30.out
                      clear HC30
                      by_cases c35 : ((rd_T41 l0_3 x6_4).f0) < 0
                      · rw [if_pos c35] at H
                        have c35b0 : decide (((rd_T41 l0_3 x6_4).f0) < 0) = true := decide_eq_true c35
                        clear c35
                        (first | rw [c35b0] | (simp only [i64_w, i32_w]; rw [c35b0]) | skip)
                        have H' := Aside0.mk H
                        clear H
                        have hnb36 := NB181_177.out
                        have hnc36 := NB177_181.out
                        have hcz37_0 : w32.cell? ⟨gb181, 0, none⟩ = some (.int .i64 0) := (blk_cell BK181.out 0).trans rfl
                        have hcz37_1 : w32.cell? ⟨gb181, 1, none⟩ = some (.slice none 0 0) := (blk_cell BK181.out 1).trans rfl
                        have hfz37_0 := blk_frozen BK181.out 0
                        have hfz37_1 := blk_frozen BK181.out 1
                        go_wp2
                        go_meet
                        case rel => exact ⟨_, (true), (by first | rfl | (simp; done) | (simp [*]; done)), H', ⟨by have := HJ1.out; have := HJ9.out; have := HJ16.out; have := HK4.out; first | omega | exact Nat.le_refl _⟩, ⟨by (with_reducible repeat (first | refine blk_drewN ?_ _ | refine blk_drew ?_ | refine blk_alloc ?_ _)); refine blk_far ?_ NB177_181.out _; (with_reducible repeat (first | refine blk_drewN ?_ _ | refine blk_drew ?_ | refine blk_alloc ?_ _)); refine blk_far ?_ NB177_181.out _; (with_reducible repeat (first | refine blk_drewN ?_ _ | refine blk_drew ?_ | refine blk_alloc ?_ _)); exact BK177.out⟩, ⟨by (with_reducible repeat (first | refine blk_drewN ?_ _ | refine blk_drew ?_ | refine blk_alloc ?_ _)); refine blk_put (cs := #[.int .i64 ((rd_T41 l0_3 x6_4).f0), .slice none 0 0]) ?_ 1 _ rfl; (with_reducible repeat (first | refine blk_drewN ?_ _ | refine blk_drew ?_ | refine blk_alloc ?_ _)); refine blk_put (cs := #[.int .i64 0, .slice none 0 0]) ?_ 0 _ rfl; (with_reducible repeat (first | refine blk_drewN ?_ _ | refine blk_drew ?_ | refine blk_alloc ?_ _)); exact BK181.out⟩, ⟨by repeat (first | (with_reducible first | exact HB.out | apply below_alloc | apply pw_below_drewN | apply below_drew1 | refine below_set ?_ GE177.out | refine below_set ?_ GE181.out) | exact HB.out)⟩⟩
                      · rw [if_neg c35] at H
                        have c35b0 : decide (((rd_T41 l0_3 x6_4).f0) < 0) = false := decide_eq_false c35
                        clear c35
                        (first | rw [c35b0] | (simp only [i64_w, i32_w]; rw [c35b0]) | skip)
                        have H' := Aside0.mk H
                        clear H
                        have hnb38 := NB181_177.out
                        have hnc38 := NB177_181.out
                        have hcz39_0 : w32.cell? ⟨gb181, 0, none⟩ = some (.int .i64 0) := (blk_cell BK181.out 0).trans rfl
                        have hcz39_1 : w32.cell? ⟨gb181, 1, none⟩ = some (.slice none 0 0) := (blk_cell BK181.out 1).trans rfl
                        have hfz39_0 := blk_frozen BK181.out 0
                        have hfz39_1 := blk_frozen BK181.out 1
                        go_wp2
                        go_meet
                        case rel => exact ⟨_, (decide (((rd_T41 l0_3 x6_4).f0) ≥ (l0_1.length : Int))), (by first | rfl | (simp; done) | (simp [*]; done)), H', ⟨by have := HJ1.out; have := HJ9.out; have := HJ16.out; have := HK4.out; first | omega | exact Nat.le_refl _⟩, ⟨by (with_reducible repeat (first | refine blk_drewN ?_ _ | refine blk_drew ?_ | refine blk_alloc ?_ _)); refine blk_far ?_ NB177_181.out _; (with_reducible repeat (first | refine blk_drewN ?_ _ | refine blk_drew ?_ | refine blk_alloc ?_ _)); refine blk_far ?_ NB177_181.out _; (with_reducible repeat (first | refine blk_drewN ?_ _ | refine blk_drew ?_ | refine blk_alloc ?_ _)); exact BK177.out⟩, ⟨by (with_reducible repeat (first | refine blk_drewN ?_ _ | refine blk_drew ?_ | refine blk_alloc ?_ _)); refine blk_put (cs := #[.int .i64 ((rd_T41 l0_3 x6_4).f0), .slice none 0 0]) ?_ 1 _ rfl; (with_reducible repeat (first | refine blk_drewN ?_ _ | refine blk_drew ?_ | refine blk_alloc ?_ _)); refine blk_put (cs := #[.int .i64 0, .slice none 0 0]) ?_ 0 _ rfl; (with_reducible repeat (first | refine blk_drewN ?_ _ | refine blk_drew ?_ | refine blk_alloc ?_ _)); exact BK181.out⟩, ⟨by repeat (first | (with_reducible first | exact HB.out | apply below_alloc | apply pw_below_drewN | apply below_drew1 | refine below_set ?_ GE177.out | refine below_set ?_ GE181.out) | exact HB.out)⟩⟩
                     case rest =>
                      clear HC30
                      try clear c1
                      try clear p1
                      try clear q1
                      try clear hx1
                      try clear c2
                      try clear p2
                      try clear c3
                      try clear c5
                      try clear c5b0
                      try clear c5b1
                      try clear c6
                      try clear c6b0
                      try clear c6b1
                      try clear p6
                      try clear c7
                      try clear c7b0
                      try clear c8
                      try clear c9
                      try clear c12
                      try clear c16
                      try clear c18
                      try clear c18b0
                      try clear c18b1
                      try clear c18b2
                      try clear p18
                      try clear q18
                      try clear hx18
                      try clear c19
                      try clear c19b0
                      try clear c22
                      try clear c23
                      try clear c23b0
                      try clear c24
                      try clear c24b0
                      try clear c25
                      try clear c25b0
                      try clear c25b1
                      try clear c28
                      try clear c33
                      try clear c35
                      try clear c35b0
                      try clear c36
                      try clear c38
                      try clear hcz14_0
                      try clear hcz14_1
                      try clear hcz14_2
                      try clear hcz14_3
                      try clear hcz15_0
                      try clear hcz15_1
                      try clear hcz15_2
                      try clear hcz15_3
                      try clear hcz20_0
                      try clear hcz20_1
                      try clear hcz20_2
                      try clear hcz20_3
                      try clear hcz21_0
                      try clear hcz21_1
                      try clear hcz21_2
                      try clear hcz21_3
                      try clear hcz26_0
                      try clear hcz26_1
                      try clear hcz26_2
                      try clear hcz26_3
                      try clear hcz29_0
                      try clear hcz29_1
                      try clear hcz31_0
                      try clear hcz31_1
                      try clear hcz31_2
                      try clear hcz31_3
                      try clear hcz34_0
                      try clear hcz34_1
                      try clear hcz37_0
                      try clear hcz37_1
                      try clear hcz39_0
                      try clear hcz39_1
                      try clear hcz4_0
                      try clear hcz4_1
                      try clear hcz4_2
                      try clear hcz4_3
                      try clear hcz8_0
                      try clear hcz8_1
                      try clear hcz8_2
                      try clear hcz8_3
                      try clear hfz14_0
                      try clear hfz14_1
                      try clear hfz14_2
                      try clear hfz14_3
                      try clear hfz15_0
                      try clear hfz15_1
                      try clear hfz15_2
                      try clear hfz15_3
                      try clear hfz20_0
                      try clear hfz20_1
                      try clear hfz20_2
                      try clear hfz20_3
                      try clear hfz21_0
                      try clear hfz21_1
                      try clear hfz21_2
                      try clear hfz21_3
                      try clear hfz26_0
                      try clear hfz26_1
                      try clear hfz26_2
                      try clear hfz26_3
                      try clear hfz29_0
                      try clear hfz29_1
                      try clear hfz31_0
                      try clear hfz31_1
                      try clear hfz31_2
                      try clear hfz31_3
                      try clear hfz34_0
                      try clear hfz34_1
                      try clear hfz37_0
                      try clear hfz37_1
                      try clear hfz39_0
                      try clear hfz39_1
                      try clear hfz4_0
                      try clear hfz4_1
                      try clear hfz4_2
                      try clear hfz4_3
                      try clear hfz8_0
                      try clear hfz8_1
                      try clear hfz8_2
                      try clear hfz8_3
                      try clear hx180_0
                      try clear hx180_1
                      try clear p180
                      try clear p2
                      try clear p6
                      try clear q180
                      obtain ⟨kq, x81_29, rfl, HA, HJ29, BK177, BK181, HB⟩ := hcut
                      cases kq with
                      | zero => exact absurd HA.out (by simp [dovetailref03_Check.j4])
                      | succ kj29 =>
                       have H := HA.out
                       clear HA
                       simp only [dovetailref03_Check.j4] at H
                       by_cases c40 : x81_29 = true
                       · subst c40
                         have H1 : (some (1, x6_4)) = some (r1, r2) := by rw [if_pos rfl] at H; exact H
                         clear H
                         have H := H1
                         clear H1
                         simp only [Option.some.injEq, Prod.mk.injEq] at H
                         obtain ⟨rfl, rfl⟩ := H
                         go_wp2
                         go_ret2
                         exact ⟨by first | rfl | (simp [errW_none, errW_some] <;> rfl) | (simp [*, errW_none, errW_some] <;> rfl), by repeat (first | (with_reducible first | exact HB.out | apply below_alloc | apply pw_below_drewN | apply below_drew1 | refine below_set ?_ GE177.out | refine below_set ?_ GE181.out) | exact HB.out)⟩
                       · replace c40 := Bool.eq_false_iff.mpr c40
                         subst c40
                         have H1 : (dovetailref03_Check.l1 kj29 (l0_0.length : Int) (l0_1.length : Int) x6_4 0 l0_0 l0_1 a0_2 l0_3 ((rd_T41 l0_3 x6_4).f0) ((rd_T41 l0_3 x6_4).f1)) = some (r1, r2) := by rw [if_neg (show ¬ (false = true) by decide)] at H; exact H
                         clear H
                         have H := H1
                         clear H1
                         have H' := Aside0.mk H
                         clear H
                         go_wp2
                         go_loopg [8] kj29 (fun kq v8 w' => ∃ (x8_6 : Int), v8 = .int .i64 x8_6 ∧ Aside0 (dovetailref03_Check.l1 kq (l0_0.length : Int) (l0_1.length : Int) x6_4 x8_6 l0_0 l0_1 a0_2 l0_3 ((rd_T41 l0_3 x6_4).f0) ((rd_T41 l0_3 x6_4).f1) = some (r1, r2)) ∧ Aside0 (kq ≤ kj29) ∧ Aside0 (w'.heap[gb177]? = some (.cells #[(.slice A0_0 l0_0.length c0_0), (.slice A0_1 l0_1.length c0_1), .int .i64 a0_2, (.slice (some ad180) l0_3.length c0_3)] 32 (0, 0))) ∧ Aside0 (w'.heap[gb181]? = some (.cells #[.int .i64 ((rd_T41 l0_3 x6_4).f0), (.slice A180_1 ((rd_T41 l0_3 x6_4).f1).length c180_1)] 41 (0, 0))) ∧ Aside0 (Below w.heap.size w w'))
                         case atStart => exact ⟨(0), (by first | rfl | (simp; done) | (simp [*]; done)), H', ⟨Nat.le_refl _⟩, ⟨by (with_reducible repeat (first | refine blk_drewN ?_ _ | refine blk_drew ?_ | refine blk_alloc ?_ _)); exact BK177.out⟩, ⟨by (with_reducible repeat (first | refine blk_drewN ?_ _ | refine blk_drew ?_ | refine blk_alloc ?_ _)); exact BK181.out⟩, ⟨by repeat (first | (with_reducible first | exact HB.out | apply below_alloc | apply pw_below_drewN | apply below_drew1 | refine below_set ?_ GE177.out | refine below_set ?_ GE181.out) | exact HB.out)⟩⟩
                         case round =>
                          clear H'
                          try clear c1
                          try clear p1
                          try clear q1
                          try clear hx1
                          try clear c2
                          try clear p2
                          try clear c3
                          try clear c4
                          try clear c5
                          try clear c5b0
                          try clear c5b1
                          try clear c6
                          try clear c6b0
                          try clear c6b1
                          try clear p6
                          try clear c7
                          try clear c7b0
                          try clear c8
                          try clear c9
                          try clear c12
                          try clear c16
                          try clear c18
                          try clear c18b0
                          try clear c18b1
                          try clear c18b2
                          try clear p18
                          try clear q18
                          try clear hx18
                          try clear c19
                          try clear c19b0
                          try clear c22
                          try clear c23
                          try clear c23b0
                          try clear c24
                          try clear c24b0
                          try clear c25
                          try clear c25b0
                          try clear c25b1
                          try clear c28
                          try clear c33
                          try clear c35
                          try clear c35b0
                          try clear c36
                          try clear c38
                          try clear c40
                          try clear hcz14_0
                          try clear hcz14_1
                          try clear hcz14_2
                          try clear hcz14_3
                          try clear hcz15_0
                          try clear hcz15_1
                          try clear hcz15_2
                          try clear hcz15_3
                          try clear hcz20_0
                          try clear hcz20_1
                          try clear hcz20_2
                          try clear hcz20_3
                          try clear hcz21_0
                          try clear hcz21_1
                          try clear hcz21_2
                          try clear hcz21_3
                          try clear hcz26_0
                          try clear hcz26_1
                          try clear hcz26_2
                          try clear hcz26_3
                          try clear hcz29_0
                          try clear hcz29_1
                          try clear hcz31_0
                          try clear hcz31_1
                          try clear hcz31_2
                          try clear hcz31_3
                          try clear hcz34_0
                          try clear hcz34_1
                          try clear hcz37_0
                          try clear hcz37_1
                          try clear hcz39_0
                          try clear hcz39_1
                          try clear hcz4_0
                          try clear hcz4_1
                          try clear hcz4_2
                          try clear hcz4_3
                          try clear hcz8_0
                          try clear hcz8_1
                          try clear hcz8_2
                          try clear hcz8_3
                          try clear hfz14_0
                          try clear hfz14_1
                          try clear hfz14_2
                          try clear hfz14_3
                          try clear hfz15_0
                          try clear hfz15_1
                          try clear hfz15_2
                          try clear hfz15_3
                          try clear hfz20_0
                          try clear hfz20_1
                          try clear hfz20_2
                          try clear hfz20_3
                          try clear hfz21_0
                          try clear hfz21_1
                          try clear hfz21_2
                          try clear hfz21_3
                          try clear hfz26_0
                          try clear hfz26_1
                          try clear hfz26_2
                          try clear hfz26_3
                          try clear hfz29_0
                          try clear hfz29_1
                          try clear hfz31_0
                          try clear hfz31_1
                          try clear hfz31_2
                          try clear hfz31_3
                          try clear hfz34_0
                          try clear hfz34_1
                          try clear hfz37_0
                          try clear hfz37_1
                          try clear hfz39_0
                          try clear hfz39_1
                          try clear hfz4_0
                          try clear hfz4_1
                          try clear hfz4_2
                          try clear hfz4_3
                          try clear hfz8_0
                          try clear hfz8_1
                          try clear hfz8_2
                          try clear hfz8_3
                          try clear hx180_0
                          try clear hx180_1
                          try clear p1
                          try clear p18
                          try clear p180
                          try clear p2
                          try clear p6
                          try clear q1
                          try clear q18
                          try clear q180
                          obtain ⟨x8_6, rfl, HA, HK6, BK177, BK181, HB⟩ := hrel
                          cases gk with
                          | zero => exact absurd HA.out (by simp [dovetailref03_Check.l1])
                          | succ k6 =>
                           have H := HA.out
                           clear HA
                           simp only [dovetailref03_Check.l1] at H
                           by_cases c41 : x8_6 < (((rd_T41 l0_3 x6_4).f1).length : Int)
                           · rw [if_pos c41] at H
                             have c41b0 : decide (x8_6 < (((rd_T41 l0_3 x6_4).f1).length : Int)) = true := decide_eq_true c41
                             clear c41
                             by_cases c42 : 0 ≤ x8_6
                             · rw [if_pos c42] at H
                               have c42b0 : decide (0 ≤ x8_6) = true := decide_eq_true c42
                               clear c42
                               by_cases c43 : (rd ((rd_T41 l0_3 x6_4).f1) x8_6) ≥ (l0_0.length : Int)
                               · rw [if_pos c43] at H
                                 have c43b0 : decide ((l0_0.length : Int) ≤ (rd ((rd_T41 l0_3 x6_4).f1) x8_6)) = true := decide_eq_true c43
                                 clear c43
                                 simp only [Option.some.injEq, Prod.mk.injEq] at H
                                 obtain ⟨rfl, rfl⟩ := H
                                 have hnb44 := NB181_177.out
                                 have hnc44 := NB177_181.out
                                 have hcz45_0 : wr.cell? ⟨gb181, 0, none⟩ = some (.int .i64 ((rd_T41 l0_3 x6_4).f0)) := (blk_cell BK181.out 0).trans rfl
                                 have hcz45_1 : wr.cell? ⟨gb181, 1, none⟩ = some (.slice A180_1 ((rd_T41 l0_3 x6_4).f1).length c180_1) := (blk_cell BK181.out 1).trans rfl
                                 have hfz45_0 := blk_frozen BK181.out 0
                                 have hfz45_1 := blk_frozen BK181.out 1
                                 have p182 : 0 ≤ (x8_6 : Int) := of_decide_eq_true (by first | (with_reducible assumption) | assumption)
                                 have q182 : x8_6 < (((rd_T41 l0_3 x6_4).f1).length : Int) := of_decide_eq_true (by first | (with_reducible assumption) | assumption)
                                 obtain ⟨ad182, e182, hx182_0⟩ := Kd.at_int HR180_1.out x8_6 p182 q182
                                 cases e182
                                 replace hx182_0 := (HB.out.cell (World.block_lt_of_cell? w _ hx182_0)).trans hx182_0
                                 replace p182 := eq_true p182
                                 replace q182 := eq_true q182
                                 go_wp2
                                 go_ret2
                                 exact ⟨by first | rfl | (simp [errW_none, errW_some] <;> rfl) | (simp [*, errW_none, errW_some] <;> rfl), by repeat (first | (with_reducible first | exact HB.out | apply below_alloc | apply pw_below_drewN | apply below_drew1 | refine below_set ?_ GE177.out | refine below_set ?_ GE181.out) | exact HB.out)⟩
                               · rw [if_neg c43] at H
                                 have c43b0 : decide ((l0_0.length : Int) ≤ (rd ((rd_T41 l0_3 x6_4).f1) x8_6)) = false := decide_eq_false c43
                                 clear c43
                                 by_cases c46 : (rd ((rd_T41 l0_3 x6_4).f1) x8_6) < (wrap64 (-(l0_1.length : Int)))
                                 · rw [if_pos c46] at H
                                   have c46b0 : decide ((rd ((rd_T41 l0_3 x6_4).f1) x8_6) < (wrap64 (-(l0_1.length : Int)))) = true := decide_eq_true c46
                                   clear c46
                                   simp only [Option.some.injEq, Prod.mk.injEq] at H
                                   obtain ⟨rfl, rfl⟩ := H
                                   have hnb47 := NB181_177.out
                                   have hnc47 := NB177_181.out
                                   have hcz48_0 : wr.cell? ⟨gb181, 0, none⟩ = some (.int .i64 ((rd_T41 l0_3 x6_4).f0)) := (blk_cell BK181.out 0).trans rfl
                                   have hcz48_1 : wr.cell? ⟨gb181, 1, none⟩ = some (.slice A180_1 ((rd_T41 l0_3 x6_4).f1).length c180_1) := (blk_cell BK181.out 1).trans rfl
                                   have hfz48_0 := blk_frozen BK181.out 0
                                   have hfz48_1 := blk_frozen BK181.out 1
                                   have p182 : 0 ≤ (x8_6 : Int) := of_decide_eq_true (by first | (with_reducible assumption) | assumption)
                                   have q182 : x8_6 < (((rd_T41 l0_3 x6_4).f1).length : Int) := of_decide_eq_true (by first | (with_reducible assumption) | assumption)
                                   obtain ⟨ad182, e182, hx182_0⟩ := Kd.at_int HR180_1.out x8_6 p182 q182
                                   cases e182
                                   replace hx182_0 := (HB.out.cell (World.block_lt_of_cell? w _ hx182_0)).trans hx182_0
                                   replace p182 := eq_true p182
                                   replace q182 := eq_true q182
                                   have p183 : 0 ≤ (x8_6 : Int) := of_decide_eq_true (by first | (with_reducible assumption) | assumption)
                                   have q183 : x8_6 < (((rd_T41 l0_3 x6_4).f1).length : Int) := of_decide_eq_true (by first | (with_reducible assumption) | assumption)
                                   obtain ⟨ad183, e183, hx183_0⟩ := Kd.at_int HR180_1.out x8_6 p183 q183
                                   obtain rfl : ad182 = ad183 := (by injection e183)
                                   replace hx183_0 := (HB.out.cell (World.block_lt_of_cell? w _ hx183_0)).trans hx183_0
                                   replace p183 := eq_true p183
                                   replace q183 := eq_true q183
                                   go_wp2
                                   go_ret2
                                   exact ⟨by first | rfl | (simp [errW_none, errW_some] <;> rfl) | (simp [*, errW_none, errW_some] <;> rfl), by repeat (first | (with_reducible first | exact HB.out | apply below_alloc | apply pw_below_drewN | apply below_drew1 | refine below_set ?_ GE177.out | refine below_set ?_ GE181.out) | exact HB.out)⟩
                                 · rw [if_neg c46] at H
                                   have c46b0 : decide ((rd ((rd_T41 l0_3 x6_4).f1) x8_6) < (wrap64 (-(l0_1.length : Int)))) = false := decide_eq_false c46
                                   clear c46
                                   have H' := Aside0.mk H
                                   clear H
                                   have hnb49 := NB181_177.out
                                   have hnc49 := NB177_181.out
                                   have hcz50_0 : wr.cell? ⟨gb181, 0, none⟩ = some (.int .i64 ((rd_T41 l0_3 x6_4).f0)) := (blk_cell BK181.out 0).trans rfl
                                   have hcz50_1 : wr.cell? ⟨gb181, 1, none⟩ = some (.slice A180_1 ((rd_T41 l0_3 x6_4).f1).length c180_1) := (blk_cell BK181.out 1).trans rfl
                                   have hfz50_0 := blk_frozen BK181.out 0
                                   have hfz50_1 := blk_frozen BK181.out 1
                                   have p182 : 0 ≤ (x8_6 : Int) := of_decide_eq_true (by first | (with_reducible assumption) | assumption)
                                   have q182 : x8_6 < (((rd_T41 l0_3 x6_4).f1).length : Int) := of_decide_eq_true (by first | (with_reducible assumption) | assumption)
                                   obtain ⟨ad182, e182, hx182_0⟩ := Kd.at_int HR180_1.out x8_6 p182 q182
                                   cases e182
                                   replace hx182_0 := (HB.out.cell (World.block_lt_of_cell? w _ hx182_0)).trans hx182_0
                                   replace p182 := eq_true p182
                                   replace q182 := eq_true q182
                                   have p183 : 0 ≤ (x8_6 : Int) := of_decide_eq_true (by first | (with_reducible assumption) | assumption)
                                   have q183 : x8_6 < (((rd_T41 l0_3 x6_4).f1).length : Int) := of_decide_eq_true (by first | (with_reducible assumption) | assumption)
                                   obtain ⟨ad183, e183, hx183_0⟩ := Kd.at_int HR180_1.out x8_6 p183 q183
                                   obtain rfl : ad182 = ad183 := (by injection e183)
                                   replace hx183_0 := (HB.out.cell (World.block_lt_of_cell? w _ hx183_0)).trans hx183_0
                                   replace p183 := eq_true p183
                                   replace q183 := eq_true q183
                                   go_wp2
                                   go_roundg k6
                                   case measure => have := HJ1.out; have := HJ9.out; have := HJ16.out; have := HK4.out; have := HJ29.out; have := HK6.out; omega
                                   case rel => exact ⟨(wrap64 (x8_6 + 1)), (by first | rfl | (simp; done) | (simp [*]; done)), H', ⟨by have := HJ1.out; have := HJ9.out; have := HJ16.out; have := HK4.out; have := HJ29.out; have := HK6.out; omega⟩, ⟨by (with_reducible repeat (first | refine blk_drewN ?_ _ | refine blk_drew ?_ | refine blk_alloc ?_ _)); exact BK177.out⟩, ⟨by (with_reducible repeat (first | refine blk_drewN ?_ _ | refine blk_drew ?_ | refine blk_alloc ?_ _)); exact BK181.out⟩, ⟨by repeat (first | (with_reducible first | exact HB.out | apply below_alloc | apply pw_below_drewN | apply below_drew1 | refine below_set ?_ GE177.out | refine below_set ?_ GE181.out) | exact HB.out)⟩⟩
                             · rw [if_neg c42] at H
                               exact absurd H (by simp)
                           · rw [if_neg c41] at H
                             have c41b0 : decide (x8_6 < (((rd_T41 l0_3 x6_4).f1).length : Int)) = false := decide_eq_false c41
                             clear c41
                             have H' := Aside0.mk H
                             clear H
                             have hnb51 := NB181_177.out
                             have hnc51 := NB177_181.out
                             have hcz52_0 : wr.cell? ⟨gb181, 0, none⟩ = some (.int .i64 ((rd_T41 l0_3 x6_4).f0)) := (blk_cell BK181.out 0).trans rfl
                             have hcz52_1 : wr.cell? ⟨gb181, 1, none⟩ = some (.slice A180_1 ((rd_T41 l0_3 x6_4).f1).length c180_1) := (blk_cell BK181.out 1).trans rfl
                             have hfz52_0 := blk_frozen BK181.out 0
                             have hfz52_1 := blk_frozen BK181.out 1
                             go_wp2
                             go_roundg k6
                             case measure => have := HJ1.out; have := HJ9.out; have := HJ16.out; have := HK4.out; have := HJ29.out; have := HK6.out; omega
                             case rel => exact ⟨(wrap64 (x6_4 + 1)), (by first | rfl | (simp; done) | (simp [*]; done)), H', ⟨by have := HJ1.out; have := HJ9.out; have := HJ16.out; have := HK4.out; have := HJ29.out; have := HK6.out; omega⟩, ⟨by (with_reducible repeat (first | refine blk_drewN ?_ _ | refine blk_drew ?_ | refine blk_alloc ?_ _)); exact BK177.out⟩, ⟨by repeat (first | (with_reducible first | exact HB.out | apply below_alloc | apply pw_below_drewN | apply below_drew1 | refine below_set ?_ GE177.out | refine below_set ?_ GE181.out) | exact HB.out)⟩⟩
                 · rw [if_neg c24] at H
                   exact absurd H (by simp)
               · rw [if_neg c23] at H
                 have c23b0 : decide (x6_4 < (l0_3.length : Int)) = false := decide_eq_false c23
                 clear c23
                 simp only [Option.some.injEq, Prod.mk.injEq] at H
                 obtain ⟨rfl, rfl⟩ := H
                 have hcz53_0 : wr.cell? ⟨gb177, 0, none⟩ = some (.slice A0_0 l0_0.length c0_0) := (blk_cell BK177.out 0).trans rfl
                 have hcz53_1 : wr.cell? ⟨gb177, 1, none⟩ = some (.slice A0_1 l0_1.length c0_1) := (blk_cell BK177.out 1).trans rfl
                 have hcz53_2 : wr.cell? ⟨gb177, 2, none⟩ = some (.int .i64 a0_2) := (blk_cell BK177.out 2).trans rfl
                 have hcz53_3 : wr.cell? ⟨gb177, 3, none⟩ = some (.slice A0_3 l0_3.length c0_3) := (blk_cell BK177.out 3).trans rfl
                 have hfz53_0 := blk_frozen BK177.out 0
                 have hfz53_1 := blk_frozen BK177.out 1
                 have hfz53_2 := blk_frozen BK177.out 2
                 have hfz53_3 := blk_frozen BK177.out 3
                 go_wp2
                 go_ret2
                 exact ⟨by first | rfl | (simp [errW_none, errW_some] <;> rfl) | (simp [*, errW_none, errW_some] <;> rfl), by repeat (first | (with_reducible first | exact HB.out | apply below_alloc | apply pw_below_drewN | apply below_drew1 | refine below_set ?_ GE177.out) | exact HB.out)⟩

end Go.Proofs.YtjkifeladmhkoaaDoor.B
/- The document's Check, in plain Lean: what gram.Check tells. -/
set_option linter.unusedVariables false
set_option linter.unusedSimpArgs false
namespace Go.Proofs.YtjkifeladmhkoaaDoor.B
open Go.RowKit Go.Proofs.YtjkifeladmhkoaaDoorW.PrintWords Go.Proofs.YtjkifeladmhkoaaDoorW.PrintLast Go.Proofs.YtjkifeladmhkoaaDoorW.PrintMore

theorem refNamed_in (l : List ByteArray) (hm : l.length ≤ 9223372036854775807) (i : Nat) (hi : i < l.length) (r : Bool) (B : Nat) (hB : ∀ k, B ≤ k → dovetailref03_named.l0 k l ((i + 1 : Nat) : Int) = some r) :
 ∀ (d j k : Nat), i - j = d → j ≤ i → d + B + 1 ≤ k → dovetailref03_named.l1 k l (i : Int) (j : Int) = some (!((l.take i).drop j).any (fun x => decide (l.getD i ByteArray.empty = x)) && r) := by
 intro d
 induction d with
 | zero =>
  intro j k hd hj hk
  obtain ⟨k, rfl⟩ : ∃ m, k = m + 1 := ⟨k - 1, by omega⟩
  have : j = i := by omega
  subst this
  rw [dovetailref03_named.l1, if_neg (by omega), w64 j (by omega), hB k (by omega), List.drop_of_length_le (by rw [List.length_take]; omega)]
  simp
 | succ d ih =>
  intro j k hd hj hk
  obtain ⟨k, rfl⟩ : ∃ m, k = m + 1 := ⟨k - 1, by omega⟩
  have hlt : j < i := by omega
  have hdr : (l.take i).drop j = l[j] :: (l.take i).drop (j + 1) := by
   rw [List.drop_eq_getElem_cons (by rw [List.length_take]; omega), List.getElem_take]
  rw [dovetailref03_named.l1, if_pos (by omega), if_pos (by omega), if_pos (by omega), if_pos (by omega), if_pos (by omega), rdS_D, rdS_D, getD_lt l j _ (by omega), hdr, List.any_cons]
  by_cases c : l[j] = l.getD i ByteArray.empty
  · rw [if_pos ((toL_eq _ _).2 c), decide_eq_true c.symm]; rfl
  · rw [if_neg (fun h => c ((toL_eq _ _).1 h)), w64 j (by omega), ih (j + 1) k (by omega) (by omega) (by omega), decide_eq_false (fun h => c h.symm)]; rfl
theorem refNamed_l (l : List ByteArray) (hm : l.length ≤ 9223372036854775807) : ∀ (d i k : Nat), l.length - i = d → i ≤ l.length → d * (l.length + 3) + 1 ≤ k → dovetailref03_named.l0 k l (i : Int) = some (namesFrom l i) := by
 intro d
 induction d with
 | zero =>
  intro i k hi hle hk
  obtain ⟨k, rfl⟩ : ∃ j, k = j + 1 := ⟨k - 1, by omega⟩
  have : i = l.length := by omega
  subst this
  rw [dovetailref03_named.l0, if_neg (by omega), namesFrom_end]
 | succ d ih =>
  intro i k hi hle hk
  rw [Nat.add_mul, Nat.one_mul] at hk
  obtain ⟨k, rfl⟩ : ∃ j, k = j + 2 := ⟨k - 2, by omega⟩
  have hlt : i < l.length := by omega
  have hin := refNamed_in l hm i hlt _ _ (fun k hk => ih (i + 1) k (by omega) (by omega) hk) i 0 k (by omega) (by omega) (by omega)
  rw [dovetailref03_named.l0, if_pos (by omega), if_pos (by omega), rdS_D, namesFrom_step l i hlt]
  rw [List.drop_zero] at hin
  unfold faultAt
  generalize hs : l.getD i ByteArray.empty = s at hin
  by_cases c1 : s.size = 0
  · rw [if_pos (by omega), dovetailref03_named.j1, if_pos rfl]; simp [c1]
  · rw [if_neg (by omega), dovetailref03_named.j1]
    by_cases c2 : 32 < s.size
    · rw [if_pos (decide_eq_true (by omega))]; simp [c2]
    · have hin' : dovetailref03_named.l1 k l (i : Int) 0 = _ := hin
      rw [if_neg (by simp; omega), hin', decide_eq_false c1, decide_eq_false c2]
      simp
theorem refNamed_f (l : List ByteArray) (k : Nat) (hm : l.length ≤ 9223372036854775807) (hk : l.length * (l.length + 3) + 1 ≤ k) : dovetailref03_named.f k l = some (namesOK l) := by
 unfold dovetailref03_named.f
 have := refNamed_l l hm l.length 0 k (by omega) (by omega) hk
 rw [namesFrom_zero] at this
 exact this
theorem refCheck_in (t n : Nat) (hn : n ≤ 60) (l0 l1 : List ByteArray) (a2 : Int) (R : List S41) (i : Nat) (hi : i < 200) (x0 : Int) (xs : List Int) (hx : xs.length ≤ 32) (r : Int × Int) (B : Nat) (hB : ∀ k, B ≤ k → dovetailref03_Check.l0 k (t : Int) (n : Int) ((i + 1 : Nat) : Int) l0 l1 a2 R = some r) :
 ∀ (d j k : Nat), xs.length - j = d → j ≤ xs.length → d + B + 1 ≤ k → dovetailref03_Check.l1 k (t : Int) (n : Int) (i : Int) (j : Int) l0 l1 a2 R x0 xs = some (if (xs.drop j).any (outS t n) = true then (1, (i : Int)) else r) := by
 intro d
 induction d with
 | zero =>
  intro j k hd hj hk
  obtain ⟨k, rfl⟩ : ∃ m, k = m + 1 := ⟨k - 1, by omega⟩
  have : j = xs.length := by omega
  subst this
  rw [dovetailref03_Check.l1, if_neg (by omega), w64 i (by omega), hB k (by omega), List.drop_length]
  rfl
 | succ d ih =>
  intro j k hd hj hk
  obtain ⟨k, rfl⟩ : ∃ m, k = m + 1 := ⟨k - 1, by omega⟩
  have hlt : j < xs.length := by omega
  have hwn : wrap64 (-(n : Int)) = -(n : Int) := by unfold wrap64; omega
  rw [dovetailref03_Check.l1, if_pos (by omega), if_pos (by omega), rd_D, getD_lt xs j _ hlt, hwn, List.drop_eq_getElem_cons hlt, List.any_cons]
  generalize xs[j] = s
  have ho : outS t n s = (decide ((t : Int) ≤ s) || decide (s < -(n : Int))) := rfl
  rw [ho]
  by_cases c1 : (t : Int) ≤ s
  · rw [if_pos (by omega), decide_eq_true c1]; rfl
  · by_cases c2 : s < -(n : Int)
    · rw [if_neg (by omega), if_pos c2, decide_eq_true c2, Bool.or_true]; rfl
    · rw [if_neg (by omega), if_neg c2, w64 j (by omega), ih (j + 1) k (by omega) (by omega) (by omega), decide_eq_false c1, decide_eq_false c2]; rfl
theorem refCheck_l (t n : Nat) (hn : n ≤ 60) (l0 l1 : List ByteArray) (a2 : Int) (R : List S41) (hR : R.length ≤ 120) : ∀ (d i k : Nat), R.length - i = d → i ≤ R.length → d * 40 + 1 ≤ k → dovetailref03_Check.l0 k (t : Int) (n : Int) (i : Int) l0 l1 a2 R = some (chkRs t n (R.drop i) i) := by
 intro d
 induction d with
 | zero =>
  intro i k hi hle hk
  obtain ⟨k, rfl⟩ : ∃ j, k = j + 1 := ⟨k - 1, by omega⟩
  have : i = R.length := by omega
  subst this
  rw [dovetailref03_Check.l0, if_neg (by omega), List.drop_length]
  rfl
 | succ d ih =>
  intro i k hi hle hk
  obtain ⟨k, rfl⟩ : ∃ j, k = j + 2 := ⟨k - 2, by omega⟩
  have hlt : i < R.length := by omega
  rw [dovetailref03_Check.l0, if_pos (by omega), if_pos (by omega), rdR_D, getD_lt R i _ hlt, chkRs_drop t n R i hlt]
  generalize R[i] = x
  obtain ⟨x0, xs⟩ := x
  dsimp only
  by_cases c0 : 32 < xs.length
  · have e : checkR t n ⟨x0, xs⟩ = 3 := by simp [checkR, c0]
    rw [if_pos (by omega), e, if_neg (by decide)]
  rw [if_neg (by omega)]
  by_cases c1 : x0 < 0
  · have e : checkR t n ⟨x0, xs⟩ = 1 := by simp [checkR, c0, c1]
    rw [if_pos c1, dovetailref03_Check.j4, if_pos rfl, e, if_neg (by decide)]
  rw [if_neg c1, dovetailref03_Check.j4]
  by_cases c2 : (n : Int) ≤ x0
  · have e : checkR t n ⟨x0, xs⟩ = 1 := by simp [checkR, c0, c2]
    rw [if_pos (decide_eq_true (by omega)), e, if_neg (by decide)]
  have hin : dovetailref03_Check.l1 k (t : Int) (n : Int) (i : Int) 0 l0 l1 a2 R x0 xs = _ := refCheck_in t n hn l0 l1 a2 R i (by omega) x0 xs (by omega) _ _ (fun k hk => ih (i + 1) k (by omega) (by omega) hk) xs.length 0 k (by omega) (by omega) (by omega)
  rw [if_neg (by simp; omega), hin, List.drop_zero]
  cases c3 : xs.any (outS t n) with
  | true =>
   have e : checkR t n ⟨x0, xs⟩ = 1 := by simp [checkR, c0, c3]
   rw [if_pos rfl, e, if_neg (by decide)]
  | false =>
   have e : checkR t n ⟨x0, xs⟩ = 0 := by simp [checkR, c0, c1, c2, c3]
   rw [if_neg (by decide), e, if_pos rfl]
theorem refCheck_f (l0 l1 : List ByteArray) (a2 : Int) (R : List S41) (m0 : l0.length ≤ 9223372036854775807) (m1 : l1.length ≤ 9223372036854775807) (k : Nat) (hk : 20000 ≤ k) :
 dovetailref03_Check.f k l0 l1 a2 R = some (chk (namesOK l0) (namesOK l1) l0.length l1.length a2 R) := by
 obtain ⟨k, rfl⟩ : ∃ j, k = j + 4 := ⟨k - 4, by omega⟩
 have hno : ∀ x, dovetailref03_Check.j0 (k + 4) (l0.length : Int) (l1.length : Int) true x l1 a2 R = some (3, -1) := fun x => by rw [dovetailref03_Check.j0, if_pos rfl]
 unfold dovetailref03_Check.f chk
 by_cases c0 : 60 < l0.length
 · rw [if_pos (by omega), hno, if_pos (by omega)]
 rw [if_neg (by omega)]
 by_cases c1 : 60 < l1.length
 · rw [if_pos (by omega), hno, if_pos (by omega)]
 rw [if_neg (by omega)]
 have hw : wrap64 ((l0.length : Int) + (l1.length : Int)) = (l0.length : Int) + (l1.length : Int) := by unfold wrap64; omega
 rw [hw]
 by_cases c2 : 60 < l0.length + l1.length
 · rw [if_pos (by omega), hno, if_pos (by omega)]
 rw [if_neg (by omega), dovetailref03_Check.j0]
 by_cases c3 : 120 < R.length
 · rw [if_pos (decide_eq_true (by omega)), if_pos (by omega)]
 rw [if_neg (by simp; omega), if_neg (by omega)]
 have hb : ∀ n : Nat, n ≤ 60 → n * (n + 3) + 1 ≤ 4000 := fun n hn => by
  have := Nat.mul_le_mul hn (show n + 3 ≤ 63 by omega)
  omega
 have hb0 := hb l0.length (by omega)
 have hb1 := hb l1.length (by omega)
 rw [refNamed_f l0 (k + 3) m0 (by omega), Option.bind_some]
 cases h0 : namesOK l0 with
 | false => rw [if_neg (by decide), dovetailref03_Check.j1, if_pos rfl]; rfl
 | true =>
  rw [if_pos rfl, refNamed_f l1 (k + 3) m1 (by omega), Option.bind_some, dovetailref03_Check.j1]
  cases h1 : namesOK l1 with
  | false => rw [if_pos (by rfl)]; rfl
  | true =>
   rw [if_neg (show ¬ (!true) = true by decide), if_neg (show ¬ (true && true) = false by decide)]
   have hl : dovetailref03_Check.l0 (k + 1) (l0.length : Int) (l1.length : Int) 0 l0 l1 a2 R = _ := refCheck_l l0.length l1.length (by omega) l0 l1 a2 R (by omega) R.length 0 (k + 1) (by omega) (by omega) (by omega)
   rw [List.drop_zero] at hl
   by_cases c4 : l1.length = 0
   · rw [if_pos (by omega), dovetailref03_Check.j2, if_pos rfl, if_pos (by omega)]
   rw [if_neg (by omega)]
   by_cases c5 : a2 < 0
   · rw [if_pos c5, dovetailref03_Check.j2, if_pos rfl, if_pos (.inl c5)]
   rw [if_neg c5, dovetailref03_Check.j2]
   by_cases c6 : (l1.length : Int) ≤ a2
   · rw [if_pos (decide_eq_true (by omega)), if_pos (.inr c6)]
   rw [if_neg (by simp; omega), if_neg (by omega)]
   exact hl
end Go.Proofs.YtjkifeladmhkoaaDoor.B
