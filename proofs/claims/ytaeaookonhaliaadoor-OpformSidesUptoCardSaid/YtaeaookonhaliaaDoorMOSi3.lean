/-
 dovetaillaw06.OpformSides: whatever is handed in, of bulk at most 1048576, the call answers true, and each argument reads as it did.
 Conditions: those of the given statement OpformSidesUptoCardSaid alone.
-/
import Derived.Test.YtaeaookonhaliaaDoorMOSi2
import Derived.Sort.CutIn
import Derived.Test.YtaeaookonhaliaaDoorMOSi1
import Derived.Test.YtaeaookonhaliaaDoorCards
import Derived.Test.YtaeaookonhaliaaDoorTie
import Derived.LaidLaws
import Derived.LaidHandle
import Derived.Lib.LaidTab
import Derived.Lib.LaidIn
import Derived.SevenTiedAt
import Derived.WideShapes
import Derived.JoinedCond
import Derived.ChangeMaps5
import Derived.SizedLaws
import Derived.Deep.DeepHandedRow
import Derived.Deep.DeepWitnessRowRef
/- dovetaillaw06.OpformSides: walked. -/
set_option linter.unusedVariables false
set_option linter.unusedSimpArgs false
namespace Go.Proofs.YtaeaookonhaliaaDoor.R6
open Go.RowKit Go.Shelf YtaeaookonhaliaaDoorW.PrintWords YtaeaookonhaliaaDoorW.PrintLast YtaeaookonhaliaaDoorW.PrintMore
open B H F CO AP
attribute [local go_sem] Oper.semAt_some
theorem skel_l (l : List Int) (hm : l.length ≤ 9223372036854775807) (hm2 : l.length < 17592186044415) : ∀ (d i k : Nat), l.length - i = d → i ≤ l.length → d < k → dovetailref06_Skeleton.l0 k l ((l.take i).map mx) (i : Int) = some (l.map mx)
 | 0, i, k + 1, hd, hi, hk => by
  have e : i = l.length := by omega
  subst e
  unfold dovetailref06_Skeleton.l0
  rw [if_neg (by omega), List.take_length]
 | d + 1, i, k + 1, hd, hi, hk => by
  have hlt : i < l.length := by omega
  have ih := skel_l l hm hm2 d (i + 1) k (by omega) (by omega) (by omega)
  have htk : (l.take (i + 1)).map mx = (l.take i).map mx ++ [mx l[i]] := by rw [List.take_succ_eq_append_getElem hlt, List.map_append]; rfl
  have hlen : ((l.take i).map mx).length < 17592186044416 := by rw [List.length_map, List.length_take]; omega
  unfold dovetailref06_Skeleton.l0
  rw [if_pos (by omega), if_pos (by omega), wrap_succ i (by omega), rd_nat l i hlt]
  by_cases hn : l[i] < 0
  · rw [if_pos hn, if_pos hlen]
    have : mx l[i] = -1 := by unfold mx; split <;> omega
    rw [this] at htk
    rw [← htk]; exact ih
  · rw [if_neg hn, if_pos hlen]
    have : mx l[i] = l[i] := by unfold mx; split <;> omega
    rw [this] at htk
    rw [← htk]; exact ih
theorem skel_f (l : List Int) (hm : l.length < 17592186044415) : dovetailref06_Skeleton.f (l.length + 1) l = some (l.map mx) := skel_l l (by omega) hm l.length 0 (l.length + 1) rfl (Nat.zero_le _) (by omega)
theorem lit2_All (W : World) (b : Nat) (t : TypeId) (x y : OneV) (h : W.heap[b]? = some (.cells #[x.1, y.1] t (0, 0))) : All (some ⟨b, 0, none⟩) [x, y] W :=
 lit_row kV h [x, y] (by simp) fun j p hj => ⟨[p.1], rfl, rfl, fun i u hu => by
  obtain rfl : i = 0 := by
   rcases i with _ | i
   · rfl
   · simp at hu
  obtain rfl : p.1 = u := by simpa using hu
  show #[x.1, y.1][j * 1 + 0]? = _
  match j, hj with
  | 0, hj => simp at hj; subst hj; rfl
  | 1, hj => simp at hj; subst hj; rfl⟩
theorem Mid.blk {lo hi : Nat} {A : Option Addr} {n c : Nat} {X : List Int} {W : World} (h : Mid lo hi (.slice A n c) X W) (hp : 0 < X.length) : ∃ g cur, A = some ⟨g, 0, none⟩ ∧ lo ≤ g ∧ g < hi ∧ W.heap[g]? = some (.cells cur 3 (0, 0)) ∧ X.length ≤ cur.size := by
 rcases h with h | ⟨g, cur, e, h1, h2, h3, h4, h5⟩
 · have ho := Kd.own_of_R (enc := Value.int .i64) (h1 := fun _ => rfl) h
   have hk := h.1
   rcases ho with ⟨hl, ⟨e, h0⟩ | ⟨g, cap, cur, e, hb, hg, hn, hc, hs, ht⟩⟩
   · omega
   · injection e with e1 e2 e3
     subst e1
     have := hk g rfl
     exact ⟨g, cur, rfl, this.1, this.2, hg, by omega⟩
 · injection e with e1 e2 e3
   subst e1
   refine ⟨g, cur, rfl, h1.1, h1.2, h3, ?_⟩
   have h7 := congrArg List.length h5
   rw [List.length_take, nums_length] at h7
   have h8 : cur.toList.length = cur.size := Array.length_toList
   omega
theorem SD.apart {w W : World} {rv : Value} {u : Int} {l : List Int} {B : Option Addr} {d : Nat} {S T V : Option Addr} {b : Nat} {C : Option Addr} {cc z1 z2 z3 : Nat} (h : SD w rv u l B d S T V b C cc z1 z2 z3 W) (hbW : b < W.heap.size) (hl : l.length ≤ 1048576) :
 ∃ q, B = some ⟨q, 0, none⟩ ∧ Calls Tryd.prog 23 #[.slice (some ⟨W.heap.size, 0, none⟩) 2 2] (W.alloc (.cells #[.slice S l.length l.length, .slice T l.length l.length] 22)) fun e w' => e = .returned (.bool true) ∧ PH w rv u l q b C cc W.heap.size w' := by
 obtain ⟨q, cur, hB, q1, q2, q3, q4⟩ := h.rin.blk (by simp)
 obtain ⟨y1, y2, y3, y4, y5⟩ := h.zs
 have hnm : (l.map mx).length = l.length := List.length_map _
 have hsz := h.sb.sz
 refine ⟨q, hB, ?_⟩
 have hb1 : Below W.heap.size W (W.alloc (.cells #[.slice S l.length l.length, .slice T l.length l.length] 22)) := (Below.refl _ W).alloc (Nat.le_refl _) _
 have hS : ∀ k, (Value.slice S l.length l.length).ownBlock = some k → z1 ≤ k ∧ k < z2 := fun k hk => (RC.lo h.rs k hk).1
 have hT : ∀ k, (Value.slice T l.length l.length).ownBlock = some k → z2 ≤ k ∧ k < z3 := fun k hk => (RC.lo h.rt k hk).1
 have hvs : ∀ k, (k < z1 ∨ z3 ≤ k) → ∀ j, j < 2 → (vd [⟨.slice S l.length l.length, rfl⟩, ⟨.slice T l.length l.length, rfl⟩] j).ownBlock ≠ some k := fun k hk j hj e => by
  match j, hj with
  | 0, _ => have := hS k e; omega
  | 1, _ => have := hT k e; omega
 refine (ApartInts_keeps (w.heap.size + 3) [⟨.slice S l.length l.length, rfl⟩, ⟨.slice T l.length l.length, rfl⟩] [l.map mx, l.map mx] (some ⟨W.heap.size, 0, none⟩) 2 (W.alloc (.cells #[.slice S l.length l.length, .slice T l.length l.length] 22)) (by simp) (Nat.le_refl 2) (lit2_All _ _ _ _ _ (World.alloc_heap_new W _)) ?_ ?_ rfl ?_ (by simp; omega)).mono ?_
 · intro ad e j hj
   obtain rfl := Option.some.inj e
   refine hvs _ (.inr ?_) j hj
   show z3 ≤ W.heap.size
   omega
 · intro i hi
   match i, hi with
   | 0, _ =>
    refine RC.weak (RC.lower (RC.below h.rs hb1) (by omega)) (fun k hk j hj hne e => ?_)
    have g1 := hS k hk
    match j, hj with
    | 1, _ => have := hT k e.symm; omega
    | 0, _ => exact hne rfl
   | 1, _ =>
    refine RC.weak (RC.lower (RC.below h.rt hb1) (by omega)) (fun k hk j hj hne e => ?_)
    have g1 := hT k hk
    match j, hj with
    | 0, _ => have := hS k e.symm; omega
    | 1, _ => exact hne rfl
 · intro p hp
   match p, hp with
   | 0, _ => show (l.map mx).length ≤ _; omega
   | 1, _ => show (l.map mx).length ≤ _; omega
 · rintro e w' ⟨he, ho⟩
   have keep : ∀ k, k < W.heap.size → (k < z1 ∨ z3 ≤ k) → w'.heap[k]? = W.heap[k]? := fun k hk hz => (ho.old k (by simp; omega) (hvs k hz)).trans (Below.heap_alloc _ _ _ hk)
   refine ⟨he, (h.sb.more hb1).base _ ho.low (Nat.le_refl _), ⟨cur, (keep q (Array.getElem?_eq_some_iff.1 q3).1 (.inl q2)).trans q3, by simp at q4; omega⟩, (keep b hbW (.inr y4)).trans h.bx, C_block h.rc (fun ad e => keep _ (y5 ad e).2 (.inr (y5 ad e).1)), q1, by omega, hbW, by have := ho.low.size; simp at this; omega, fun ad e => ⟨by have := (y5 ad e).1; omega, (y5 ad e).2⟩⟩
set_option maxRecDepth 100000 in
set_option maxHeartbeats 8000000 in
theorem OpformSides_calls (ad : Int → Addr) (A : Option Addr) (c : Nat) (l : List Int) (u : Int) (w : World) (hs : SentsK ad w) (hg : HandleP w) (hr : Kd.C (Kd.int .i64) w A l.length l) (hc : l.length ≤ c) (hl : l.length ≤ 1048576) (hu : -9223372036854775808 ≤ u ∧ u < 9223372036854775808) :
 Calls Tryd.prog 5 #[.slice A l.length c, .int .i64 u] w fun e w' => e = .returned (.bool true) ∧ Below w.heap.size w w' := by
 have st := SB.start w (.slice A l.length c) u
 have hnm : (l.map mx).length = l.length := List.length_map _
 have KL : Aside0 (∀ W, SB w (.slice A l.length c) u W → Calls Tryd.prog 19 #[.slice A l.length c] W fun e w' => ∃ B d, e = .returned (.slice B l.length d) ∧ Aside0 (SB w (.slice A l.length c) u w' ∧ l.length + 1 ≤ d ∧ Mid (w.heap.size + 3) w'.heap.size (.slice B (l.length + 1) d) (l ++ [-7171]) w')) := ⟨fun W hW =>
  (LentInts_m A c l W (Kd.C_below hr hW.low) (by omega)).mono fun e w' ⟨B, d, he, h⟩ => ⟨B, d, he, ⟨hW.more h.out.2, (Kd.R_reads' h.out.1).2.1, Mid.of (Kd.R_lower h.out.1 hW.sz)⟩⟩⟩
 have KS1 : Aside0 (∀ W B d, (SB w (.slice A l.length c) u W ∧ l.length + 1 ≤ d ∧ Mid (w.heap.size + 3) W.heap.size (.slice B (l.length + 1) d) (l ++ [-7171]) W) → Calls Tryd.prog 8 #[.slice B l.length d] W fun e w' => ∃ S, e = .returned (.slice S l.length l.length) ∧ Aside0 (SB w (.slice A l.length c) u w' ∧ (w.heap.size + 3 ≤ W.heap.size ∧ l.length + 1 ≤ d ∧ W.heap.size ≤ w'.heap.size) ∧ Mid (w.heap.size + 3) W.heap.size (.slice B (l.length + 1) d) (l ++ [-7171]) w' ∧ Mid W.heap.size w'.heap.size (.slice S l.length l.length) (l.map mx) w')) := ⟨fun W B d hW => by
  have hB : Kd.C (Kd.int .i64) W B l.length l := C_pre (hW.2.2.reads (by simp))
  refine (Skeleton_calls B d l W hB (by omega) (by omega)).mono ?_
  rintro e w' ⟨S, cap, he, hR, hb⟩
  exact ⟨S, he, ⟨hW.1.more hb, ⟨hW.1.sz, hW.2.1, hb.size⟩, hW.2.2.below hb, Mid.clip hnm.symm hR⟩⟩⟩
 have KS2 : Aside0 (∀ W B d S z1, (SB w (.slice A l.length c) u W ∧ (w.heap.size + 3 ≤ z1 ∧ l.length + 1 ≤ d ∧ z1 ≤ W.heap.size) ∧ Mid (w.heap.size + 3) z1 (.slice B (l.length + 1) d) (l ++ [-7171]) W ∧ Mid z1 W.heap.size (.slice S l.length l.length) (l.map mx) W) → Calls Tryd.prog 8 #[.slice B l.length d] W fun e w' => ∃ T, e = .returned (.slice T l.length l.length) ∧ Aside0 (SB w (.slice A l.length c) u w' ∧ (w.heap.size + 3 ≤ z1 ∧ l.length + 1 ≤ d ∧ z1 ≤ W.heap.size ∧ W.heap.size ≤ w'.heap.size) ∧ Mid (w.heap.size + 3) z1 (.slice B (l.length + 1) d) (l ++ [-7171]) w' ∧ Mid z1 W.heap.size (.slice S l.length l.length) (l.map mx) w' ∧ Mid W.heap.size w'.heap.size (.slice T l.length l.length) (l.map mx) w')) := ⟨fun W B d S z1 hW => by
  have hB : Kd.C (Kd.int .i64) W B l.length l := C_pre (hW.2.2.1.reads (by simp))
  refine (Skeleton_calls B d l W hB (by omega) (by omega)).mono ?_
  rintro e w' ⟨T, cap, he, hR, hb⟩
  exact ⟨T, he, ⟨hW.1.more hb, ⟨hW.2.1.1, hW.2.1.2.1, hW.2.1.2.2, hb.size⟩, hW.2.2.1.below hb, hW.2.2.2.below hb, Mid.clip hnm.symm hR⟩⟩⟩
 have KR : Aside0 (∀ W B d S T z1 z2, (SB w (.slice A l.length c) u W ∧ (w.heap.size + 3 ≤ z1 ∧ l.length + 1 ≤ d ∧ z1 ≤ z2 ∧ z2 ≤ W.heap.size) ∧ Mid (w.heap.size + 3) z1 (.slice B (l.length + 1) d) (l ++ [-7171]) W ∧ Mid z1 z2 (.slice S l.length l.length) (l.map mx) W ∧ Mid z2 W.heap.size (.slice T l.length l.length) (l.map mx) W) → Calls Tryd.prog 20 #[.slice A l.length c] W fun e w' => ∃ V cv, e = .returned (.slice V l.length cv) ∧ Aside0 (SB w (.slice A l.length c) u w' ∧ (w.heap.size + 3 ≤ z1 ∧ l.length + 1 ≤ d ∧ z1 ≤ z2 ∧ z2 ≤ W.heap.size ∧ W.heap.size ≤ w'.heap.size ∧ l.length ≤ cv) ∧ Mid (w.heap.size + 3) z1 (.slice B (l.length + 1) d) (l ++ [-7171]) w' ∧ Mid z1 z2 (.slice S l.length l.length) (l.map mx) w' ∧ Mid z2 W.heap.size (.slice T l.length l.length) (l.map mx) w' ∧ Kd.C (Kd.int .i64) w' V l.length (l.map mx))) := ⟨fun W B d S T z1 z2 hW => by
  refine (dovetailref06_Skeleton.calls _ A c l _ W (Kd.C_below hr hW.1.low) hc (skel_f l (by omega))).mono ?_
  rintro e w' ⟨v0, he, hR, hb⟩
  obtain ⟨V, cv, ev⟩ := Kd.R_slice hR
  rw [hnm] at ev
  subst ev
  have hrd := Kd.R_reads' hR
  rw [hnm] at hrd
  exact ⟨V, cv, he, ⟨hW.1.more hb, ⟨hW.2.1.1, hW.2.1.2.1, hW.2.1.2.2.1, hW.2.1.2.2.2, hb.size, hrd.2.1⟩, hW.2.2.1.below hb, hW.2.2.2.1.below hb, hW.2.2.2.2.below hb, hrd.2.2⟩⟩⟩
 have KT : Aside0 (∀ W B d S T V cv z1 z2 z3, (SB w (.slice A l.length c) u W ∧ (w.heap.size + 3 ≤ z1 ∧ l.length + 1 ≤ d ∧ z1 ≤ z2 ∧ z2 ≤ z3 ∧ z3 ≤ W.heap.size ∧ l.length ≤ cv) ∧ Mid (w.heap.size + 3) z1 (.slice B (l.length + 1) d) (l ++ [-7171]) W ∧ Mid z1 z2 (.slice S l.length l.length) (l.map mx) W ∧ Mid z2 z3 (.slice T l.length l.length) (l.map mx) W ∧ Kd.C (Kd.int .i64) W V l.length (l.map mx)) → Calls Tryd.prog 21 #[.slice B l.length d] W fun e w' => ∃ C cc b, e = .returned (.func (.func 40) #[] #[.pointer (some ⟨b, 0, none⟩)]) ∧ Aside0 (SD w (.slice A l.length c) u l B d S T V b C cc z1 z2 z3 w' ∧ b < w'.heap.size ∧ l.length ≤ cv ∧ l.length + 1 ≤ d)) := ⟨fun W B d S T V cv z1 z2 z3 hW => by
  have hB : Kd.C (Kd.int .i64) W B l.length l := C_pre (hW.2.2.1.reads (by simp))
  have hz := hW.2.1
  refine (Terms_calls B d l W hB (by omega) (by omega)).mono ?_
  rintro e w' ⟨C, cc, b, he, h1, h2, h3, h4, hb⟩
  exact ⟨C, cc, b, he, ⟨⟨hW.1.more hb, hW.2.2.1.below hb, hW.2.2.2.1.below hb, hW.2.2.2.2.1.below hb, Kd.C_below hW.2.2.2.2.2 hb, h1, h2, hz.1, hz.2.2.1, hz.2.2.2.1, by omega, fun ad e => ⟨by have := (h4 ad e).1; omega, (h4 ad e).2⟩⟩, h3.2, hz.2.2.2.2.2, hz.2.1⟩⟩⟩
 have ST := Aside0.mk st
 have HR := Aside0.mk hr
 have HS := Aside0.mk hs
 have HG := Aside0.mk hg
 clear st hr hs hg
 refine (callsIn_wide (n := 7)).1 ?_
 refine callsIn_of_wp_marks Tryd.func5 rfl trivial ?_ rfl
 simp only [Tryd.ntmps5, List.size_toArray, List.length_cons, List.length_nil, Nat.reduceAdd, Nat.reduceSub, Array.replicate_succ, Array.replicate_zero, List.push_toArray, List.append_toArray, List.nil_append, List.cons_append]
 have he : ∀ (w : World) (b : Nat), (binOp .eql 47 (.func (.func 40) #[] #[.pointer (some ⟨b, 0, none⟩)]) .nilFunc).run Tryd.prog w = .ok (.bool false) w := fun _ _ => rfl
 obtain ⟨f0, f1, f2, f3, f4⟩ := ST.out.cells
 gi_wp2_with (first
  | (refine ⟨trivial, ?_⟩; gi_at_call 19; refine (callsIn_wide.2 (KL.out _ ST.out)).mono ?_; rintro e w1 ⟨B, d, rfl, t1⟩)
  | (refine ⟨trivial, ?_⟩; gi_at_call 8; refine (callsIn_wide.2 (KS1.out _ _ _ t1.out)).mono ?_; clear KS1; rintro e w2 ⟨S, rfl, t2⟩)
  | (refine ⟨trivial, ?_⟩; gi_at_call 8; refine (callsIn_wide.2 (KS2.out _ _ _ _ _ t2.out)).mono ?_; rintro e w3 ⟨T, rfl, t3⟩; obtain ⟨g0, _, _, _, _⟩ := t3.out.1.cells)
  | (refine ⟨trivial, ?_⟩; gi_at_call 20; refine (callsIn_wide.2 (KR.out _ _ _ _ _ _ _ t3.out)).mono ?_; rintro e w4 ⟨V, cv, rfl, t4⟩)
  | (refine ⟨trivial, ?_⟩; gi_at_call 21; refine (callsIn_wide.2 (KT.out _ _ _ _ _ _ _ _ _ _ t4.out)).mono ?_; rintro e w5 ⟨C, cc, b, rfl, t5⟩; refine Aside0.out ?_))
 refine Aside0.mk ?_
 obtain ⟨rv, hrv⟩ : ∃ rv : Value, rv = .slice A l.length c := ⟨_, rfl⟩
 have hb5 := t5.out.2.1
 have hcv := t5.out.2.2.1
 have hd := t5.out.2.2.2
 obtain ⟨z1, hz1⟩ : ∃ z1, z1 = w1.heap.size := ⟨_, rfl⟩
 obtain ⟨z2, hz2⟩ : ∃ z2, z2 = w2.heap.size := ⟨_, rfl⟩
 obtain ⟨z3, hz3⟩ : ∃ z3, z3 = w3.heap.size := ⟨_, rfl⟩
 have T5 : Aside0 (SD w (.slice A l.length c) u l B d S T V b C cc z1 z2 z3 w5 ∧ b < w5.heap.size) := by rw [hz1, hz2, hz3]; exact ⟨t5.out.1, hb5⟩
 obtain ⟨q, hBq, _⟩ := T5.out.1.apart hb5 hl
 subst hBq
 have KI1 : Aside0 (∀ W, (SD w (.slice A l.length c) u l (some ⟨q, 0, none⟩) d S T V b C cc z1 z2 z3 W ∧ b < W.heap.size) → Calls Tryd.prog 9 #[.slice S l.length l.length, .slice V l.length cv] W fun e w' => e = .returned (.bool true) ∧ Aside0 (SD w (.slice A l.length c) u l (some ⟨q, 0, none⟩) d S T V b C cc z1 z2 z3 w' ∧ b < w'.heap.size)) := ⟨fun W h => by
  have hc := dovetailkit_Ints.calls (l.length + 1) S (l.map mx).length (l.map mx) V cv (l.map mx) true W (by rw [hnm]; exact h.1.rs.reads hnm.symm) (Nat.le_refl _) (by rw [hnm]; exact h.1.rv) (by rw [hnm]; exact hcv) (by rw [KInts_f (l.map mx) (l.map mx) (l.length + 1) (by rw [hnm]; omega) (by rw [hnm]; omega), decide_eq_true rfl])
  rw [hnm] at hc
  exact hc.mono fun e w' ⟨he, hd⟩ => ⟨he, ⟨h.1.more hd.below, Nat.lt_of_lt_of_le h.2 hd.below.size⟩⟩⟩
 have KI2 : Aside0 (∀ W, (SD w (.slice A l.length c) u l (some ⟨q, 0, none⟩) d S T V b C cc z1 z2 z3 W ∧ b < W.heap.size) → Calls Tryd.prog 9 #[.slice T l.length l.length, .slice V l.length cv] W fun e w' => e = .returned (.bool true) ∧ w'.cell? ⟨w.heap.size, 0, none⟩ = some (.slice A l.length c) ∧ Aside0 (SD w (.slice A l.length c) u l (some ⟨q, 0, none⟩) d S T V b C cc z1 z2 z3 w' ∧ b < w'.heap.size)) := ⟨fun W h => by
  have hc := dovetailkit_Ints.calls (l.length + 1) T (l.map mx).length (l.map mx) V cv (l.map mx) true W (by rw [hnm]; exact h.1.rt.reads hnm.symm) (Nat.le_refl _) (by rw [hnm]; exact h.1.rv) (by rw [hnm]; exact hcv) (by rw [KInts_f (l.map mx) (l.map mx) (l.length + 1) (by rw [hnm]; omega) (by rw [hnm]; omega), decide_eq_true rfl])
  rw [hnm] at hc
  exact hc.mono fun e w' ⟨he, hd⟩ => ⟨he, ((h.1.more hd.below).sb.cells).1, ⟨h.1.more hd.below, Nat.lt_of_lt_of_le h.2 hd.below.size⟩⟩⟩
 have KK : Aside0 (∀ W, (SD w (.slice A l.length c) u l (some ⟨q, 0, none⟩) d S T V b C cc z1 z2 z3 W ∧ b < W.heap.size) → Calls Tryd.prog 22 #[.slice (some ⟨q, 0, none⟩) l.length d, .slice A l.length c] W fun e w' => e = .returned (.bool true) ∧ Aside0 (SD w (.slice A l.length c) u l (some ⟨q, 0, none⟩) d S T V b C cc z1 z2 z3 w' ∧ b < w'.heap.size)) := ⟨fun W h =>
  (KeptInts_yes (some ⟨q, 0, none⟩) d A c l W hd (h.1.rin.reads (by simp)) hc (Kd.C_below HR.out h.1.sb.low)).mono fun e w' ⟨he, hb⟩ => ⟨he, ⟨h.1.more hb, Nat.lt_of_lt_of_le h.2 hb.size⟩⟩⟩
 have KA : Aside0 (∀ W (p : Nat), p = W.heap.size → (SD w (.slice A l.length c) u l (some ⟨q, 0, none⟩) d S T V b C cc z1 z2 z3 W ∧ b < W.heap.size) → Calls Tryd.prog 23 #[.slice (some ⟨p, 0, none⟩) 2 2] (W.alloc (.cells #[.slice S l.length l.length, .slice T l.length l.length] 22)) fun e w' => e = .returned (.bool true) ∧ Aside0 (PH w (.slice A l.length c) u l q b C cc W.heap.size w')) := ⟨fun W p hp h => by
  subst hp
  obtain ⟨q', e, h'⟩ := h.1.apart h.2 hl
  injection e with e
  injection e with e
  subst e
  exact h'.mono fun e w' ⟨he, hb⟩ => ⟨he, ⟨hb⟩⟩⟩
 clear KL KS2 KR KT ST t1 t2 t3 t4 t5 hb5 f0 f1 f2 f3 f4 g0 hz1 hz2 hz3 hrv
 gi_wp2_with (first
  | (refine ⟨trivial, ?_⟩; gi_at_call 9; refine (callsIn_wide.2 (KI1.out _ T5.out)).mono ?_; clear KI1; rintro e w6 ⟨rfl, t6⟩)
  | (refine ⟨trivial, ?_⟩; gi_at_call 9; refine (callsIn_wide.2 (KI2.out _ t6.out)).mono ?_; rintro e w7 ⟨rfl, g7, t7⟩)
  | (refine ⟨trivial, ?_⟩; gi_at_call 22; refine (callsIn_wide.2 (KK.out _ t7.out)).mono ?_; rintro e w8 ⟨rfl, t8⟩)
  | (refine ⟨trivial, ?_⟩; gi_at_call 23; refine (callsIn_wide.2 (KA.out _ _ ?hp t8.out)).mono ?_; (case hp => simp); rintro e w9 ⟨rfl, t9⟩; obtain ⟨g0, g1, g2, g3, g4⟩ := t9.out.sb.cells; refine Aside0.out ?_))
 obtain ⟨z, hz⟩ : ∃ z, z = w8.heap.size := ⟨_, rfl⟩
 rw [← hz] at t9
 have T9 := Aside0.mk t9.out
 clear t9 t8 t7 t6 KI2 KK KA T5 hz g7 hcv hd
 refine Aside0.mk ?_
 gi_upto_if 52 with fail
 gi_cut [] from 999 (fun wx => ∃ x : Int, 1 ≤ x ∧ x < 9223372036854775808 ∧ Aside0 (PH w (.slice A l.length c) x l q b C cc z wx))
 case first =>
  by_cases hu1 : u < 1
  · gi_wp2
    gi_meet
    case rel => exact ⟨1, by decide, by decide, ⟨T9.out.put 1⟩⟩
  · gi_wp2
    gi_meet
    case rel => exact ⟨u, by omega, hu.2, T9⟩
 case rest =>
  clear T9 g0 g1 g2 g3 g4 hu
  obtain ⟨x, hx1, hx2, tp⟩ := hcut
  obtain ⟨g0, g1, g2, g3, g4⟩ := tp.out.sb.cells
  gi_wp2
  rename_i K hK
  obtain ⟨NB, hNB⟩ : ∃ NB, NB = wc.heap.size := ⟨_, rfl⟩
  rw [← hNB]
  obtain ⟨W10, hW10⟩ : ∃ W10, W10 = wc.alloc (.cells #[.int .i64 0] 3) := ⟨_, rfl⟩
  rw [← hW10]
  have p10 : PH w (.slice A l.length c) x l q b C cc z W10 := by rw [hW10]; exact tp.out.more ((Below.refl _ wc).alloc (Nat.le_refl _) _)
  have n10 : Box NB #[.int .i64 0] 3 W10 := by rw [hNB, hW10]; exact Box.new _ _ _
  have s10 : W10.heap.size = NB + 1 := by rw [hNB, hW10]; simp
  have hzn : z ≤ NB := by rw [hNB]; exact tp.out.zs.2.2.2.1
  have hwz : w.heap.size + 3 ≤ z := by have := tp.out.zs; omega
  clear hW10 hNB tp g0 g1 g2 g3 g4
  obtain ⟨nT, hnT⟩ : ∃ nT, nT = (tmTo l l.length).length := ⟨_, rfl⟩
  have hnl : nT ≤ l.length := by rw [hnT]; exact tmTo_len _ _
  have HNT := Lib.hid hnT
  clear hnT
  have TAIL : ∀ (m D : Nat) (W : World) (u54 u55 u56 u57 u58 u59 u60 : Value), Aside0 (PH w (.slice A l.length c) x l q b C cc z W ∧ Box NB #[.int .i64 (m : Int)] 3 W ∧ W.heap[D]? = some (.deferred (some [])) ∧ NB + 1 ≤ D) → (m ≤ nT ∧ ((m : Int) = x ∨ m = nT)) → K { tmps := #[.slice A l.length c, .int .i64 u, .pointer (some ⟨w.heap.size, 0, none⟩), .pointer (some ⟨w.heap.size + 1, 0, none⟩), .pointer (some ⟨w.heap.size + 1 + 1, 0, none⟩), .slice (some ⟨q, 0, none⟩) l.length d, .slice S l.length l.length, .slice T l.length l.length, .slice V l.length cv, .func (.func 40) #[] #[.pointer (some ⟨b, 0, none⟩)], .pointer (some ⟨NB, 0, none⟩), undef, undef, undef, undef, undef, .slice A l.length c, .slice (some ⟨q, 0, none⟩) l.length d, .slice (some ⟨q, 0, none⟩) l.length d, .slice S l.length l.length, .slice (some ⟨q, 0, none⟩) l.length d, .slice T l.length l.length, .slice A l.length c, .slice V l.length cv, .slice (some ⟨q, 0, none⟩) l.length d, .func (.func 40) #[] #[.pointer (some ⟨b, 0, none⟩)], .func (.func 40) #[] #[.pointer (some ⟨b, 0, none⟩)], .bool false, .slice S l.length l.length, .slice V l.length cv, .bool true, .bool false, .bool false, .slice T l.length l.length, .slice V l.length cv, .bool true, .bool false, .bool false, .bool false, .slice (some ⟨q, 0, none⟩) l.length d, .slice A l.length c, .bool true, .bool false, .bool false, .bool false, .slice S l.length l.length, .slice T l.length l.length, .slice (some ⟨w8.heap.size, 0, none⟩) 2 2, .bool true, .bool false, .bool false, .int .i64 u, .bool (decide (u < 1)), .func (.func 40) #[] #[.pointer (some ⟨b, 0, none⟩)], u54, u55, u56, u57, u58, u59, u60, undef, undef, undef, undef, undef, undef, undef, undef, undef, undef, undef, undef, undef, undef, undef, undef, undef, undef, undef, undef, undef, undef, undef, undef, undef, undef, undef, undef, undef, undef, undef, undef, undef, undef, undef, undef, undef, undef, undef, undef, undef, undef, undef, undef, undef, undef, undef, undef, undef, undef, undef, undef, undef, undef, undef, undef, undef, undef, undef, undef, undef, undef, undef, undef, undef, undef, undef, undef, undef, undef, undef, undef, undef], defers := marks [D] } W := by
   clear p10 n10 s10 W10
   intro m D W u54 u55 u56 u57 u58 u59 u60 tw hm
   refine hK _ _ ?_
   clear hK
   gi_wp2
   gi_loopw [11] (fun i wr => ∃ k : Nat, k ≤ l.length ∧ i = .int .i64 (k : Int) ∧ Aside0 (PH w (.slice A l.length c) x l q b C cc z wr ∧ Box NB #[.int .i64 (m : Int)] 3 wr ∧ wr.heap[D]? = some (.deferred (some [])) ∧ NB + 1 ≤ D)) (fun i _ => l.length - (intOf i).toNat)
   case atStart => exact ⟨0, Nat.zero_le _, rfl, tw⟩
   case round =>
    clear tw
    obtain ⟨k, hk, rfl, tr⟩ := hrel
    by_cases hlt : k < l.length
    · obtain ⟨⟨v, hc1⟩, hf1⟩ := tr.out.1.qcell k hlt
      have hzs := tr.out.1.zs
      have HS1 : Aside0 (PH w (.slice A l.length c) x l q b C cc z (wr.setCell ⟨q, k, none⟩ (.int .i64 77)) ∧ Box NB #[.int .i64 (m : Int)] 3 (wr.setCell ⟨q, k, none⟩ (.int .i64 77)) ∧ (wr.setCell ⟨q, k, none⟩ (.int .i64 77)).heap[D]? = some (.deferred (some [])) ∧ NB + 1 ≤ D) := ⟨tr.out.1.qput k _, blk_far tr.out.2.1 (by simp; omega) _, (Below.heap_setCell _ _ _ _ (by have := tr.out.2.2.2; simp; omega)).trans tr.out.2.2.1, tr.out.2.2.2⟩
      clear hzs
      gi_wp2
      go_roundw
      case measure => simp [intOf]; omega
      case rel => exact ⟨k + 1, by omega, by go_num, HS1⟩
    · obtain rfl : k = l.length := by omega
      gi_wp2
      obtain ⟨W12, hW12⟩ : ∃ W12, W12 = (wr.alloc (.cells #[.int .i64 0] 3)).alloc (.cells #[.int .i64 0] 3) := ⟨_, rfl⟩
      have q12 : Q2 w (.slice A l.length c) x l q b C cc z NB (m : Int) wr.heap.size D 0 0 W12 := by rw [hW12]; exact Q2.start tr.out.1 tr.out.2.1 tr.out.2.2.1 hzn tr.out.2.2.2
      have s12 : W12.heap.size = wr.heap.size + 2 := by rw [hW12]; simp
      rw [← hW12]
      clear hW12 tr
      obtain ⟨AB, hAB⟩ : ∃ AB, AB = wr.heap.size := ⟨_, rfl⟩
      rw [← hAB] at q12 s12 ⊢
      clear hAB
      refine wpIn_rangeFunc_ownG (F := Fence.wide) rfl (by omega) (gf := 40) (lb := #[.pointer (some ⟨b, 0, none⟩)]) rfl trivial (enters_of Tryd.func40 (by kernel_rfl) rfl)
       (terms_stops Fence.wide 6 trivial rfl (by omega) b C cc l (by omega) W12 (ksOf b C) (by simp [ksOf]) ksOf_C q12.ph.rc (by have := q12.ph.zs; omega) (fun k hk => by have := q12.ph.ks k hk; have := q12.ph.zs; omega) q12.ph.bx) KS.trans (KS.put (fun k hk => by have := q12.ph.ks k hk; have := q12.ph.zs; omega)) (Below.refl _ _) (fun _ => rfl)
       (fun pre W' => ∃ k : Nat, Aside0 (Q2 w (.slice A l.length c) x l q b C cc z NB (m : Int) AB D (pre.length : Int) (k : Int) W') ∧ pre = tmTo l k ∧ k ≤ l.length)
       (fun _ pre _ => ¬ pre <+: tmTo l l.length)
       (fun s X Y row hs hg hr => hs.imp fun k h => ⟨⟨h.1.out.grown (by omega) hg hr⟩, h.2⟩)
       (fun c' s X Y row hs hg hr => hs)
       ⟨0, ⟨q12⟩, rfl, Nat.zero_le _⟩
       (fun y : Nat => { tmps := #[.slice A l.length c, .int .i64 u, .pointer (some ⟨w.heap.size, 0, none⟩), .pointer (some ⟨w.heap.size + 1, 0, none⟩), .pointer (some ⟨w.heap.size + 1 + 1, 0, none⟩), .slice (some ⟨q, 0, none⟩) l.length d, .slice S l.length l.length, .slice T l.length l.length, .slice V l.length cv, .func (.func 40) #[] #[.pointer (some ⟨b, 0, none⟩)], .pointer (some ⟨NB, 0, none⟩), .int .i64 (l.length : Int), .pointer (some ⟨AB, 0, none⟩), .pointer (some ⟨AB + 1, 0, none⟩), .int .i64 (y : Int), .int .i64 (l.getD y 0), .slice A l.length c, .slice (some ⟨q, 0, none⟩) l.length d, .slice (some ⟨q, 0, none⟩) l.length d, .slice S l.length l.length, .slice (some ⟨q, 0, none⟩) l.length d, .slice T l.length l.length, .slice A l.length c, .slice V l.length cv, .slice (some ⟨q, 0, none⟩) l.length d, .func (.func 40) #[] #[.pointer (some ⟨b, 0, none⟩)], .func (.func 40) #[] #[.pointer (some ⟨b, 0, none⟩)], .bool false, .slice S l.length l.length, .slice V l.length cv, .bool true, .bool false, .bool false, .slice T l.length l.length, .slice V l.length cv, .bool true, .bool false, .bool false, .bool false, .slice (some ⟨q, 0, none⟩) l.length d, .slice A l.length c, .bool true, .bool false, .bool false, .bool false, .slice S l.length l.length, .slice T l.length l.length, .slice (some ⟨w8.heap.size, 0, none⟩) 2 2, .bool true, .bool false, .bool false, .int .i64 u, .bool (decide (u < 1)), .func (.func 40) #[] #[.pointer (some ⟨b, 0, none⟩)], u54, u55, u56, u57, u58, u59, u60, .int .i64 (l.length : Int), .slice (some ⟨q, 0, none⟩) l.length d, .int .i64 (l.length : Int), .bool false, u65, u66, u67, u68, u69, .func (.func 40) #[] #[.pointer (some ⟨b, 0, none⟩)], .int .i64 (y : Int), .int .i64 (l.getD y 0), undef, undef, undef, undef, undef, undef, undef, undef, undef, undef, undef, undef, undef, undef, undef, undef, undef, undef, undef, undef, undef, undef, undef, undef, undef, undef, undef, undef, undef, undef, undef, undef, undef, undef, undef, undef, undef, undef, undef, undef, undef, undef, undef, undef, undef, undef, undef, undef, undef, undef, undef, undef, undef, undef, undef, undef, undef, undef, undef, undef, undef], defers := [] }) ?assign ?body ?done ?stop
      case assign =>
       intro lr y W' K' hK'
       gi_wp2
       simpa using hK'
      case stop =>
       rintro D' c' pre W' hD hS hno hK'
       exact (hno hS.1).elim
      case body =>
       rintro lr pre y W' ⟨k, tq, hpk, hkl⟩ hpl
       obtain ⟨v2, hv2⟩ : ∃ v2, v2 = l.getD y 0 := ⟨_, rfl⟩
       rw [← hv2]
       have HV2 := Lib.hid hv2
       clear hv2
       gi_wp2
       gi_loopw [73] (fun _ wq => ∃ k' : Nat, k' ≤ l.length ∧ pre = tmTo l k' ∧ Aside0 (Q2 w (.slice A l.length c) x l q b C cc z NB (m : Int) AB D (pre.length : Int) (k' : Int) wq ∧ KeepsOthers W' wq ∧ KS (ksOf b C) W' wq)) (fun _ wq => l.length - kOf AB wq)
       case atStart => exact ⟨k, hkl, hpk, ⟨tq.out, KeepsOthers.refl _, KS.refl _ _⟩⟩
       case round =>
        clear tq hpk hkl
        obtain ⟨k', hk', hpk, tr⟩ := hrel
        obtain ⟨g0, g1, g2, g3, g4, g5, g6, g7, g8⟩ := tr.out.1.cells
        have hq1 := tr.out.1.putK ((k' : Int) + 1)
        have hko1 : kOf AB (wr.setCell ⟨AB + 1, 0, none⟩ (.int .i64 ((k' : Int) + 1))) = k' + 1 := by rw [hq1.kOf]; omega
        have hko0 : kOf AB wr = k' := by rw [tr.out.1.kOf]; omega
        have ksa := tr.out.2.2.trans (tr.out.1.ks (AB + 1) (by omega) (.int .i64 ((k' : Int) + 1)))
        have koa := tr.out.2.1.trans (KeepsOthers.setCell wr ⟨AB + 1, 0, none⟩ (.int .i64 ((k' : Int) + 1)))
        have kof := tr.out.2.1.trans (KeepsOthers.setCell wr ⟨w.heap.size + 1 + 1, 0, none⟩ (.bool false))
        by_cases hlt2 : k' < l.length
        · obtain ⟨adr, rfl, hx⟩ := Kd.at_int (Kd.C_below HR.out tr.out.1.ph.sb.low) (k' : Int) (by omega) (by omega)
          rw [Int.toNat_natCast, show rd l (k' : Int) = l.getD k' 0 from rfl] at hx
          have hsu := tmTo_succ l k'
          by_cases hneg : l.getD k' 0 < 0
          · rw [if_neg (by omega), List.append_nil] at hsu
            have P1 : Aside0 (Q2 w (.slice (some adr) l.length c) x l q b C cc z NB (m : Int) AB D (pre.length : Int) ((k' + 1 : Nat) : Int) (wr.setCell ⟨AB + 1, 0, none⟩ (.int .i64 ((k' : Int) + 1))) ∧ KeepsOthers W' (wr.setCell ⟨AB + 1, 0, none⟩ (.int .i64 ((k' : Int) + 1))) ∧ KS (ksOf b C) W' (wr.setCell ⟨AB + 1, 0, none⟩ (.int .i64 ((k' : Int) + 1)))) := ⟨hq1, koa, ksa⟩
            rw [← hsu] at hpk
            generalize l.getD k' 0 = v at hx hneg
            clear hq1 ksa koa kof tr hsu
            gi_wp2
            go_roundw
            case measure => rw [hko1, hko0]; omega
            case rel => exact ⟨k' + 1, by omega, hpk, P1⟩
          · rw [if_pos (by omega)] at hsu
            have hq2 := hq1.putA ((pre.length : Int) + 1)
            obtain ⟨_, _, _, i3, i4, i5, i6, _, _⟩ := hq1.cells
            have ksb := ksa.trans (hq1.ks AB (by omega) (.int .i64 ((pre.length : Int) + 1)))
            have kob := koa.trans (KeepsOthers.setCell (wr.setCell ⟨AB + 1, 0, none⟩ (.int .i64 ((k' : Int) + 1))) ⟨AB, 0, none⟩ (.int .i64 ((pre.length : Int) + 1)))
            have hge : l.getD k' 0 ≥ 0 := by omega
            by_cases hyk : y = k'
            · subst hyk
              have hsn : tmTo l (y + 1) = pre ++ [y] := by rw [hsu, hpk]
              have P1 : Aside0 (Q2 w (.slice (some adr) l.length c) x l q b C cc z NB (m : Int) AB D ((pre ++ [y]).length : Int) ((y + 1 : Nat) : Int) ((wr.setCell ⟨AB + 1, 0, none⟩ (.int .i64 ((y : Int) + 1))).setCell ⟨AB, 0, none⟩ (.int .i64 ((pre.length : Int) + 1)))) := ⟨by rw [show ((pre ++ [y]).length : Int) = (pre.length : Int) + 1 by simp]; exact hq2⟩
              have P2 := Aside0.mk ksb
              have P3 := Aside0.mk kob
              have hlenp : pre.length ≤ l.length := by rw [hpk]; exact Nat.le_trans (tmTo_len _ _) (by omega)
              clear hq1 hq2 ksa ksb koa kob kof tr hsu hpk
              rw [← HV2.out] at hx hge hneg
              clear HV2
              gi_wp2
              exact ⟨P3.out.from _, P2.out, y + 1, P1, hsn.symm, by omega⟩
            · have hno : ¬ (pre ++ [y]) <+: tmTo l l.length := fun h => by
               have h1 := tmTo_prefix l (show k' + 1 ≤ l.length from hlt2)
               rw [hsu, ← hpk] at h1
               have h2 := List.prefix_of_prefix_length_le h h1 (by simp)
               have h3 := List.IsPrefix.eq_of_length h2 (by simp)
               have h4 := List.append_cancel_left h3
               injection h4 with h4
               exact hyk h4
              have hyk' : ¬ (y : Int) = (k' : Int) := by omega
              have P3 := Aside0.mk kof
              clear hq1 hq2 ksa ksb koa kob kof tr hsu hpk
              generalize l.getD k' 0 = v at hx hge hneg
              clear HV2
              gi_wp2
              exact ⟨P3.out.from _, hno⟩
        · obtain rfl : k' = l.length := by omega
          have hno : ¬ (pre ++ [y]) <+: tmTo l l.length := fun h => by
           have h1 := h.length_le
           rw [← hpk, List.length_append] at h1
           simp only [List.length_cons, List.length_nil] at h1
           omega
          have P3 := Aside0.mk kof
          clear hq1 ksa koa kof tr hpk
          clear HV2
          gi_wp2
          exact ⟨P3.out.from _, hno⟩
      case done =>
       rintro D2 ys W' hD hS ⟨k, tq, hyk, hkl⟩ hK'
       subst hS
       rw [← HNT.out] at tq
       have HYK := Lib.hid hyk.symm
       clear hyk
       have hD2 : AB + 2 ≤ D2 := by omega
       clear hD
       have KW : Aside0 (∀ W, Aside0 (Q2 w (.slice A l.length c) x l q b C cc z NB (m : Int) AB D (nT : Int) (l.length : Int) W ∧ W.heap[D2]? = some (.deferred (some []))) → Calls Tryd.prog 10 #[] W fun e w' => e = .returned (.bool true) ∧ Aside0 (Q2 w (.slice A l.length c) x l q b C cc z NB (m : Int) AB D (nT : Int) (l.length : Int) w' ∧ w'.heap[D2]? = some (.deferred (some [])))) := ⟨fun W hW =>
        (awake_calls ad W (HS.out.below hW.out.1.ph.sb.low) (HG.out.below hW.out.1.ph.sb.low)).mono fun e w' ⟨he, hb⟩ => ⟨he, ⟨hW.out.1.more hb, (hb.block D2 (Array.getElem?_eq_some_iff.1 hW.out.2).1).trans hW.out.2⟩⟩⟩
       gi_wp2
       gi_loopw [107] (fun _ wq => ∃ k' : Nat, k ≤ k' ∧ k' ≤ l.length ∧ Aside0 (Q2 w (.slice A l.length c) x l q b C cc z NB (m : Int) AB D (nT : Int) (k' : Int) wq ∧ wq.heap[D2]? = some (.deferred (some [])))) (fun _ wq => l.length - kOf AB wq)
       case atStart => exact ⟨k, Nat.le_refl _, hkl, ⟨tq.out, hK'⟩⟩
       case round =>
        clear tq hK'
        obtain ⟨k', hkk, hk', tr⟩ := hrel
        obtain ⟨g0, g1, g2, g3, g4, g5, g6, g7, g8⟩ := tr.out.1.cells
        by_cases hlt3 : k' < l.length
        · have hq1 := tr.out.1.putK ((k' : Int) + 1)
          have hko1 : kOf AB (wr.setCell ⟨AB + 1, 0, none⟩ (.int .i64 ((k' : Int) + 1))) = k' + 1 := by rw [hq1.kOf]; omega
          have hko0 : kOf AB wr = k' := by rw [tr.out.1.kOf]; omega
          have hneg := tmTo_neg HYK.out hkk hlt3
          obtain ⟨adr, rfl, hx⟩ := Kd.at_int (Kd.C_below HR.out tr.out.1.ph.sb.low) (k' : Int) (by omega) (by omega)
          rw [Int.toNat_natCast, show rd l (k' : Int) = l.getD k' 0 from rfl] at hx
          have P1 : Aside0 (Q2 w (.slice (some adr) l.length c) x l q b C cc z NB (m : Int) AB D (nT : Int) ((k' + 1 : Nat) : Int) (wr.setCell ⟨AB + 1, 0, none⟩ (.int .i64 ((k' : Int) + 1))) ∧ (wr.setCell ⟨AB + 1, 0, none⟩ (.int .i64 ((k' : Int) + 1))).heap[D2]? = some (.deferred (some []))) := ⟨hq1, (Below.heap_setCell _ _ _ _ (by show D2 ≠ AB + 1; omega)).trans tr.out.2⟩
          generalize l.getD k' 0 = v at hx hneg
          clear hq1
          gi_wp2
          go_roundw
          case measure => rw [hko1, hko0]; omega
          case rel => exact ⟨k' + 1, by omega, by omega, P1⟩
        · obtain rfl : k' = l.length := by omega
          have TR := Aside0.mk tr.out
          clear tr
          by_cases hmx : (m : Int) = x
          · subst hmx
            gi_wp2_with (first
             | (refine ⟨trivial, ?_⟩; gi_at_call 10; refine (callsIn_wide.2 (KW.out _ TR)).mono ?_; rintro e w13 ⟨rfl, t13⟩; have g8 := t13.out.1.cells.2.2.2.2.2.2.2.1; have g9 := t13.out.1.cells.2.2.2.2.2.2.2.2))
            have hzs := t13.out.1.zs
            have hpz := t13.out.1.ph.zs
            refine leaves_marks w.heap.size [D2, D] _ (by simp; omega) ?_ ?_
            · intro D' hD'
              simp only [List.mem_cons, List.not_mem_nil, or_false] at hD'
              rcases hD' with rfl | rfl
              · exact ⟨by omega, (KeepsOthers.setCell w13 _ _).same _ _ t13.out.2 rfl⟩
              · exact ⟨by omega, (KeepsOthers.setCell w13 _ _).same _ _ t13.out.1.dd rfl⟩
            · intro w' hb hk2
              have hbb : (w13.setCell ⟨w.heap.size + 1 + 1, 0, none⟩ (.bool true)).heap[w.heap.size + 1 + 1]? = some (.cells #[.bool true] 4 (0, 0)) := by simpa using blk_set t13.out.1.ph.sb.bb 0 (.bool true)
              have hc : w'.cell? ⟨w.heap.size + 1 + 1, 0, none⟩ = some (.bool true) := by
               rw [Lib.cell_of_heap ((hk2 _ (by simp only [List.mem_cons, List.not_mem_nil, or_false]; omega)).trans hbb)]; rfl
              exact ⟨.bool true, by simp [results, Tryd.f5, go_sem, hc], rfl, (t13.out.1.ph.sb.low.setCell (p := ⟨w.heap.size + 1 + 1, 0, none⟩) (by simp; omega) _).trans hb⟩
          · obtain rfl : m = nT := by have := hm.2; omega
            gi_wp2_with (first
             | (refine ⟨trivial, ?_⟩; gi_at_call 10; refine (callsIn_wide.2 (KW.out _ TR)).mono ?_; rintro e w13 ⟨rfl, t13⟩; have g8 := t13.out.1.cells.2.2.2.2.2.2.2.1; have g9 := t13.out.1.cells.2.2.2.2.2.2.2.2))
            have hzs := t13.out.1.zs
            have hpz := t13.out.1.ph.zs
            refine leaves_marks w.heap.size [D2, D] _ (by simp; omega) ?_ ?_
            · intro D' hD'
              simp only [List.mem_cons, List.not_mem_nil, or_false] at hD'
              rcases hD' with rfl | rfl
              · exact ⟨by omega, (KeepsOthers.setCell w13 _ _).same _ _ t13.out.2 rfl⟩
              · exact ⟨by omega, (KeepsOthers.setCell w13 _ _).same _ _ t13.out.1.dd rfl⟩
            · intro w' hb hk2
              have hbb : (w13.setCell ⟨w.heap.size + 1 + 1, 0, none⟩ (.bool true)).heap[w.heap.size + 1 + 1]? = some (.cells #[.bool true] 4 (0, 0)) := by simpa using blk_set t13.out.1.ph.sb.bb 0 (.bool true)
              have hc : w'.cell? ⟨w.heap.size + 1 + 1, 0, none⟩ = some (.bool true) := by
               rw [Lib.cell_of_heap ((hk2 _ (by simp only [List.mem_cons, List.not_mem_nil, or_false]; omega)).trans hbb)]; rfl
              exact ⟨.bool true, by simp [results, Tryd.f5, go_sem, hc], rfl, (t13.out.1.ph.sb.low.setCell (p := ⟨w.heap.size + 1 + 1, 0, none⟩) (by simp; omega) _).trans hb⟩
  refine wpIn_rangeFunc_ownG (F := Fence.wide) rfl (by omega) (gf := 40) (lb := #[.pointer (some ⟨b, 0, none⟩)]) rfl trivial (enters_of Tryd.func40 (by kernel_rfl) rfl)
   (terms_stops Fence.wide 6 trivial rfl (by omega) b C cc l (by omega) W10 (ksOf b C) (by simp [ksOf]) ksOf_C p10.rc (by have := p10.zs; omega) (fun k hk => by have := p10.ks k hk; omega) p10.bx) KS.trans (KS.put (fun k hk => by have := p10.ks k hk; omega)) (Below.refl _ _) (fun _ => rfl)
   (fun pre W' => Aside0 (PH w (.slice A l.length c) x l q b C cc z W' ∧ Box NB #[.int .i64 (pre.length : Int)] 3 W') ∧ (pre.length : Int) < x)
   (fun c' pre W' => c' = .exit 0 ∧ Aside0 (PH w (.slice A l.length c) x l q b C cc z W' ∧ Box NB #[.int .i64 (pre.length : Int)] 3 W') ∧ (pre.length : Int) = x)
   (fun s X Y row hs hg hr => ⟨⟨hs.1.out.1.grown (by omega) hg hr, grown_cells hg hr hs.1.out.2⟩, hs.2⟩)
   (fun c' s X Y row hs hg hr => ⟨hs.1, ⟨hs.2.1.out.1.grown (by omega) hg hr, grown_cells hg hr hs.2.1.out.2⟩, hs.2.2⟩)
   ⟨⟨p10, n10⟩, by simp; omega⟩
   (fun y : Nat => { tmps := #[.slice A l.length c, .int .i64 u, .pointer (some ⟨w.heap.size, 0, none⟩), .pointer (some ⟨w.heap.size + 1, 0, none⟩), .pointer (some ⟨w.heap.size + 1 + 1, 0, none⟩), .slice (some ⟨q, 0, none⟩) l.length d, .slice S l.length l.length, .slice T l.length l.length, .slice V l.length cv, .func (.func 40) #[] #[.pointer (some ⟨b, 0, none⟩)], .pointer (some ⟨NB, 0, none⟩), undef, undef, undef, undef, undef, .slice A l.length c, .slice (some ⟨q, 0, none⟩) l.length d, .slice (some ⟨q, 0, none⟩) l.length d, .slice S l.length l.length, .slice (some ⟨q, 0, none⟩) l.length d, .slice T l.length l.length, .slice A l.length c, .slice V l.length cv, .slice (some ⟨q, 0, none⟩) l.length d, .func (.func 40) #[] #[.pointer (some ⟨b, 0, none⟩)], .func (.func 40) #[] #[.pointer (some ⟨b, 0, none⟩)], .bool false, .slice S l.length l.length, .slice V l.length cv, .bool true, .bool false, .bool false, .slice T l.length l.length, .slice V l.length cv, .bool true, .bool false, .bool false, .bool false, .slice (some ⟨q, 0, none⟩) l.length d, .slice A l.length c, .bool true, .bool false, .bool false, .bool false, .slice S l.length l.length, .slice T l.length l.length, .slice (some ⟨w8.heap.size, 0, none⟩) 2 2, .bool true, .bool false, .bool false, .int .i64 u, .bool (decide (u < 1)), .func (.func 40) #[] #[.pointer (some ⟨b, 0, none⟩)], .int .i64 (y : Int), .int .i64 (l.getD y 0), undef, undef, undef, undef, undef, undef, undef, undef, undef, undef, undef, undef, undef, undef, undef, undef, undef, undef, undef, undef, undef, undef, undef, undef, undef, undef, undef, undef, undef, undef, undef, undef, undef, undef, undef, undef, undef, undef, undef, undef, undef, undef, undef, undef, undef, undef, undef, undef, undef, undef, undef, undef, undef, undef, undef, undef, undef, undef, undef, undef, undef, undef, undef, undef, undef, undef, undef, undef, undef, undef, undef, undef, undef, undef, undef, undef, undef, undef], defers := [] }) ?assign ?body ?done ?stop
  case assign =>
   intro lr y W' K' hK'
   gi_wp2
   simpa using hK'
  case body =>
   clear TAIL
   rintro lr pre y W' ⟨tw, hpx⟩ hpl
   obtain ⟨g0, g1, g2, g3, g4⟩ := tw.out.1.sb.cells
   have c1 := tw.out.2.cell 0 _ rfl
   have c2 := frozen0 tw.out.2
   have hp1 : PH w (.slice A l.length c) x l q b C cc z (W'.setCell ⟨NB, 0, none⟩ (.int .i64 ((pre.length : Int) + 1))) := tw.out.1.far (by exact hzn) _
   have hp2 : Box NB #[.int .i64 ((pre.length : Int) + 1)] 3 (W'.setCell ⟨NB, 0, none⟩ (.int .i64 ((pre.length : Int) + 1))) := by unfold Box; simpa using blk_set tw.out.2 0 (.int .i64 ((pre.length : Int) + 1))
   have c3 := hp2.cell 0 _ rfl
   have c4 := hp1.sb.cells.2.1
   have hks : KS (ksOf b C) W' (W'.setCell ⟨NB, 0, none⟩ (.int .i64 ((pre.length : Int) + 1))) := fun k hk => Below.heap_setCell _ _ _ _ (by have := tw.out.1.ks k hk; simp; omega)
   have hlen : ((pre ++ [y]).length : Int) = (pre.length : Int) + 1 := by simp
   have P1 : Aside0 (PH w (.slice A l.length c) x l q b C cc z (W'.setCell ⟨NB, 0, none⟩ (.int .i64 ((pre.length : Int) + 1))) ∧ Box NB #[.int .i64 ((pre ++ [y]).length : Int)] 3 (W'.setCell ⟨NB, 0, none⟩ (.int .i64 ((pre.length : Int) + 1)))) := ⟨hp1, by rw [hlen]; exact hp2⟩
   have HKS := Aside0.mk hks
   clear hp1 hp2 hks tw
   by_cases hx : (pre.length : Int) + 1 = x
   · subst hx
     gi_wp2
     exact ⟨(KeepsOthers.setCell _ _ _).from _, rfl, P1, hlen⟩
   · gi_wp2
     exact ⟨(KeepsOthers.setCell _ _ _).from _, HKS.out, P1, by rw [hlen]; omega⟩
  case done =>
   rintro D ys W' hD hS ⟨tw, hpx⟩ hK'
   subst hS
   show K _ _
   exact TAIL nT D W' _ _ _ _ _ _ _ ⟨tw.out.1, by rw [HNT.out]; exact tw.out.2, hK', by omega⟩ ⟨Nat.le_refl _, .inr rfl⟩
  case stop =>
   rintro D c' pre W' hD hS ⟨rfl, tw, hpx⟩ hK'
   gi_step
   show K _ _
   exact TAIL pre.length D W' _ _ _ _ _ _ _ ⟨tw.out.1, tw.out.2, hK', by omega⟩ ⟨by rw [HNT.out]; exact hS.1.length_le, .inl hpx⟩
theorem OpformSides_row (ad : Int → Addr) (A : Option Addr) (c : Nat) (l : List Int) (u : Int) (w : World) (hs : SentsK ad w) (hg : HandleP w) (hr : Kd.C (Kd.int .i64) w A l.length l) (hc : l.length ≤ c) (hl : l.length ≤ 1048576 ∧ ∀ a ∈ l, (Lit.int .i64 a).wf = true) (hu : -9223372036854775808 ≤ u ∧ u < 9223372036854775808) :
 Calls Tryd.prog 5 #[.slice A l.length c, .int .i64 u] w fun e w' => e = .returned (.bool true) ∧ Below w.heap.size w w' := OpformSides_calls ad A c l u w hs hg hr hc hl.1 hu
end Go.Proofs.YtaeaookonhaliaaDoor.R6
namespace Go.Proofs.YtaeaookonhaliaaDoor.opformSides
open Go.ChangeShapes Go.WideShapes Go.ChangeAt Go.RowKit YtaeaookonhaliaaDoorW.PrintWords H B

theorem own : ownKnob Tryd.prog.godebug = none := by kernel_rfl
theorem laidOut : laidOutB Tryd.prog = true := by kernel_rfl
theorem bounds_i {n : Int} (h : (Lit.int .i64 n).wf = true) : -9223372036854775808 ≤ n ∧ n < 9223372036854775808 := by
 have h1 : IntKind.i64.min = -9223372036854775808 := by decide
 have h2 : IntKind.i64.max = 9223372036854775807 := by decide
 have h3 : (decide (IntKind.i64.min ≤ n) && decide (n ≤ IntKind.i64.max)) = true := h
 rw [h1, h2] at h3
 simp only [Bool.and_eq_true, decide_eq_true_eq] at h3
 omega

set_option maxRecDepth 100000 in
theorem contract (H : Type) (enc : TypeId × Value → H) (W : World) (base : Nat) (args : Array Value) (ds gs : List (DataW H)) (before : List MemPlace)
 (hval : ∀ (j : Nat) t v, Tryd.f5.params[j]? = some t → args[j]? = some v → Value.okWide Tryd.prog W .any base t v)
 (ad : Int → Addr) (hs : SentsK ad W) (hg : HandleP W)
 (hz : (DataW.weightsEach Tryd.prog (Tryd.f5.params.toList ++ (Rows.OpenSpec.upto Rows.opformSidesSpec).bare.plain.varTypes Tryd.prog) (ds ++ gs)).all (· ≤ reachBytes) = true)
 (hW : DataW.Whole enc Tryd.prog Tryd.f5.params.toList Rows.opformSidesSpec.vars false W args.toList ds gs before) (hk : Rows.uptoSmall H (ds ++ gs) = true) :
 Calls Tryd.prog 5 args W fun e W' => ∃ v, e = .returned v ∧ Rows.opformSidesSpec.post enc Tryd.prog Tryd.f5 false true false false W args v W' := by
 have hW' := hW
 obtain ⟨p, q, hA0, hV, rfl, hfz, hnd⟩ := hW
 have hA : DataW.TrodAll enc Tryd.prog W 0 (fun _ => true) true Tryd.f5.params.toList args.toList ds p := hA0
 rw [Tryd.params5] at hA hval
 obtain ⟨v0, vs0, d0, ds0, p0, q0, hargs, rfl, rfl, h0, r0⟩ := trodAll_cons hA
 obtain ⟨v1, vs1, d1, ds1, p1, q1, rfl, rfl, rfl, h1, r1⟩ := trodAll_cons r0
 obtain ⟨rfl, rfl, rfl⟩ := trodAll_nil r1
 obtain rfl : args = #[v0, v1] := by cases args; simp_all
 obtain ⟨rfl, rfl⟩ := trodVars_none hV
 have hb : Rows.uptoBulkAll ([d0, d1] ++ []) ≤ 1048576 := of_decide_eq_true hk
 simp only [List.append_nil, Rows.uptoBulkAll] at hb
 obtain ⟨x0, A0, c0, rfl, l0, k0, u0⟩ := OG.open_ints_u (hval 0 22 v0 rfl rfl) h0 (by omega)
 have e1 := h1
 obtain ⟨n1, rfl, rfl, rfl, w1⟩ := open_int Tryd.underlying3 (hval 1 3 v1 rfl rfl) e1
 refine (R6.OpformSides_row ad A0 c0 x0 n1 W hs hg k0 l0 u0 (bounds_i w1)).mono fun e W' ⟨he, bel⟩ => ?_
 subst he
 simp only [List.append_nil] at hW'
 exact ⟨_, rfl, _, _, _, [], _, [], hW', trodAll_mk1 (shut_bool Tryd.underlying4 _), (trodAll_cons_mk (Below.trod laidOut (by kernel_rfl) (of_decide_eq_true (by kernel_rfl)) h0 bel (trod_below h0)) (trodAll_cons_mk (Below.trod laidOut (by kernel_rfl) (of_decide_eq_true (by kernel_rfl)) h1 bel (trod_below h1)) trodAll_mk0)), rfl, bel.frame _, fun h => by cases h⟩

theorem laid_met (os : Os) (args : Array Value) : laidMetH Tryd.prog Rows.opformSidesUptoRow.laid ((laidWorld16 os).forCall (fun _ _ => 0) ⟨#[], args, []⟩).memory := laid_met16 os args
theorem sents {W : World} (h : laidMetH Tryd.prog Rows.opformSidesUptoRow.laid W) : (∃ ad, SentsK ad W) ∧ HandleP W := sents16 h
theorem reads (os : Os) {H : Type} (enc : TypeId × Value → H) : ∃ places, DataW.whole enc Tryd.prog ((laidWorld16 os).forCall (fun _ _ => 0) ⟨#[], #[Value.slice none 0 0, Value.int .i64 0], []⟩).memory Tryd.f5.params.toList Rows.opformSidesSpec.vars false (#[Value.slice none 0 0, Value.int .i64 0] : Array Value).toList 8 = some ([.nil, .lit (.int .i64 0)], [], places) :=
 ⟨[], by kernel_rfl⟩

set_option maxRecDepth 100000 in
theorem lifted (os : Os) (started : os.Started) (H : Type) (enc : TypeId × Value → H) (F : Stop.Interp) :
 ReturnsInHanded {} Tryd.checked os 5 .any ((Rows.OpenSpec.upto Rows.opformSidesSpec).preRow enc Tryd.prog Tryd.f5 Rows.opformSidesUptoRow.domain false Rows.opformSidesUptoRow.laid) (((Rows.OpenSpec.upto Rows.opformSidesSpec).at F).post enc Tryd.prog Tryd.f5 false true false false) := by
 obtain ⟨places, hx⟩ := reads os enc
 refine returnsInHanded_of_row (C := Tryd.checked) (s := Rows.OpenSpec.upto Rows.opformSidesSpec) own started (by kernel_rfl) Tryd.func5
  (witness_row_atRef (enc := enc) (C := Tryd.checked) false (laidWorld16 os) #[Value.slice none 0 0, Value.int .i64 0] rfl (by kernel_rfl) (by kernel_rfl) (by kernel_rfl)
   (OpenSpec.preRow_of_cond 8 hx (by kernel_rfl) (fun k hk => by cases hk; kernel_rfl) (by kernel_rfl) (laid_met os _))) ?_
 intro W base args ds gs before hval hW _ hcond hz hL _ _
 obtain ⟨⟨ad, hs⟩, hg⟩ := sents hL
 exact contract H enc W base args ds gs before hval ad hs hg hz hW (hcond _ rfl)

theorem said : Rows.OpformSidesUptoSaid :=
 OpenClaim.holds_of_cond 5 Tryd.f5 rfl rfl rfl rfl rfl rfl rfl ⟨rfl, rfl, rfl, rfl, rfl⟩ rfl rfl rfl rfl rfl (by kernel_rfl) Tryd.func5 (by kernel_rfl)
  (of_decide_eq_true (by kernel_rfl)) (by unfold Func.isWrapper; first | (rw [if_pos (by decide +kernel)]; kernel_rfl) | (rw [if_neg (by decide +kernel)]; exact ⟨rfl, rfl⟩))
  (fun os started H enc _ F => by rw [OpenClaim.pre_eq_preRow]; exact lifted os started H enc F)

theorem plain (f : FuncId) (fn : Func) (hf : Tryd.pinned.checked.prog.funcNamed "dovetail/dovetaillaw06.OpformSides" = some f) (hfn : Tryd.pinned.checked.prog.funcs[f]? = some fn) :
 true = Tryd.pinned.checked.prog.looks [] ∧ ∀ (j : Nat) t, fn.params[j]? = some t → Tryd.pinned.checked.prog.wantsStandIn t = false := by
 obtain rfl : f = 5 := Option.some.inj ((show Tryd.prog.funcNamed "dovetail/dovetaillaw06.OpformSides" = some 5 by kernel_rfl).symm.trans hf) |>.symm
 obtain rfl : fn = Tryd.f5 := (Option.some.inj (Tryd.func5.symm.trans hfn)).symm
 refine ⟨by kernel_rfl, fun j t ht => ?_⟩
 rw [Tryd.params5] at ht
 have hm : t = 22 ∨ t = 3 := by simpa using Array.mem_of_getElem? ht
 rcases hm with rfl | rfl
 · exact (show Tryd.prog.wantsStandIn 22 = false by kernel_rfl)
 · exact (show Tryd.prog.wantsStandIn 3 = false by kernel_rfl)

theorem proved : Rows.OpformSidesUptoCardSaid :=
 Claim7.holds_tied_plain_at .later [] _ _ _ _ said (fun _ h => by cases h) (by kernel_rfl) (fun _ h => by cases h) opformSidesUpto_row_tie rfl ⟨rfl, rfl⟩ (by kernel_rfl) rfl plain (by kernel_rfl)
#print axioms proved
end Go.Proofs.YtaeaookonhaliaaDoor.opformSides
