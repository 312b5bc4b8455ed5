/- gram.Same: are two grammars the same? -/
import Derived.Test.YteaiejippkikpaaDoorKit
import Derived.Test.YteaiejippkikpaaDoorBx5
import Derived.Test.YteaiejippkikpaaDoorEx1
set_option linter.unusedVariables false
namespace Go.Proofs.YteaiejippkikpaaDoor.B
open Go.RowKit Go.Proofs.YteaiejippkikpaaDoorW.PrintWords Go.Proofs.YteaiejippkikpaaDoorW.PrintLast Go.Proofs.YteaiejippkikpaaDoorW.PrintMore

theorem C_max {α : Type} {d : Kd α} {w : World} {A : Option Addr} {n : Nat} {xs : List α} (h : d.C w A n xs) : n ≤ 9223372036854775807 := h.2.1
theorem wrap_succ (i : Nat) (h : i < 9223372036854775807) : wrap64 ((i : Int) + 1) = ((i + 1 : Nat) : Int) := by unfold wrap64; omega
theorem toList_eq (a b : ByteArray) : a.toList = b.toList ↔ a = b := by
  constructor
  · intro h
    rw [ByteArray.toList_eq, ByteArray.toList_eq] at h
    have := Array.ext' h
    cases a; cases b; simp_all
  · rintro rfl; rfl

theorem EqI_l (l0 l1 : List Int) (hl : l0.length = l1.length) (hm : l0.length ≤ 9223372036854775807) (d : Nat) : ∀ i : Nat, l0.length - i = d → i ≤ l0.length → E.slices_Equal_int_int.l0 (d + 1) l0 l1 (l0.length : Int) (i : Int) = some (decide (l0.drop i = l1.drop i)) := by
  induction d with
  | zero =>
    intro i hi hle
    have : i = l0.length := by omega
    subst this
    simp only [E.slices_Equal_int_int.l0]
    rw [if_neg (by omega), List.drop_length, hl, List.drop_length]
    simp
  | succ d ih =>
    intro i hi hle
    have hlt : i < l0.length := by omega
    rw [E.slices_Equal_int_int.l0]
    rw [if_pos (by omega), if_pos (by omega), if_pos (by omega), if_pos (by omega), List.drop_eq_getElem_cons hlt, List.drop_eq_getElem_cons (show i < l1.length by omega)]
    have g0 : rd l0 (i : Int) = l0[i] := by simp [rd, List.getD_eq_getElem?_getD, List.getElem?_eq_getElem hlt]
    have g1 : rd l1 (i : Int) = l1[i]'(by omega) := by simp [rd, List.getD_eq_getElem?_getD, List.getElem?_eq_getElem (show i < l1.length by omega)]
    rw [g0, g1]
    by_cases he : l0[i] = l1[i]'(by omega)
    · rw [if_pos he, wrap_succ i (by omega), ih (i + 1) (by omega) (by omega)]
      rw [he]; congr 1; rw [decide_eq_decide]; simp only [List.cons.injEq, true_and]
    · rw [if_neg he]; congr 1; symm; rw [decide_eq_false_iff_not]; intro h; exact he (List.cons.inj h).1
theorem EqI_f (l0 l1 : List Int) (hm : l0.length ≤ 9223372036854775807) : E.slices_Equal_int_int.f (l0.length + 1) l0 l1 = some (decide (l0 = l1)) := by
  unfold E.slices_Equal_int_int.f
  by_cases h : l0.length = l1.length
  · rw [if_pos (by omega)]
    have := EqI_l l0 l1 h hm l0.length 0 (by omega) (by omega)
    simpa using this
  · rw [if_neg (by omega)]
    have : l0 ≠ l1 := fun e => h (by rw [e])
    simp [this]
theorem EqS_l (l0 l1 : List ByteArray) (hl : l0.length = l1.length) (hm : l0.length ≤ 9223372036854775807) (d : Nat) : ∀ i : Nat, l0.length - i = d → i ≤ l0.length → slices_Equal_string_string.l0 (d + 1) l0 l1 (l0.length : Int) (i : Int) = some (decide (l0.drop i = l1.drop i)) := by
  induction d with
  | zero =>
    intro i hi hle
    have : i = l0.length := by omega
    subst this
    simp only [slices_Equal_string_string.l0]
    rw [if_neg (by omega), List.drop_length, hl, List.drop_length]
    simp
  | succ d ih =>
    intro i hi hle
    have hlt : i < l0.length := by omega
    rw [slices_Equal_string_string.l0]
    rw [if_pos (by omega), if_pos (by omega), if_pos (by omega), if_pos (by omega), List.drop_eq_getElem_cons hlt, List.drop_eq_getElem_cons (show i < l1.length by omega)]
    have g0 : rdOf ByteArray.empty l0 (i : Int) = l0[i] := by simp [rdOf, List.getD_eq_getElem?_getD, List.getElem?_eq_getElem hlt]
    have g1 : rdOf ByteArray.empty l1 (i : Int) = l1[i]'(by omega) := by simp [rdOf, List.getD_eq_getElem?_getD, List.getElem?_eq_getElem (show i < l1.length by omega)]
    rw [g0, g1]
    by_cases he : l0[i] = l1[i]'(by omega)
    · rw [if_pos ((toList_eq _ _).2 he), wrap_succ i (by omega), ih (i + 1) (by omega) (by omega)]
      rw [he]; congr 1; rw [decide_eq_decide]; simp only [List.cons.injEq, true_and]
    · rw [if_neg (fun h => he ((toList_eq _ _).1 h))]; congr 1; symm; rw [decide_eq_false_iff_not]; intro h; exact he (List.cons.inj h).1
theorem EqS_f (l0 l1 : List ByteArray) (hm : l0.length ≤ 9223372036854775807) : slices_Equal_string_string.f (l0.length + 1) l0 l1 = some (decide (l0 = l1)) := by
  unfold slices_Equal_string_string.f
  by_cases h : l0.length = l1.length
  · rw [if_pos (by omega)]
    have := EqS_l l0 l1 h hm l0.length 0 (by omega) (by omega)
    simpa using this
  · rw [if_neg (by omega)]
    have : l0 ≠ l1 := fun e => h (by rw [e])
    simp [this]
theorem EqI_calls (A0 : Option Addr) (c0 : Nat) (l0 : List Int) (A1 : Option Addr) (c1 : Nat) (l1 : List Int) (w : World) (hr0 : Kd.C (Kd.int .i64) w A0 l0.length l0) (hc0 : l0.length ≤ c0) (hr1 : Kd.C (Kd.int .i64) w A1 l1.length l1) (hc1 : l1.length ≤ c1) :
    Calls Tryd.prog 71 #[.slice A0 l0.length c0, .slice A1 l1.length c1] w fun e w' => e = .returned (.bool (decide (l0 = l1))) ∧ Below w.heap.size w w' :=
  (E.slices_Equal_int_int.calls _ A0 c0 l0 A1 c1 l1 _ w hr0 hc0 hr1 hc1 (EqI_f l0 l1 (C_max hr0))).mono fun _ _ ⟨he, hd⟩ => ⟨he, hd.below⟩
theorem EqS_calls (A0 : Option Addr) (c0 : Nat) (l0 : List ByteArray) (A1 : Option Addr) (c1 : Nat) (l1 : List ByteArray) (w : World) (hr0 : Kd.C Kd.string w A0 l0.length l0) (hc0 : l0.length ≤ c0) (hr1 : Kd.C Kd.string w A1 l1.length l1) (hc1 : l1.length ≤ c1) :
    Calls Tryd.prog 68 #[.slice A0 l0.length c0, .slice A1 l1.length c1] w fun e w' => e = .returned (.bool (decide (l0 = l1))) ∧ Below w.heap.size w w' :=
  (slices_Equal_string_string.calls _ A0 c0 l0 A1 c1 l1 _ w hr0 hc0 hr1 hc1 (EqS_f l0 l1 (C_max hr0))).mono fun _ _ ⟨he, hd⟩ => ⟨he, hd.below⟩

/-- A rule as a pair. -/
def prR (x : S35) : Int × List Int := (x.f0, x.f1)

set_option maxHeartbeats 4000000 in
set_option maxRecDepth 100000 in
theorem SameR_calls (x y : S35) (A0 : Option Addr) (c0 : Nat) (A1 : Option Addr) (c1 : Nat) (w : World) (hr0 : Kd.C (Kd.int .i64) w A0 x.f1.length x.f1) (hc0 : x.f1.length ≤ c0) (hr1 : Kd.C (Kd.int .i64) w A1 y.f1.length y.f1) (hc1 : y.f1.length ≤ c1) :
    Calls Tryd.prog 70 #[.agg #[.int .i64 x.f0, .slice A0 x.f1.length c0], .agg #[.int .i64 y.f0, .slice A1 y.f1.length c1]] w fun e w' => e = .returned (.bool (decide (prR x = prR y))) ∧ Below w.heap.size w w' := by
  obtain ⟨x0, x1⟩ := x
  obtain ⟨y0, y1⟩ := y
  dsimp only at hr0 hc0 hr1 hc1 ⊢
  have hw2 : Below w.heap.size w ((w.alloc (.cells #[.int .i64 x0, .slice A0 x1.length c0] 35)).alloc (.cells #[.int .i64 y0, .slice A1 y1.length c1] 35)) :=
    ((Below.refl _ w).alloc (Nat.le_refl _) _).alloc (by simp) _
  have hcall := EqI_calls A0 c0 x1 A1 c1 y1 _ (Kd.C_below hr0 hw2) hc0 (Kd.C_below hr1 hw2) hc1
  have hsz : w.heap.size ≤ ((w.alloc (.cells #[.int .i64 x0, .slice A0 x1.length c0] 35)).alloc (.cells #[.int .i64 y0, .slice A1 y1.length c1] 35)).heap.size := by simp; omega
  clear hr0 hr1
  by_cases he : x0 = y0
  · subst he
    have hb : (x0 == x0) = true := beq_self_eq_true x0
    go_enter Tryd.func70, Tryd.ntmps70
    go_wp2_with (refine hcall.mono ?_; rintro e w' ⟨rfl, hbe⟩)
    go_ret
    exact ⟨by simp [prR], hw2.trans (hbe.mono hsz)⟩
  · have hb : (x0 == y0) = false := by simpa using he
    clear hcall
    go_enter Tryd.func70, Tryd.ntmps70
    go_wp2_with fail
    go_ret
    exact ⟨by simp [prR, he], hw2⟩

set_option maxHeartbeats 4000000 in
set_option maxRecDepth 100000 in
theorem EqR_calls (A0 : Option Addr) (c0 : Nat) (l0 : List S35) (A1 : Option Addr) (c1 : Nat) (l1 : List S35) (w : World) (hr0 : Kd.C k35 w A0 l0.length l0) (hc0 : l0.length ≤ c0) (hr1 : Kd.C k35 w A1 l1.length l1) (hc1 : l1.length ≤ c1) :
    Calls Tryd.prog 69 #[.slice A0 l0.length c0, .slice A1 l1.length c1, .func (.func 70) #[] #[]] w fun e w' => e = .returned (.bool (decide (l0.map prR = l1.map prR))) ∧ Below w.heap.size w w' := by
  have hm0 := C_max hr0
  have HR0 := Aside0.mk hr0
  have HR1 := Aside0.mk hr1
  clear hr0 hr1
  by_cases hl : l0.length = l1.length
  · rw [← hl] at HR1 hc1 ⊢
    have HL := Lib.hid hl
    clear hl
    go_enter Tryd.func69, Tryd.ntmps69
    go_wp2_with fail
    go_loopw [7, 8, 9, 17] (fun _ _ _ i wr => ∃ k : Nat, k ≤ l0.length ∧ i = .int .i64 k ∧ Hid ((l0.take k).map prR = (l1.take k).map prR) ∧ Below w.heap.size w wr) (fun _ _ _ i _ => l0.length - (intOf i).toNat)
    case atStart => exact ⟨0, Nat.zero_le _, rfl, Lib.hid (by simp), Below.refl _ w⟩
    case round =>
      obtain ⟨k, hk, rfl, heq, hbe⟩ := hrel
      have hsz := hbe.size
      by_cases hlt : k < l0.length
      · have hlt1 : Hid (k < l1.length) := Lib.hid (by have := HL.out; omega)
        have hx := at_T35 (Kd.C_below HR0.out hbe) (k : Int) (by omega) (by omega)
        obtain ⟨ad0, A00, c00, rfl, h00, h01, h02, h03⟩ := hx
        have hy := at_T35 (Kd.C_below HR1.out hbe) (k : Int) (by omega) (by omega)
        obtain ⟨ad1, A10, c10, rfl, h10, h11, h12, h13⟩ := hy
        rw [Int.toNat_natCast] at h00 h01 h10 h11
        have g0 : rd_T35 l0 (k : Int) = l0[k] := by simp [rd_T35, List.getD_eq_getElem?_getD, List.getElem?_eq_getElem hlt]
        have g1 : rd_T35 l1 (k : Int) = l1[k]'hlt1.out := by simp [rd_T35, List.getD_eq_getElem?_getD, List.getElem?_eq_getElem hlt1.out]
        rw [g0] at h00 h01 h02 h03
        rw [g1] at h10 h11 h12 h13
        have hn0 : (l0.take (k + 1)).map prR = (l0.take k).map prR ++ [prR l0[k]] := by rw [List.take_succ_eq_append_getElem hlt, List.map_append, List.map_singleton]
        have hn1 : (l1.take (k + 1)).map prR = (l1.take k).map prR ++ [prR (l1[k]'hlt1.out)] := by rw [List.take_succ_eq_append_getElem hlt1.out, List.map_append, List.map_singleton]
        have hm : l0.map prR = l1.map prR → prR l0[k] = prR (l1[k]'hlt1.out) := by
          intro h
          have := congrArg (fun l => l[k]?) h
          simp only [List.getElem?_map, List.getElem?_eq_getElem hlt, List.getElem?_eq_getElem hlt1.out, Option.map_some] at this
          exact Option.some.inj this
        generalize l0[k] = x at h00 h01 h02 h03 hn0 hm
        generalize l1[k]'hlt1.out = y at h10 h11 h12 h13 hn1 hm
        have hcall : ∀ W, Below wr.heap.size wr W → Calls Tryd.prog 70 #[.agg #[.int .i64 x.f0, .slice A00 x.f1.length c00], .agg #[.int .i64 y.f0, .slice A10 y.f1.length c10]] W fun e w' => e = .returned (.bool (decide (prR x = prR y))) ∧ Below w.heap.size w w' := by
          intro W hW
          refine (SameR_calls x y A00 c00 A10 c10 W (Kd.C_below h03 hW) h02 (Kd.C_below h13 hW) h12).mono ?_
          rintro e w' ⟨he, hb⟩
          exact ⟨he, hbe.trans ((hW.trans (hb.mono hW.size)).mono hsz)⟩
        have h10a := fun o => Lib.cell?_alloc_some o h10
        have h11a := fun o => Lib.cell?_alloc_some o h11
        have HN0 := Lib.hid hn0
        have HN1 := Lib.hid hn1
        have HM := Lib.hid hm
        clear g0 g1 hn0 hn1 hm h03 h13
        by_cases hd : prR x = prR y
        · rw [decide_eq_true hd] at hcall
          have HD := Lib.hid hd
          clear hd
          go_wp2_with (go_at_call 70; refine (hcall _ (((Below.refl _ wr).alloc (Nat.le_refl _) _).alloc (by simp) _)).mono ?_; rintro e w' ⟨rfl, hbn⟩)
          go_roundw
          case measure => simp [intOf]; omega
          case rel => exact ⟨k + 1, by omega, rfl, Lib.hid (by rw [HN0.out, HN1.out, heq.out, HD.out]), hbn⟩
        · rw [decide_eq_false hd] at hcall
          have HD := Lib.hid hd
          clear hd
          go_wp2_with (go_at_call 70; refine (hcall _ (((Below.refl _ wr).alloc (Nat.le_refl _) _).alloc (by simp) _)).mono ?_; rintro e w' ⟨rfl, hbn⟩)
          go_ret
          refine ⟨?_, hbn⟩
          show Ending.returned (.bool false) = _
          rw [decide_eq_false (fun h => HD.out (HM.out h))]
      · have hkn : k = l0.length := by omega
        subst hkn
        go_wp2_with fail
        go_ret
        refine ⟨?_, hbe⟩
        have h1 := heq.out
        rw [List.take_length, HL.out, List.take_length] at h1
        show Ending.returned (.bool true) = _
        rw [decide_eq_true h1]
  · have hne : ((l0.length : Int) != (l1.length : Int)) = true := by simp; omega
    go_enter Tryd.func69, Tryd.ntmps69
    go_wp2_with fail
    go_ret
    refine ⟨?_, Below.refl _ w⟩
    have : ¬ l0.map prR = l1.map prR := fun h => hl (by simpa using congrArg List.length h)
    show Ending.returned (.bool false) = _
    rw [decide_eq_false this]
end Go.Proofs.YteaiejippkikpaaDoor.B
