/- words.Write: what it answers, for all words that it may write. -/
import Derived.Test.YteaiejippkikpaaDoorQuote
import Derived.Test.YteaiejippkikpaaDoorLwx3
set_option linter.unusedVariables false
namespace Go.Proofs.YteaiejippkikpaaDoor.H
open Go.RowKit Go.Proofs.YteaiejippkikpaaDoorW.PrintWords Go.Proofs.YteaiejippkikpaaDoorW.PrintLast Go.Proofs.YteaiejippkikpaaDoorW.PrintMore
open Go.Proofs.YteaiejippkikpaaDoor.Lw

theorem bt_eq (s : ByteArray) (k : Nat) (h : k < s.size) : bt s (k : Int) = (s[k].toNat : Int) := by
  have := bt_at s (k : Int) (by simpa using h)
  simpa using this.symm
theorem plain_f (s : ByteArray) (k : Nat) (h : k < s.size) : words_plain.f (bt s (k : Int)) = some (P.plainB s[k]) := by
  rw [bt_eq s k h]
  unfold words_plain.f P.plainB
  have h1 : (32 < s[k]) ↔ ((s[k].toNat : Int) > 32) := by rw [UInt8.lt_iff_toNat_lt]; simp; omega
  have h2 : (s[k] < 127) ↔ ((s[k].toNat : Int) < 127) := by rw [UInt8.lt_iff_toNat_lt]; simp; omega
  have h3 : (s[k] == 34) = ((s[k].toNat : Int) == 34) := by
    rw [Bool.eq_iff_iff, beq_iff_eq, beq_iff_eq, ← UInt8.toNat_inj]
    simp; omega
  by_cases c1 : (s[k].toNat : Int) > 32
  · by_cases c2 : (s[k].toNat : Int) < 127
    · rw [if_pos c1, if_pos c2, decide_eq_true (h1.mpr c1), decide_eq_true (h2.mpr c2), h3]; simp [bne]
    · rw [if_pos c1, if_neg c2, decide_eq_false (fun h => c2 (h2.mp h))]; simp
  · rw [if_neg c1, decide_eq_false (fun h => c1 (h1.mp h))]; simp
theorem Plain_l (s : ByteArray) (hs : s.size ≤ 140737488355328) (d : Nat) : ∀ i : Nat, s.size - i = d → i ≤ s.size → words_Plain.l0 (d + 1) s (s.size : Int) (i : Int) = some ((s.data.toList.drop i).all P.plainB && P.noHash s.data.toList) := by
  induction d with
  | zero =>
    intro i hi hle
    have : i = s.size := by omega
    subst this
    simp only [words_Plain.l0]
    rw [if_neg (by omega), List.drop_of_length_le (by simp)]
    cases hd : s.data.toList with
    | nil =>
      have : s.toList = [] := (P.toList_data s).trans hd
      rw [if_pos this]; rfl
    | cons c r =>
      have h0 : 0 < s.size := by
        have : s.data.toList.length = s.size := by simp
        rw [hd] at this; simp at this; omega
      have hne : ¬ s.toList = [] := by
        intro h
        rw [P.toList_data, hd] at h; cases h
      rw [if_neg hne, if_pos (by omega)]
      have hb := bt_eq s 0 h0
      have h00 : s[0] = c := by
        have : s.data.toList[0]? = some c := by rw [hd]; rfl
        have h2 : s.data.toList[0]? = some s[0] := by rw [List.getElem?_eq_getElem (by simpa using h0)]; rfl
        rw [h2] at this; exact Option.some.inj this
      rw [show (0 : Int) = ((0 : Nat) : Int) from rfl, hb, h00]
      have : (c == 35) = ((c.toNat : Int) == 35) := by
        rw [Bool.eq_iff_iff, beq_iff_eq, beq_iff_eq, ← UInt8.toNat_inj]; simp; omega
      simp [P.noHash, bne, this]
  | succ d ih =>
    intro i hi hle
    have hlt : i < s.size := by omega
    rw [words_Plain.l0]
    rw [if_pos (by omega), if_pos (by omega), if_pos (by omega), plain_f s i hlt]
    simp only [Option.bind_some]
    have hdr : s.data.toList.drop i = s[i] :: s.data.toList.drop (i + 1) := by rw [List.drop_eq_getElem_cons (by simpa using hlt)]; rfl
    rw [hdr, List.all_cons]
    cases hp : P.plainB s[i] with
    | false => simp
    | true =>
      rw [if_pos rfl]
      have hw : wrap64 ((i : Int) + 1) = ((i + 1 : Nat) : Int) := by unfold wrap64; omega
      rw [hw, ih (i + 1) (by omega) (by omega)]
      simp
theorem Plain_f (s : ByteArray) (hs : s.size ≤ 140737488355328) : words_Plain.f (s.size + 1) s = some (P.plainL s.data.toList) := by
  have := Plain_l s hs s.size 0 (by omega) (by omega)
  unfold words_Plain.f P.plainL
  rw [List.drop_zero] at this
  exact this
theorem Plain_calls (s : ByteArray) (hs : s.size ≤ 140737488355328) (w : World) :
    Calls Tryd.prog 52 #[.string s] w fun e w' => e = .returned (.bool (P.plainL s.data.toList)) ∧ Below w.heap.size w w' :=
  (words_Plain.calls _ s _ w (Plain_f s hs)).mono fun _ _ ⟨he, hd⟩ => ⟨he, hd.below⟩
/-- A word, as it is written. -/
def wl (x : S82) : List UInt8 × Bool := (x.f0.data.toList, x.f1)

set_option maxHeartbeats 4000000 in
set_option maxRecDepth 100000 in
theorem Write_calls (A : Option Addr) (c : Nat) (l : List S82) (w : World) (hr : Kd.C k82 w A l.length l) (hc : l.length ≤ c) (hb : P.boundL (l.map wl) ≤ 140737488355328) :
    Calls Tryd.prog 51 #[.slice A l.length c] w fun e w' => e = .returned (.string ⟨(P.writeL (l.map wl)).toArray⟩) ∧ Below w.heap.size w w' := by
  have hll : l.length ≤ 140737488355328 := by
    have := P.boundL_ge (l.map wl)
    rw [List.length_map] at this
    omega
  have h1 := BU_new w
  have HR := Aside0.mk hr
  clear hr
  go_enter Tryd.func51, Tryd.ntmps51
  go_wp2_with fail
  go_loopw [8] (fun i wr => ∃ k : Nat, k ≤ l.length ∧ i = .int .i64 k ∧ BU w.heap.size w.heap.size (P.writeL ((l.map wl).take k)) wr ∧ Below w.heap.size w wr) (fun i _ => l.length - (intOf i).toNat)
  case atStart => exact ⟨0, Nat.zero_le _, rfl, h1, (Below.refl _ w).alloc (Nat.le_refl _) _⟩
  case round =>
    clear h1
    obtain ⟨k, hk, rfl, hbu, hbe⟩ := hrel
    have hsz := hbe.size
    by_cases hlt : k < l.length
    · have hx := at_T82 HR.out (k : Int) (by omega) (by omega)
      obtain ⟨ad, rfl, h0, h1, h2⟩ := hx
      replace h0 := (hbe.cell (World.block_lt_of_cell? w _ h0)).trans h0
      replace h1 := (hbe.cell (World.block_lt_of_cell? w _ h1)).trans h1
      replace h2 := (hbe.cell (World.block_lt_of_cell? w _ h2)).trans h2
      rw [Int.toNat_natCast] at h0 h1 h2
      generalize hx : rd_T82 l (k : Int) = x at h0 h1 h2
      obtain ⟨t, q, n⟩ := x
      dsimp only at h0 h1 h2
      have hsn : (l.map wl).take (k + 1) = (l.map wl).take k ++ [(t.data.toList, q)] := by
        rw [List.take_succ_eq_append_getElem (by simpa using hlt)]
        have : l[k] = ⟨t, q, n⟩ := by rw [← hx]; simp [rd_T82, List.getD_eq_getElem?_getD, List.getElem?_eq_getElem hlt]
        simp [this, wl]
      have hwn := P.writeL_snoc ((l.map wl).take k) (t.data.toList, q)
      rw [← hsn] at hwn
      have hbn := P.boundL_snoc ((l.map wl).take k) (t.data.toList, q)
      rw [← hsn] at hbn
      have hbt := P.boundL_take (l.map wl) (k + 1)
      have hwl := P.writeL_length ((l.map wl).take k)
      have htz : t.data.toList.length = t.size := by simp
      dsimp only at hbn
      rw [htz] at hbn
      have hqb : 4 * t.size + 3 + (P.writeL ((l.map wl).take k)).length ≤ 140737488355328 := by omega
      have HWN := Lib.hid hwn
      clear hsn hwn hbn hbt hwl hx htz
      have hsep : ∀ (W : World), BU w.heap.size w.heap.size (P.writeL ((l.map wl).take k) ++ (if (l.map wl).take k = [] then [] else [32])) W → Below w.heap.size w W → W.heap[wr.heap.size]? = some (.cells #[.string t, .bool q, .int .i64 n] 82 (0, 0)) → True := fun _ _ _ _ => trivial
      clear hsep
      have hnil : (l.map wl).take k = [] ↔ k = 0 := by
        constructor
        · intro h
          have := congrArg List.length h
          rw [List.length_take, List.length_map] at this
          simp at this
          rcases this with h | h
          · exact h
          · rw [h] at hlt; simp at hlt
        · rintro rfl; rfl
      have hb0 := BU_alloc hbu (.cells #[.string t, .bool q, .int .i64 n] 82)
      have hx0 : (wr.alloc (.cells #[.string t, .bool q, .int .i64 n] 82)).heap[wr.heap.size]? = some (.cells #[.string t, .bool q, .int .i64 n] 82 (0, 0)) := heap_alloc_new wr _
      have he0 : Below w.heap.size w (wr.alloc (.cells #[.string t, .bool q, .int .i64 n] 82)) := hbe.alloc hsz _
      have hbl : wr.heap.size ≠ w.heap.size := by have := BU_lt hbu; omega
      by_cases hk0 : k = 0
      · have hpre := hnil.mpr hk0
        have hpz : ¬ 0 < k := by omega
        have HP := Lib.hid hpre
        clear hpre hnil hk0
        have c0 := Lib.cell_of_heap hx0 0
        have c1 := Lib.cell_of_heap hx0 1
        simp only [List.getElem?_toArray, List.getElem?_cons_zero, List.getElem?_cons_succ] at c0 c1
        cases q with
        | true =>
          go_wp2_with fail
          refine (Quote_calls t _ (by omega)).mono ?_
          rintro e w5 ⟨rfl, hw5⟩
          have hb5 := BU_below hb0 hw5
          have he5 := below_then he0 (by first | omega | (simp; omega)) hw5
          go_wp2_with fail
          refine (wStr w.heap.size w.heap.size _ _ _ hb5 ?_ ?_).mono ?_
          · have hq1 := P.quoteL_length t.data.toList; rw [P.size_lit]; (try rw [List.length_append, List.length_singleton]); have hq2 : t.data.toList.length = t.size := by simp
            omega
          · have := he5.size; omega
          rintro e w4 ⟨rfl, hb4, hw4, _⟩
          go_wp2_with fail
          go_roundw
          case measure => simp [intOf]; omega
          case rel =>
            refine ⟨k + 1, by omega, by go_num, ?_, he5.trans hw4⟩
            rw [HWN.out]
            have hp' : P.pieceL (t.data.toList, true) = P.quoteL t.data.toList := by simp [P.pieceL]
            rw [hp', if_pos HP.out, List.append_nil]
            exact hb4
        | false =>
          cases hp : P.plainL t.data.toList with
          | false =>
            go_wp2_with fail
            refine (Plain_calls t (by omega) _).mono ?_
            rintro e w3 ⟨rfl, hw3⟩
            have hb3 := BU_below hb0 hw3
            have he3 := below_then he0 (by first | omega | (simp; omega)) hw3
            have hlt3 := (Array.getElem?_eq_some_iff.1 hx0).1
            have d0 := (hw3.cell (p := ⟨wr.heap.size, 0, none⟩) hlt3).trans c0
            clear hlt3
            go_wp2_with fail
            refine (Quote_calls t _ (by omega)).mono ?_
            rintro e w5 ⟨rfl, hw5⟩
            have hb5 := BU_below hb3 hw5
            have he5 := below_then he3 (by have := he3.size; first | omega | (simp; omega)) hw5
            go_wp2_with fail
            refine (wStr w.heap.size w.heap.size _ _ _ hb5 ?_ ?_).mono ?_
            · have hq1 := P.quoteL_length t.data.toList; rw [P.size_lit]; (try rw [List.length_append, List.length_singleton]); have hq2 : t.data.toList.length = t.size := by simp
              omega
            · have := he5.size; omega
            rintro e w4 ⟨rfl, hb4, hw4, _⟩
            go_wp2_with fail
            go_roundw
            case measure => simp [intOf]; omega
            case rel =>
              refine ⟨k + 1, by omega, by go_num, ?_, he5.trans hw4⟩
              rw [HWN.out]
              have hp' : P.pieceL (t.data.toList, false) = P.quoteL t.data.toList := by simp [P.pieceL, hp]
              rw [hp', if_pos HP.out, List.append_nil]
              exact hb4
          | true =>
            go_wp2_with fail
            refine (Plain_calls t (by omega) _).mono ?_
            rintro e w3 ⟨rfl, hw3⟩
            have hb3 := BU_below hb0 hw3
            have he3 := below_then he0 (by first | omega | (simp; omega)) hw3
            have hlt3 := (Array.getElem?_eq_some_iff.1 hx0).1
            have d0 := (hw3.cell (p := ⟨wr.heap.size, 0, none⟩) hlt3).trans c0
            clear hlt3
            go_wp2_with fail
            refine (wStr w.heap.size w.heap.size _ _ _ hb3 (by first | omega | (rw [List.length_append, List.length_singleton]; omega)) ?_).mono ?_
            · have := he3.size; omega
            rintro e w4 ⟨rfl, hb4, hw4, _⟩
            go_wp2_with fail
            go_roundw
            case measure => simp [intOf]; omega
            case rel =>
              refine ⟨k + 1, by omega, by go_num, ?_, he3.trans hw4⟩
              rw [HWN.out]
              have hp' : P.pieceL (t.data.toList, false) = t.data.toList := by simp [P.pieceL, hp]
              rw [hp', if_pos HP.out, List.append_nil]
              exact hb4
      · have hpre : ¬ (l.map wl).take k = [] := fun h => hk0 (hnil.mp h)
        have HP := Lib.hid hpre
        have hkp : 0 < k := by omega
        clear hpre hnil
        go_wp2_with fail
        refine (wByteN w.heap.size w.heap.size _ 32 (by omega) _ hb0 (by omega) (by simp; omega)).mono ?_
        rintro e w2 ⟨rfl, hb2, hw2, hkx⟩
        have hx2 := hkx _ _ _ _ hx0 (by decide) hbl
        have he2 := he0.trans hw2
        have hsz2 := hw2.size
        rw [World.size_alloc] at hsz2
        have c0 := Lib.cell_of_heap hx2 0
        have c1 := Lib.cell_of_heap hx2 1
        simp only [List.getElem?_toArray, List.getElem?_cons_zero, List.getElem?_cons_succ] at c0 c1
        cases q with
        | true =>
          go_wp2_with fail
          refine (Quote_calls t _ (by omega)).mono ?_
          rintro e w5 ⟨rfl, hw5⟩
          have hb5 := BU_below hb2 hw5
          have he5 := below_then he2 (by first | omega | (simp; omega)) hw5
          go_wp2_with fail
          refine (wStr w.heap.size w.heap.size _ _ _ hb5 ?_ ?_).mono ?_
          · have hq1 := P.quoteL_length t.data.toList; rw [P.size_lit]; (try rw [List.length_append, List.length_singleton]); have hq2 : t.data.toList.length = t.size := by simp
            omega
          · have := he5.size; omega
          rintro e w4 ⟨rfl, hb4, hw4, _⟩
          go_wp2_with fail
          go_roundw
          case measure => simp [intOf]; omega
          case rel =>
            refine ⟨k + 1, by omega, by go_num, ?_, he5.trans hw4⟩
            rw [HWN.out]
            have hp' : P.pieceL (t.data.toList, true) = P.quoteL t.data.toList := by simp [P.pieceL]
            rw [hp', if_neg HP.out]
            exact hb4
        | false =>
          cases hp : P.plainL t.data.toList with
          | false =>
            go_wp2_with fail
            refine (Plain_calls t (by omega) _).mono ?_
            rintro e w3 ⟨rfl, hw3⟩
            have hb3 := BU_below hb2 hw3
            have he3 := below_then he2 (by first | omega | (simp; omega)) hw3
            have hlt3 := (Array.getElem?_eq_some_iff.1 hx2).1
            have d0 := (hw3.cell (p := ⟨wr.heap.size, 0, none⟩) hlt3).trans c0
            clear hlt3
            go_wp2_with fail
            refine (Quote_calls t _ (by omega)).mono ?_
            rintro e w5 ⟨rfl, hw5⟩
            have hb5 := BU_below hb3 hw5
            have he5 := below_then he3 (by have := he3.size; first | omega | (simp; omega)) hw5
            go_wp2_with fail
            refine (wStr w.heap.size w.heap.size _ _ _ hb5 ?_ ?_).mono ?_
            · have hq1 := P.quoteL_length t.data.toList; rw [P.size_lit]; (try rw [List.length_append, List.length_singleton]); have hq2 : t.data.toList.length = t.size := by simp
              omega
            · have := he5.size; omega
            rintro e w4 ⟨rfl, hb4, hw4, _⟩
            go_wp2_with fail
            go_roundw
            case measure => simp [intOf]; omega
            case rel =>
              refine ⟨k + 1, by omega, by go_num, ?_, he5.trans hw4⟩
              rw [HWN.out]
              have hp' : P.pieceL (t.data.toList, false) = P.quoteL t.data.toList := by simp [P.pieceL, hp]
              rw [hp', if_neg HP.out]
              exact hb4
          | true =>
            go_wp2_with fail
            refine (Plain_calls t (by omega) _).mono ?_
            rintro e w3 ⟨rfl, hw3⟩
            have hb3 := BU_below hb2 hw3
            have he3 := below_then he2 (by first | omega | (simp; omega)) hw3
            have hlt3 := (Array.getElem?_eq_some_iff.1 hx2).1
            have d0 := (hw3.cell (p := ⟨wr.heap.size, 0, none⟩) hlt3).trans c0
            clear hlt3
            go_wp2_with fail
            refine (wStr w.heap.size w.heap.size _ _ _ hb3 (by first | omega | (rw [List.length_append, List.length_singleton]; omega)) ?_).mono ?_
            · have := he3.size; omega
            rintro e w4 ⟨rfl, hb4, hw4, _⟩
            go_wp2_with fail
            go_roundw
            case measure => simp [intOf]; omega
            case rel =>
              refine ⟨k + 1, by omega, by go_num, ?_, he3.trans hw4⟩
              rw [HWN.out]
              have hp' : P.pieceL (t.data.toList, false) = t.data.toList := by simp [P.pieceL, hp]
              rw [hp', if_neg HP.out]
              exact hb4
    · go_wp2_with fail
      refine (wText w.heap.size w.heap.size _ _ hbu hsz).mono ?_
      rintro e w3 ⟨rfl, hw3⟩
      go_wp2
      go_ret
      obtain rfl : k = l.length := by omega
      refine ⟨?_, hbe.trans hw3⟩
      show Ending.returned (.string ⟨(P.writeL ((l.map wl).take l.length)).toArray⟩) = _
      rw [List.take_of_length_le (by simp)]
end Go.Proofs.YteaiejippkikpaaDoor.H
