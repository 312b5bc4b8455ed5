/-
 dovetaillaw15.LineWrites: whatever is handed in, the call answers true, and each argument reads as it did.
 Conditions: those of the given statement LineWritesCardSaid alone.
-/
import Derived.Test.YthjhaogfpdkhbaaDoorMLWr2
import Derived.Lib.LazyBuf
import Derived.StillTailTactics
import Derived.Test.YthjhaogfpdkhbaaDoorMLWr1
import Derived.Lib.AppendStr
import Derived.Test.YthjhaogfpdkhbaaDoorProg
import Derived.Below
import Derived.Deep.Draws
import Derived.Deep.AppendLies
import Derived.Maps.AppendAt
import Derived.OwnWalk
import Derived.Laws.BytesArg
import Derived.Laws.MakeOwn
import Derived.Laws.OwnMore
import Derived.Deep.OwnRows
import Derived.Tactics
import Derived.Lib.ConvBytes
import Derived.Laws.Slices
import Derived.WalkKit
import Derived.KernelRfl
import Derived.RowKit3
import Derived.Deep.LoopGhost
import Derived.Deep.QuietTactic
import Derived.BigQuiet
import Derived.WideLaws
import Derived.Deep.DeepCutAuto
import Derived.Deep.CutBlock
import Derived.Deep.RegionHeld3
import Derived.Laws.Rows
import Derived.ArgAppend
import Derived.Laws.IdiomCopy
import Derived.OrdersHeld
import Derived.Laws.BitsLemmas
import Derived.RowKit
import Derived.Test.YthjhaogfpdkhbaaDoorCards
import Derived.Test.YthjhaogfpdkhbaaDoorTie
import Derived.LaidLaws
import Derived.LaidHandle
import Derived.Lib.LaidTab
import Derived.Lib.LaidIn
import Derived.SevenTiedAt
import Derived.WideShapes
import Derived.JoinedCond
import Derived.ChangeMaps5
import Derived.SizedLaws
import Derived.Deep.DeepHandedRow
import Derived.Deep.DeepWitnessRowRef
/- words.Write: what it answers, for all words that it may write. -/
set_option linter.unusedVariables false
namespace Go.Proofs.YthjhaogfpdkhbaaDoor.H
open Go.RowKit YthjhaogfpdkhbaaDoorW.PrintWords YthjhaogfpdkhbaaDoorW.PrintLast YthjhaogfpdkhbaaDoorW.PrintMore
open B

theorem bt_eq (s : ByteArray) (k : Nat) (h : k < s.size) : bt s (k : Int) = (s[k].toNat : Int) := by
 have := bt_at s (k : Int) (by simpa using h)
 simpa using this.symm
theorem plain_f (s : ByteArray) (k : Nat) (h : k < s.size) : words_plain.f (bt s (k : Int)) = some (P.plainB s[k]) := by
 rw [bt_eq s k h]
 unfold words_plain.f P.plainB
 have h1 : (32 < s[k]) ↔ ((s[k].toNat : Int) > 32) := by rw [UInt8.lt_iff_toNat_lt]; simp; omega
 have h2 : (s[k] < 127) ↔ ((s[k].toNat : Int) < 127) := by rw [UInt8.lt_iff_toNat_lt]; simp; omega
 have h3 : (s[k] == 34) = ((s[k].toNat : Int) == 34) := by
  rw [Bool.eq_iff_iff, beq_iff_eq, beq_iff_eq, ← UInt8.toNat_inj]
  simp; omega
 by_cases c1 : (s[k].toNat : Int) > 32
 · by_cases c2 : (s[k].toNat : Int) < 127
   · rw [if_pos c1, if_pos c2, decide_eq_true (h1.mpr c1), decide_eq_true (h2.mpr c2), h3]; simp [bne]
   · rw [if_pos c1, if_neg c2, decide_eq_false (fun h => c2 (h2.mp h))]; simp
 · rw [if_neg c1, decide_eq_false (fun h => c1 (h1.mp h))]; simp
theorem Plain_l (s : ByteArray) (hs : s.size ≤ 140737488355328) (d : Nat) : ∀ i : Nat, s.size - i = d → i ≤ s.size → words_Plain.l0 (d + 1) s (s.size : Int) (i : Int) = some ((s.data.toList.drop i).all P.plainB && P.noHash s.data.toList) := by
 induction d with
 | zero =>
  intro i hi hle
  have : i = s.size := by omega
  subst this
  simp only [words_Plain.l0]
  rw [if_neg (by omega), List.drop_of_length_le (by simp)]
  cases hd : s.data.toList with
  | nil =>
   have : s.toList = [] := (P.toList_data s).trans hd
   rw [if_pos this]; rfl
  | cons c r =>
   have h0 : 0 < s.size := by
    have : s.data.toList.length = s.size := by simp
    rw [hd] at this; simp at this; omega
   have hne : ¬ s.toList = [] := by
    intro h
    rw [P.toList_data, hd] at h; cases h
   rw [if_neg hne, if_pos (by omega)]
   have hb := bt_eq s 0 h0
   have h00 : s[0] = c := by
    have : s.data.toList[0]? = some c := by rw [hd]; rfl
    have h2 : s.data.toList[0]? = some s[0] := by rw [List.getElem?_eq_getElem (by simpa using h0)]; rfl
    rw [h2] at this; exact Option.some.inj this
   rw [show (0 : Int) = ((0 : Nat) : Int) from rfl, hb, h00]
   have : (c == 35) = ((c.toNat : Int) == 35) := by
    rw [Bool.eq_iff_iff, beq_iff_eq, beq_iff_eq, ← UInt8.toNat_inj]; simp; omega
   simp [P.noHash, bne, this]
 | succ d ih =>
  intro i hi hle
  have hlt : i < s.size := by omega
  rw [words_Plain.l0]
  rw [if_pos (by omega), if_pos (by omega), if_pos (by omega), plain_f s i hlt]
  simp only [Option.bind_some]
  have hdr : s.data.toList.drop i = s[i] :: s.data.toList.drop (i + 1) := by rw [List.drop_eq_getElem_cons (by simpa using hlt)]; rfl
  rw [hdr, List.all_cons]
  cases hp : P.plainB s[i] with
  | false => simp
  | true =>
   rw [if_pos rfl]
   have hw : wrap64 ((i : Int) + 1) = ((i + 1 : Nat) : Int) := by unfold wrap64; omega
   rw [hw, ih (i + 1) (by omega) (by omega)]
   simp
theorem Plain_f (s : ByteArray) (hs : s.size ≤ 140737488355328) : words_Plain.f (s.size + 1) s = some (P.plainL s.data.toList) := by
 have := Plain_l s hs s.size 0 (by omega) (by omega)
 unfold words_Plain.f P.plainL
 rw [List.drop_zero] at this
 exact this
theorem Plain_calls (s : ByteArray) (hs : s.size ≤ 140737488355328) (w : World) :
 Calls Tryd.prog 83 #[.string s] w fun e w' => e = .returned (.bool (P.plainL s.data.toList)) ∧ Below w.heap.size w w' :=
 (words_Plain.calls _ s _ w (Plain_f s hs)).mono fun _ _ ⟨he, hd⟩ => ⟨he, hd.below⟩
def wl (x : S87) : List UInt8 × Bool := (x.f0.data.toList, x.f1)

set_option maxHeartbeats 4000000 in
set_option maxRecDepth 100000 in
theorem Write_calls (A : Option Addr) (c : Nat) (l : List S87) (w : World) (hr : Kd.C k87 w A l.length l) (hc : l.length ≤ c) (hb : P.boundL (l.map wl) ≤ 140737488355328) :
 Calls Tryd.prog 52 #[.slice A l.length c] w fun e w' => e = .returned (.string ⟨(P.writeL (l.map wl)).toArray⟩) ∧ Below w.heap.size w w' := by
 have hll : l.length ≤ 140737488355328 := by
  have := P.boundL_ge (l.map wl)
  rw [List.length_map] at this
  omega
 have h1 := BU_new w
 have HR := Aside0.mk hr
 clear hr
 go_enter Tryd.func52, Tryd.ntmps52
 go_wp2_with fail
 go_loopw [8] (fun i wr => ∃ k : Nat, k ≤ l.length ∧ i = .int .i64 k ∧ BU w.heap.size w.heap.size (P.writeL ((l.map wl).take k)) wr ∧ Below w.heap.size w wr) (fun i _ => l.length - (intOf i).toNat)
 case atStart => exact ⟨0, Nat.zero_le _, rfl, h1, (Below.refl _ w).alloc (Nat.le_refl _) _⟩
 case round =>
  clear h1
  obtain ⟨k, hk, rfl, hbu, hbe⟩ := hrel
  have hsz := hbe.size
  by_cases hlt : k < l.length
  · have hx := at_T87 HR.out (k : Int) (by omega) (by omega)
    obtain ⟨ad, rfl, h0, h1, h2⟩ := hx
    replace h0 := (hbe.cell (World.block_lt_of_cell? w _ h0)).trans h0
    replace h1 := (hbe.cell (World.block_lt_of_cell? w _ h1)).trans h1
    replace h2 := (hbe.cell (World.block_lt_of_cell? w _ h2)).trans h2
    rw [Int.toNat_natCast] at h0 h1 h2
    generalize hx : rd_T87 l (k : Int) = x at h0 h1 h2
    obtain ⟨t, q, n⟩ := x
    dsimp only at h0 h1 h2
    have hsn : (l.map wl).take (k + 1) = (l.map wl).take k ++ [(t.data.toList, q)] := by
     rw [List.take_succ_eq_append_getElem (by simpa using hlt)]
     have : l[k] = ⟨t, q, n⟩ := by rw [← hx]; simp [rd_T87, List.getD_eq_getElem?_getD, List.getElem?_eq_getElem hlt]
     simp [this, wl]
    have hwn := P.writeL_snoc ((l.map wl).take k) (t.data.toList, q)
    rw [← hsn] at hwn
    have hbn := P.boundL_snoc ((l.map wl).take k) (t.data.toList, q)
    rw [← hsn] at hbn
    have hbt := P.boundL_take (l.map wl) (k + 1)
    have hwl := P.writeL_length ((l.map wl).take k)
    have htz : t.data.toList.length = t.size := by simp
    dsimp only at hbn
    rw [htz] at hbn
    have hqb : 4 * t.size + 3 + (P.writeL ((l.map wl).take k)).length ≤ 140737488355328 := by omega
    have HWN := Lib.hid hwn
    clear hsn hwn hbn hbt hwl hx htz
    have hsep : ∀ (W : World), BU w.heap.size w.heap.size (P.writeL ((l.map wl).take k) ++ (if (l.map wl).take k = [] then [] else [32])) W → Below w.heap.size w W → W.heap[wr.heap.size]? = some (.cells #[.string t, .bool q, .int .i64 n] 87 (0, 0)) → True := fun _ _ _ _ => trivial
    clear hsep
    have hnil : (l.map wl).take k = [] ↔ k = 0 := by
     constructor
     · intro h
       have := congrArg List.length h
       rw [List.length_take, List.length_map] at this
       simp at this
       rcases this with h | h
       · exact h
       · rw [h] at hlt; simp at hlt
     · rintro rfl; rfl
    have hb0 := BU_alloc hbu (.cells #[.string t, .bool q, .int .i64 n] 87)
    have hx0 : (wr.alloc (.cells #[.string t, .bool q, .int .i64 n] 87)).heap[wr.heap.size]? = some (.cells #[.string t, .bool q, .int .i64 n] 87 (0, 0)) := heap_alloc_new wr _
    have he0 : Below w.heap.size w (wr.alloc (.cells #[.string t, .bool q, .int .i64 n] 87)) := hbe.alloc hsz _
    have hbl : wr.heap.size ≠ w.heap.size := by have := BU_lt hbu; omega
    by_cases hk0 : k = 0
    · have hpre := hnil.mpr hk0
      have hpz : ¬ 0 < k := by omega
      have HP := Lib.hid hpre
      clear hpre hnil hk0
      have c0 := Lib.cell_of_heap hx0 0
      have c1 := Lib.cell_of_heap hx0 1
      simp only [List.getElem?_toArray, List.getElem?_cons_zero, List.getElem?_cons_succ] at c0 c1
      cases q with
      | true =>
       go_wp2_with fail
       refine (Quote_calls t _ (by omega)).mono ?_
       rintro e w5 ⟨rfl, hw5⟩
       have hb5 := BU_below hb0 hw5
       have he5 := below_then he0 (by first | omega | (simp; omega)) hw5
       go_wp2_with fail
       refine (wStr w.heap.size w.heap.size _ _ _ hb5 ?_ ?_).mono ?_
       · have hq1 := P.quoteL_length t.data.toList; rw [P.size_lit]; (try rw [List.length_append, List.length_singleton]); have hq2 : t.data.toList.length = t.size := by simp
         omega
       · have := he5.size; omega
       rintro e w4 ⟨rfl, hb4, hw4, _⟩
       go_wp2_with fail
       go_roundw
       case measure => simp [intOf]; omega
       case rel =>
        refine ⟨k + 1, by omega, by go_num, ?_, he5.trans hw4⟩
        rw [HWN.out]
        have hp' : P.pieceL (t.data.toList, true) = P.quoteL t.data.toList := by simp [P.pieceL]
        rw [hp', if_pos HP.out, List.append_nil]
        exact hb4
      | false =>
       cases hp : P.plainL t.data.toList with
       | false =>
        go_wp2_with fail
        refine (Plain_calls t (by omega) _).mono ?_
        rintro e w3 ⟨rfl, hw3⟩
        have hb3 := BU_below hb0 hw3
        have he3 := below_then he0 (by first | omega | (simp; omega)) hw3
        have hlt3 := (Array.getElem?_eq_some_iff.1 hx0).1
        have d0 := (hw3.cell (p := ⟨wr.heap.size, 0, none⟩) hlt3).trans c0
        clear hlt3
        go_wp2_with fail
        refine (Quote_calls t _ (by omega)).mono ?_
        rintro e w5 ⟨rfl, hw5⟩
        have hb5 := BU_below hb3 hw5
        have he5 := below_then he3 (by have := he3.size; first | omega | (simp; omega)) hw5
        go_wp2_with fail
        refine (wStr w.heap.size w.heap.size _ _ _ hb5 ?_ ?_).mono ?_
        · have hq1 := P.quoteL_length t.data.toList; rw [P.size_lit]; (try rw [List.length_append, List.length_singleton]); have hq2 : t.data.toList.length = t.size := by simp
          omega
        · have := he5.size; omega
        rintro e w4 ⟨rfl, hb4, hw4, _⟩
        go_wp2_with fail
        go_roundw
        case measure => simp [intOf]; omega
        case rel =>
         refine ⟨k + 1, by omega, by go_num, ?_, he5.trans hw4⟩
         rw [HWN.out]
         have hp' : P.pieceL (t.data.toList, false) = P.quoteL t.data.toList := by simp [P.pieceL, hp]
         rw [hp', if_pos HP.out, List.append_nil]
         exact hb4
       | true =>
        go_wp2_with fail
        refine (Plain_calls t (by omega) _).mono ?_
        rintro e w3 ⟨rfl, hw3⟩
        have hb3 := BU_below hb0 hw3
        have he3 := below_then he0 (by first | omega | (simp; omega)) hw3
        have hlt3 := (Array.getElem?_eq_some_iff.1 hx0).1
        have d0 := (hw3.cell (p := ⟨wr.heap.size, 0, none⟩) hlt3).trans c0
        clear hlt3
        go_wp2_with fail
        refine (wStr w.heap.size w.heap.size _ _ _ hb3 (by first | omega | (rw [List.length_append, List.length_singleton]; omega)) ?_).mono ?_
        · have := he3.size; omega
        rintro e w4 ⟨rfl, hb4, hw4, _⟩
        go_wp2_with fail
        go_roundw
        case measure => simp [intOf]; omega
        case rel =>
         refine ⟨k + 1, by omega, by go_num, ?_, he3.trans hw4⟩
         rw [HWN.out]
         have hp' : P.pieceL (t.data.toList, false) = t.data.toList := by simp [P.pieceL, hp]
         rw [hp', if_pos HP.out, List.append_nil]
         exact hb4
    · have hpre : ¬ (l.map wl).take k = [] := fun h => hk0 (hnil.mp h)
      have HP := Lib.hid hpre
      have hkp : 0 < k := by omega
      clear hpre hnil
      go_wp2_with fail
      refine (wByteN w.heap.size w.heap.size _ 32 (by omega) _ hb0 (by omega) (by simp; omega)).mono ?_
      rintro e w2 ⟨rfl, hb2, hw2, hkx⟩
      have hx2 := hkx _ _ _ _ hx0 (by decide) hbl
      have he2 := he0.trans hw2
      have hsz2 := hw2.size
      rw [World.size_alloc] at hsz2
      have c0 := Lib.cell_of_heap hx2 0
      have c1 := Lib.cell_of_heap hx2 1
      simp only [List.getElem?_toArray, List.getElem?_cons_zero, List.getElem?_cons_succ] at c0 c1
      cases q with
      | true =>
       go_wp2_with fail
       refine (Quote_calls t _ (by omega)).mono ?_
       rintro e w5 ⟨rfl, hw5⟩
       have hb5 := BU_below hb2 hw5
       have he5 := below_then he2 (by first | omega | (simp; omega)) hw5
       go_wp2_with fail
       refine (wStr w.heap.size w.heap.size _ _ _ hb5 ?_ ?_).mono ?_
       · have hq1 := P.quoteL_length t.data.toList; rw [P.size_lit]; (try rw [List.length_append, List.length_singleton]); have hq2 : t.data.toList.length = t.size := by simp
         omega
       · have := he5.size; omega
       rintro e w4 ⟨rfl, hb4, hw4, _⟩
       go_wp2_with fail
       go_roundw
       case measure => simp [intOf]; omega
       case rel =>
        refine ⟨k + 1, by omega, by go_num, ?_, he5.trans hw4⟩
        rw [HWN.out]
        have hp' : P.pieceL (t.data.toList, true) = P.quoteL t.data.toList := by simp [P.pieceL]
        rw [hp', if_neg HP.out]
        exact hb4
      | false =>
       cases hp : P.plainL t.data.toList with
       | false =>
        go_wp2_with fail
        refine (Plain_calls t (by omega) _).mono ?_
        rintro e w3 ⟨rfl, hw3⟩
        have hb3 := BU_below hb2 hw3
        have he3 := below_then he2 (by first | omega | (simp; omega)) hw3
        have hlt3 := (Array.getElem?_eq_some_iff.1 hx2).1
        have d0 := (hw3.cell (p := ⟨wr.heap.size, 0, none⟩) hlt3).trans c0
        clear hlt3
        go_wp2_with fail
        refine (Quote_calls t _ (by omega)).mono ?_
        rintro e w5 ⟨rfl, hw5⟩
        have hb5 := BU_below hb3 hw5
        have he5 := below_then he3 (by have := he3.size; first | omega | (simp; omega)) hw5
        go_wp2_with fail
        refine (wStr w.heap.size w.heap.size _ _ _ hb5 ?_ ?_).mono ?_
        · have hq1 := P.quoteL_length t.data.toList; rw [P.size_lit]; (try rw [List.length_append, List.length_singleton]); have hq2 : t.data.toList.length = t.size := by simp
          omega
        · have := he5.size; omega
        rintro e w4 ⟨rfl, hb4, hw4, _⟩
        go_wp2_with fail
        go_roundw
        case measure => simp [intOf]; omega
        case rel =>
         refine ⟨k + 1, by omega, by go_num, ?_, he5.trans hw4⟩
         rw [HWN.out]
         have hp' : P.pieceL (t.data.toList, false) = P.quoteL t.data.toList := by simp [P.pieceL, hp]
         rw [hp', if_neg HP.out]
         exact hb4
       | true =>
        go_wp2_with fail
        refine (Plain_calls t (by omega) _).mono ?_
        rintro e w3 ⟨rfl, hw3⟩
        have hb3 := BU_below hb2 hw3
        have he3 := below_then he2 (by first | omega | (simp; omega)) hw3
        have hlt3 := (Array.getElem?_eq_some_iff.1 hx2).1
        have d0 := (hw3.cell (p := ⟨wr.heap.size, 0, none⟩) hlt3).trans c0
        clear hlt3
        go_wp2_with fail
        refine (wStr w.heap.size w.heap.size _ _ _ hb3 (by first | omega | (rw [List.length_append, List.length_singleton]; omega)) ?_).mono ?_
        · have := he3.size; omega
        rintro e w4 ⟨rfl, hb4, hw4, _⟩
        go_wp2_with fail
        go_roundw
        case measure => simp [intOf]; omega
        case rel =>
         refine ⟨k + 1, by omega, by go_num, ?_, he3.trans hw4⟩
         rw [HWN.out]
         have hp' : P.pieceL (t.data.toList, false) = t.data.toList := by simp [P.pieceL, hp]
         rw [hp', if_neg HP.out]
         exact hb4
  · go_wp2_with fail
    refine (wText w.heap.size w.heap.size _ _ hbu hsz).mono ?_
    rintro e w3 ⟨rfl, hw3⟩
    go_wp2
    go_ret
    obtain rfl : k = l.length := by omega
    refine ⟨?_, hbe.trans hw3⟩
    show Ending.returned (.string ⟨(P.writeL ((l.map wl).take l.length)).toArray⟩) = _
    rw [List.take_of_length_le (by simp)]
end Go.Proofs.YthjhaogfpdkhbaaDoor.H
/- words.Quote and words.Write in the print's form. -/
namespace Go.Proofs.YthjhaogfpdkhbaaDoor.B
open Go.RowKit YthjhaogfpdkhbaaDoorW.PrintWords YthjhaogfpdkhbaaDoorW.PrintLast YthjhaogfpdkhbaaDoorW.PrintMore
open H

def words_Quote.f (a0 : ByteArray) : Option ByteArray := if 4 * a0.size + 2 ≤ 140737488355328 then some ⟨(P.quoteL a0.data.toList).toArray⟩ else none
def words_Write.f (l0 : List S87) : Option ByteArray := if P.boundL (l0.map wl) ≤ 140737488355328 then some ⟨(P.writeL (l0.map wl)).toArray⟩ else none
end Go.Proofs.YthjhaogfpdkhbaaDoor.B
/- The reference of layer 2 in plain Lean: its printed functions answer what the definitions say. -/
namespace Go.Proofs.YthjhaogfpdkhbaaDoor.B
open Go.RowKit YthjhaogfpdkhbaaDoorW.PrintWords YthjhaogfpdkhbaaDoorW.PrintLast YthjhaogfpdkhbaaDoorW.PrintMore
open H

def nb (l : List UInt8) : List Int := l.map fun b => (b.toNat : Int)
theorem nb_length (l : List UInt8) : (nb l).length = l.length := by simp [nb]
theorem nb_append (a b : List UInt8) : nb (a ++ b) = nb a ++ nb b := by simp [nb]
theorem nb_str (l : List UInt8) : strOfNums (nb l) = ⟨l.toArray⟩ := Go.Lib.Lz.strOfNums_map l
theorem nb_bytes (s : ByteArray) : bytesOf s = nb s.data.toList := rfl
theorem wrapI (i : Nat) (h : i < 140737488355329) : wrap64 ((i : Int) + 1) = ((i + 1 : Nat) : Int) := by unfold wrap64; omega

theorem rplain_f (s : ByteArray) (k : Nat) (h : k < s.size) : dovetailref02_plain.f (bt s (k : Int)) = some (P.plainB s[k]) := by
 rw [← plain_f s k h, bt_eq s k h]
 unfold dovetailref02_plain.f words_plain.f
 by_cases c1 : (s[k].toNat : Int) > 32
 · rw [if_pos (show (s[k].toNat : Int) ≥ 33 by omega), if_pos c1]
   by_cases c2 : (s[k].toNat : Int) < 127
   · rw [if_pos (show (s[k].toNat : Int) ≤ 126 by omega), if_pos c2]
   · rw [if_neg (show ¬ (s[k].toNat : Int) ≤ 126 by omega), if_neg c2]
 · rw [if_neg (show ¬ (s[k].toNat : Int) ≥ 33 by omega), if_neg c1]
theorem first_hash (s : ByteArray) (h0 : 0 < s.size) : (bt s 0 != 35) = P.noHash s.data.toList := by
 have hb := bt_eq s 0 h0
 cases hd : s.data.toList with
 | nil =>
  have : s.data.toList.length = s.size := by simp
  rw [hd] at this; simp at this; omega
 | cons c r =>
  have h00 : s[0] = c := by
   have : s.data.toList[0]? = some c := by rw [hd]; rfl
   have h2 : s.data.toList[0]? = some s[0] := by rw [List.getElem?_eq_getElem (by simpa using h0)]; rfl
   rw [h2] at this; exact Option.some.inj this
  rw [show (0 : Int) = ((0 : Nat) : Int) from rfl, hb, h00]
  have : (c == 35) = ((c.toNat : Int) == 35) := by
   rw [Bool.eq_iff_iff, beq_iff_eq, beq_iff_eq, ← UInt8.toNat_inj]; simp; omega
  simp [P.noHash, bne, this]
theorem rPlain_l (s : ByteArray) (hs : s.size ≤ 140737488355328) (d : Nat) : ∀ (k i : Nat), s.size - i = d → i ≤ s.size → d < k → dovetailref02_Plain.l0 k s (i : Int) = some ((s.data.toList.drop i).all P.plainB && P.noHash s.data.toList) := by
 induction d with
 | zero =>
  intro k i hi hle hk
  obtain ⟨k, rfl⟩ : ∃ m, k = m + 1 := ⟨k - 1, by omega⟩
  have : i = s.size := by omega
  subst this
  simp only [dovetailref02_Plain.l0]
  rw [if_neg (by omega), List.drop_of_length_le (by simp)]
  by_cases h0 : 0 < s.size
  · rw [if_pos (show (s.size : Int) > 0 by omega), if_pos (show 0 < (s.size : Int) by omega), first_hash s h0]; rfl
  · rw [if_neg (show ¬ (s.size : Int) > 0 by omega)]
    have : s.data.toList = [] := List.eq_nil_of_length_eq_zero (by rw [Array.length_toList]; show s.size = 0; omega)
    rw [this]; rfl
 | succ d ih =>
  intro k i hi hle hk
  obtain ⟨k, rfl⟩ : ∃ m, k = m + 1 := ⟨k - 1, by omega⟩
  have hlt : i < s.size := by omega
  simp only [dovetailref02_Plain.l0]
  rw [if_pos (by omega), if_pos (by omega), rplain_f s i hlt]
  simp only [Option.bind_some]
  have hdr : s.data.toList.drop i = s[i] :: s.data.toList.drop (i + 1) := by rw [List.drop_eq_getElem_cons (by simpa using hlt)]; rfl
  rw [hdr, List.all_cons]
  cases hp : P.plainB s[i] with
  | false => simp
  | true =>
   rw [if_pos rfl, wrapI i (by omega), ih k (i + 1) (by omega) (by omega) (by omega)]
   simp
theorem rPlain_f (s : ByteArray) (hs : s.size ≤ 140737488355328) (k : Nat) (hk : s.size < k) : dovetailref02_Plain.f k s = some (P.plainL s.data.toList) := by
 have := rPlain_l s hs s.size k 0 (by omega) (by omega) hk
 unfold dovetailref02_Plain.f P.plainL
 rw [List.drop_zero] at this
 exact this
theorem figure_f (n : Nat) (h : n < 16) : dovetailref02_figure.f (n : Int) = some ((P.hexd n).toNat : Int) := by
 have h2 : ∀ m : Fin 16, dovetailref02_figure.f ((m.val : Nat) : Int) = some ((P.hexd m.val).toNat : Int) := by decide +kernel
 exact h2 ⟨n, h⟩
theorem byteNe (c : UInt8) (n : Nat) (hn : n < 256) : (c = UInt8.ofNat n ↔ (c.toNat : Int) = n) := by
 rw [← UInt8.toNat_inj, UInt8.toNat_ofNat_of_lt' hn]; omega
theorem rQuote_l (s : ByteArray) (hs : s.size ≤ 35184372088831) (d : Nat) : ∀ (k i : Nat) (pre : List UInt8), s.size - i = d → i ≤ s.size → 3 * d < k → pre.length + 4 * d + 1 ≤ 140737488355328 →
 dovetailref02_Quote.l0 k s (nb pre) (i : Int) = some ⟨(pre ++ (s.data.toList.drop i).flatMap P.qb ++ [34]).toArray⟩ := by
 induction d with
 | zero =>
  intro k i pre hi hle hk hp
  obtain ⟨k, rfl⟩ : ∃ m, k = m + 1 := ⟨k - 1, by omega⟩
  have : i = s.size := by omega
  subst this
  simp only [dovetailref02_Quote.l0]
  rw [if_neg (by omega), List.drop_of_length_le (by simp), nb_length, if_pos (by omega)]
  have : nb pre ++ [34] = nb (pre ++ [34]) := by rw [nb_append]; rfl
  rw [this, nb_str]
  simp
 | succ d ih =>
  intro k i pre hi hle hk hp
  obtain ⟨k, rfl⟩ : ∃ m, k = m + 3 := ⟨k - 3, by omega⟩
  have hlt : i < s.size := by omega
  have hdr : s.data.toList.drop i = s[i] :: s.data.toList.drop (i + 1) := by rw [List.drop_eq_getElem_cons (by simpa using hlt)]; rfl
  rw [hdr, List.flatMap_cons, ← List.append_assoc]
  have hb := bt_eq s i hlt
  generalize s[i] = c at *
  have hc := c.toNat_lt
  have key : ∀ (k' : Nat), 3 * d < k' → dovetailref02_Quote.l0 k' s (nb pre ++ nb (P.qb c)) (wrap64 ((i : Int) + 1)) = some ⟨(pre ++ P.qb c ++ (s.data.toList.drop (i + 1)).flatMap P.qb ++ [34]).toArray⟩ := by
   intro k' hk'
   rw [← nb_append, wrapI i (by omega)]
   have := P.qb_length c
   exact ih k' (i + 1) (pre ++ P.qb c) (by omega) (by omega) hk' (by rw [List.length_append]; omega)
  simp only [dovetailref02_Quote.l0]
  rw [if_pos (by omega), if_pos (by omega), hb]
  have e34 := byteNe c 34 (by omega)
  have e92 := byteNe c 92 (by omega)
  have e10 := byteNe c 10 (by omega)
  have l32 : c < 32 ↔ (c.toNat : Int) < 32 := by rw [UInt8.lt_iff_toNat_lt]; simp; omega
  have l126 : 126 < c ↔ (c.toNat : Int) > 126 := by rw [UInt8.lt_iff_toNat_lt]; simp; omega
  have hesc : ∀ (x : Bool), ((x = true) ↔ (c = 34 ∨ c = 92)) → dovetailref02_Quote.j1 (k + 2) s (nb pre) (i : Int) (c.toNat : Int) x = some ⟨(pre ++ P.qb c ++ (s.data.toList.drop (i + 1)).flatMap P.qb ++ [34]).toArray⟩ := by
   intro x hx
   simp only [dovetailref02_Quote.j1, Option.bind_some]
   by_cases hxe : x = true
   · rw [if_pos hxe, nb_length]
     have hq := P.qb_esc c (hx.mp hxe)
     have : ([92, (c.toNat : Int)] : List Int) = nb (P.qb c) := by rw [hq]; rfl
     rw [this, if_pos (by rw [nb_length, hq]; simp; omega)]
     exact key _ (by omega)
   · rw [if_neg hxe]
     have hne : ¬ (c = 34 ∨ c = 92) := fun h => hxe (hx.mpr h)
     by_cases h10 : (c.toNat : Int) = 10
     · rw [if_pos h10, nb_length]
       have hq := P.qb_nl c hne (e10.mpr h10)
       have : ([92, 110] : List Int) = nb (P.qb c) := by rw [hq]; rfl
       rw [this, if_pos (by rw [nb_length, hq]; simp; omega)]
       exact key _ (by omega)
     · rw [if_neg h10]
       have hn10 : ¬ c = 10 := fun h => h10 (e10.mp h)
       have hj2 : ∀ (y : Bool), ((y = true) ↔ (c < 32 ∨ 126 < c)) → dovetailref02_Quote.j2 (k + 1) s (nb pre) (i : Int) (c.toNat : Int) y = some ⟨(pre ++ P.qb c ++ (s.data.toList.drop (i + 1)).flatMap P.qb ++ [34]).toArray⟩ := by
        intro y hy
        simp only [dovetailref02_Quote.j2]
        by_cases hye : y = true
        · rw [if_pos hye]
          have w1 : wrap64 (c.toNat : Int) = (c.toNat : Int) := by unfold wrap64; omega
          rw [w1]
          have t1 : wrap64 (Int.tdiv (c.toNat : Int) 16) = ((c.toNat / 16 : Nat) : Int) := by
           rw [Int.tdiv_eq_ediv_of_nonneg (by omega)]; unfold wrap64; omega
          have t2 : Int.tmod (c.toNat : Int) 16 = ((c.toNat % 16 : Nat) : Int) := by
           rw [Int.tmod_eq_emod_of_nonneg (by omega)]; omega
          rw [t1, t2, figure_f _ (by omega), figure_f _ (by omega)]
          simp only [Option.bind_some]
          have hq := P.qb_hex c hne hn10 (hy.mp hye)
          have : ([92, 120, ((P.hexd (c.toNat / 16)).toNat : Int), ((P.hexd (c.toNat % 16)).toNat : Int)] : List Int) = nb (P.qb c) := by rw [hq]; rfl
          rw [this, nb_length, if_pos (by rw [nb_length, hq]; simp; omega)]
          exact key _ (by omega)
        · rw [if_neg hye, nb_length, if_pos (by omega)]
          have hq := P.qb_one c hne hn10 (fun h => hye (hy.mpr h))
          have : ([(c.toNat : Int)] : List Int) = nb (P.qb c) := by rw [hq]; rfl
          rw [this]
          exact key _ (by omega)
       by_cases h32 : (c.toNat : Int) < 32
       · rw [if_pos h32]; exact hj2 true ⟨fun _ => .inl (l32.mpr h32), fun _ => rfl⟩
       · rw [if_neg h32]
         refine hj2 _ ?_
         rw [decide_eq_true_iff, l32, l126]
         omega
  by_cases h34 : (c.toNat : Int) = 34
  · rw [if_pos h34]; exact hesc true ⟨fun _ => .inl (e34.mpr h34), fun _ => rfl⟩
  · rw [if_neg h34]
    refine hesc _ ?_
    rw [beq_iff_eq]
    constructor
    · intro h; exact .inr (e92.mpr h)
    · rintro (h | h)
      · exact absurd (e34.mp h) h34
      · exact e92.mp h
theorem rQuote_f (s : ByteArray) (hs : s.size ≤ 35184372088831) (k : Nat) (hk : 3 * s.size < k) : dovetailref02_Quote.f k s = some ⟨(P.quoteL s.data.toList).toArray⟩ := by
 have := rQuote_l s hs s.size k 0 [34] (by omega) (by omega) hk (by simp; omega)
 unfold dovetailref02_Quote.f
 rw [List.drop_zero] at this
 simpa [P.quoteL, P.quoteTo, nb] using this
def wr (x : S92) : List UInt8 × Bool := (x.f0.data.toList, x.f1)
theorem rdR (l : List S92) (i : Nat) (h : i < l.length) : rd_T92 l (i : Int) = l[i] := by
 simp [rd_T92, List.getD_eq_getElem?_getD, List.getElem?_eq_getElem h]
theorem boundL_cut (l : List (List UInt8 × Bool)) (i : Nat) : P.boundL (l.take i) + P.boundL (l.drop i) = P.boundL l := by
 have h : ∀ a b : List (List UInt8 × Bool), P.boundL (a ++ b) = P.boundL a + P.boundL b := fun a b => by simp [P.boundL]
 rw [← h, List.take_append_drop]
theorem bound_at (l : List (List UInt8 × Bool)) (i : Nat) (h : i < l.length) : 4 * l[i].1.length + 3 ≤ P.boundL l := by
 have h1 := boundL_cut l (i + 1)
 have h2 := P.boundL_snoc (l.take i) l[i]
 rw [List.take_succ_eq_append_getElem h] at h1
 omega
theorem rWrite_l (l : List S92) (hb : P.boundL (l.map wr) ≤ 35184372088831) (d : Nat) : ∀ (k i : Nat), l.length - i = d → i ≤ l.length → 2 * d + 3 * P.boundL (l.map wr) + 1 < k →
 dovetailref02_Write.l0 k l (nb (P.writeL ((l.map wr).take i))) (i : Int) = some ⟨(P.writeL (l.map wr)).toArray⟩ := by
 have hge := P.boundL_ge (l.map wr)
 rw [List.length_map] at hge
 induction d with
 | zero =>
  intro k i hi hle hk
  obtain ⟨k, rfl⟩ : ∃ m, k = m + 1 := ⟨k - 1, by omega⟩
  have : i = l.length := by omega
  subst this
  simp only [dovetailref02_Write.l0]
  rw [if_neg (by omega), List.take_of_length_le (by simp), nb_str]
 | succ d ih =>
  intro k i hi hle hk
  obtain ⟨k, rfl⟩ : ∃ m, k = m + 2 := ⟨k - 2, by omega⟩
  have hlt : i < l.length := by omega
  have hlm : i < (l.map wr).length := by simpa using hlt
  have hba := bound_at (l.map wr) i hlm
  have hwn := P.writeL_snoc ((l.map wr).take i) (l.map wr)[i]
  rw [← List.take_succ_eq_append_getElem hlm] at hwn
  have hwl := P.writeL_length ((l.map wr).take i)
  have hbt := P.boundL_take (l.map wr) (i + 1)
  have hbn := P.boundL_snoc ((l.map wr).take i) (l.map wr)[i]
  rw [← List.take_succ_eq_append_getElem hlm] at hbn
  have hx : (l.map wr)[i] = wr l[i] := by simp
  rw [hx] at hba hwn hbn
  have hz : l[i].f0.data.toList.length = l[i].f0.size := by simp
  simp only [wr] at hba hbn
  rw [hz] at hba hbn
  have key : ∀ (k' : Nat) (pre : List UInt8), 2 * d + 3 * P.boundL (l.map wr) + 1 < k' → pre = P.writeL ((l.map wr).take (i + 1)) → dovetailref02_Write.l0 k' l (nb pre) (wrap64 ((i : Int) + 1)) = some ⟨(P.writeL (l.map wr)).toArray⟩ := by
   intro k' pre hk' hp
   rw [hp, wrapI i (by omega)]
   exact ih k' (i + 1) (by omega) (by omega) hk'
  have hj : ∀ (pre : List UInt8), pre = P.writeL ((l.map wr).take i) ++ (if (l.map wr).take i = [] then [] else [32]) → dovetailref02_Write.j1 (k + 1) l (nb pre) (i : Int) = some ⟨(P.writeL (l.map wr)).toArray⟩ := by
   intro pre hp
   have hpl : pre.length ≤ (P.writeL ((l.map wr).take i)).length + 1 := by
    rw [hp, List.length_append]
    split <;> simp
   simp only [dovetailref02_Write.j1]
   rw [if_pos (by omega), if_pos (by omega), rdR l i hlt]
   have hql := P.quoteL_length l[i].f0.data.toList
   rw [hz] at hql
   have hquote : P.pieceL (wr l[i]) = P.quoteL l[i].f0.data.toList → (dovetailref02_Quote.f k l[i].f0).bind (fun t => if (nb pre).length + t.size < 140737488355328 then dovetailref02_Write.l0 k l (nb pre ++ bytesOf t) (wrap64 ((i : Int) + 1)) else none) = some ⟨(P.writeL (l.map wr)).toArray⟩ := by
    intro hpc
    rw [rQuote_f l[i].f0 (by omega) k (by omega)]
    simp only [Option.bind_some]
    rw [nb_length, P.size_lit, if_pos (by omega), nb_bytes, ← nb_append]
    refine key k _ (by omega) ?_
    rw [hwn, hpc, hp]
   by_cases hq : l[i].f1 = true
   · rw [if_pos hq]
     exact hquote (by simp [P.pieceL, wr, hq])
   · rw [if_neg hq, rPlain_f l[i].f0 (by omega) k (by omega)]
     simp only [Option.bind_some]
     by_cases hpl2 : P.plainL l[i].f0.data.toList = true
     · rw [if_pos hpl2, nb_length, if_pos (by omega), nb_bytes, ← nb_append]
       refine key k _ (by omega) ?_
       rw [hwn, hp]
       simp [P.pieceL, wr, hq, hpl2]
     · rw [if_neg hpl2]
       exact hquote (by simp [P.pieceL, wr, hpl2])
  simp only [dovetailref02_Write.l0]
  rw [if_pos (by omega)]
  have hnil : (l.map wr).take i = [] ↔ i = 0 := by
   constructor
   · intro h
     have := congrArg List.length h
     rw [List.length_take, List.length_map, List.length_nil] at this
     omega
   · rintro rfl; rfl
  by_cases h0 : i = 0
  · rw [if_neg (by omega)]
    refine hj _ ?_
    rw [if_pos (hnil.mpr h0), List.append_nil]
  · rw [if_pos (by omega), nb_length, if_pos (by omega)]
    have : nb (P.writeL ((l.map wr).take i)) ++ [32] = nb (P.writeL ((l.map wr).take i) ++ [32]) := by rw [nb_append]; rfl
    rw [this]
    refine hj _ ?_
    rw [if_neg (fun h => h0 (hnil.mp h))]
theorem rWrite_f (l : List S92) (hb : P.boundL (l.map wr) ≤ 35184372088831) (k : Nat) (hk : 5 * P.boundL (l.map wr) + 1 < k) : dovetailref02_Write.f k l = some ⟨(P.writeL (l.map wr)).toArray⟩ := by
 have hge := P.boundL_ge (l.map wr)
 rw [List.length_map] at hge
 exact rWrite_l l hb l.length k 0 (by omega) (by omega) (by omega)

end Go.Proofs.YthjhaogfpdkhbaaDoor.B
/- Names: their places, and which lists of names are right. -/
set_option linter.unusedSimpArgs false
namespace Go.Proofs.YthjhaogfpdkhbaaDoor.B
open Go.RowKit YthjhaogfpdkhbaaDoorW.PrintWords YthjhaogfpdkhbaaDoorW.PrintLast YthjhaogfpdkhbaaDoorW.PrintMore

theorem toL_eq (a b : ByteArray) : a.toList = b.toList ↔ a = b := by
 constructor
 · intro h
   rw [ByteArray.toList_eq, ByteArray.toList_eq] at h
   have := Array.ext' h
   cases a; cases b; simp_all
 · rintro rfl; rfl

def place (l : List ByteArray) (s : ByteArray) (i : Nat) : Int := if (l.drop i).findIdx (fun x => decide (s = x)) < (l.drop i).length then ((i + (l.drop i).findIdx (fun x => decide (s = x)) : Nat) : Int) else -1
theorem place_end (l : List ByteArray) (s : ByteArray) : place l s l.length = -1 := by simp [place]
theorem place_step (l : List ByteArray) (s : ByteArray) (i : Nat) (h : i < l.length) : place l s i = if s = l[i] then (i : Int) else place l s (i + 1) := by
 unfold place
 rw [List.drop_eq_getElem_cons h, List.findIdx_cons, List.length_cons]
 by_cases c : s = l[i]
 · rw [if_pos c, decide_eq_true c, cond_true, if_pos (by omega)]; rfl
 · rw [if_neg c, decide_eq_false c, cond_false]
   by_cases c2 : (l.drop (i + 1)).findIdx (fun x => decide (s = x)) < (l.drop (i + 1)).length
   · rw [if_pos (by omega), if_pos c2]; congr 1; omega
   · rw [if_neg (by omega), if_neg c2]
theorem place_nonneg (l : List ByteArray) (s : ByteArray) : 0 ≤ place l s 0 ↔ s ∈ l := by
 have : (l.findIdx (fun x => decide (s = x)) < l.length) ↔ s ∈ l := by
  rw [List.findIdx_lt_length]; simp
 unfold place
 rw [List.drop_zero, ← this]
 split <;> omega
theorem Index_l (l : List ByteArray) (s : ByteArray) (hm : l.length ≤ 9223372036854775807) : ∀ (d i k : Nat), l.length - i = d → i ≤ l.length → d < k → slices_Index_string_string.l0 k l s (l.length : Int) (i : Int) = some (place l s i) := by
 intro d
 induction d with
 | zero =>
  intro i k hi hle hk
  obtain ⟨k, rfl⟩ : ∃ j, k = j + 1 := ⟨k - 1, by omega⟩
  have : i = l.length := by omega
  subst this
  rw [slices_Index_string_string.l0, if_neg (by omega), place_end]
 | succ d ih =>
  intro i k hi hle hk
  obtain ⟨k, rfl⟩ : ∃ j, k = j + 1 := ⟨k - 1, by omega⟩
  have hlt : i < l.length := by omega
  rw [slices_Index_string_string.l0, if_pos (by omega), if_pos (by omega), if_pos (by omega), rdS_D, getD_lt _ _ _ hlt, place_step l s i hlt]
  by_cases c : s = l[i]
  · rw [if_pos ((toL_eq _ _).2 c), if_pos c]
  · rw [if_neg (fun h => c ((toL_eq _ _).1 h)), if_neg c, w64 i (by omega), ih (i + 1) k (by omega) (by omega) (by omega)]
theorem Index_f (l : List ByteArray) (s : ByteArray) (k : Nat) (hm : l.length ≤ 9223372036854775807) (hk : l.length < k) : slices_Index_string_string.f k l s = some (place l s 0) := by
 unfold slices_Index_string_string.f
 have := Index_l l s hm l.length 0 k (by omega) (by omega) hk
 simpa using this
def faultAt (l : List ByteArray) (i : Nat) : Bool := decide ((l.getD i ByteArray.empty).size = 0) || decide (32 < (l.getD i ByteArray.empty).size) || (l.take i).any (fun x => decide (l.getD i ByteArray.empty = x))
def namesOK (l : List ByteArray) : Bool := (List.range l.length).all fun i => !faultAt l i
def namesFrom (l : List ByteArray) (i : Nat) : Bool := (List.range' i (l.length - i)).all fun i => !faultAt l i
theorem namesFrom_zero (l : List ByteArray) : namesFrom l 0 = namesOK l := by simp [namesFrom, namesOK, List.range_eq_range']
theorem namesFrom_step (l : List ByteArray) (i : Nat) (h : i < l.length) : namesFrom l i = (!faultAt l i && namesFrom l (i + 1)) := by
 unfold namesFrom
 rw [show l.length - i = (l.length - (i + 1)) + 1 from by omega, List.range'_succ, List.all_cons]
theorem namesFrom_end (l : List ByteArray) : namesFrom l l.length = true := by simp [namesFrom]

theorem NameFault_f (l : List ByteArray) (i k : Nat) (h : i < l.length) (hm : l.length ≤ 9223372036854775807) (hk : l.length < k) : gram_nameFault.f k l (i : Int) = some (faultAt l i) := by
 unfold gram_nameFault.f faultAt slices_Contains_string_string.f
 rw [if_pos (by omega), if_pos (by omega), rdS_D, Int.toNat_natCast]
 generalize l.getD i ByteArray.empty = s
 by_cases c1 : s.size = 0
 · rw [if_pos (by omega)]; simp [c1]
 · rw [if_neg (by omega)]
   by_cases c2 : 32 < s.size
   · rw [if_pos (by omega)]; simp [c2]
   · rw [if_neg (by omega), if_pos (by omega), Index_f _ s k (by rw [List.length_take]; omega) (by rw [List.length_take]; omega), Option.bind_some, Option.bind_some]
     cases c3 : (l.take i).any (fun x => decide (s = x)) with
     | true =>
      have : s ∈ l.take i := by
       obtain ⟨x, hx, he⟩ := List.any_eq_true.1 c3
       rw [of_decide_eq_true he]; exact hx
      rw [if_pos (decide_eq_true ((place_nonneg (l.take i) s).2 this)), Bool.or_true]
     | false =>
      have : ¬ s ∈ l.take i := fun hs => by
       have := List.any_eq_false.1 c3 s hs
       simp at this
      rw [if_neg (by rw [decide_eq_true_eq]; exact fun h => this ((place_nonneg (l.take i) s).1 h)), decide_eq_false c1, decide_eq_false c2]; rfl
theorem Names_l (l : List ByteArray) (hm : l.length ≤ 9223372036854775807) : ∀ (d i k : Nat), l.length - i = d → i ≤ l.length → d + l.length + 1 < k → gram_names.l0 k l (l.length : Int) (i : Int) = some (namesFrom l i) := by
 intro d
 induction d with
 | zero =>
  intro i k hi hle hk
  obtain ⟨k, rfl⟩ : ∃ j, k = j + 1 := ⟨k - 1, by omega⟩
  have : i = l.length := by omega
  subst this
  rw [gram_names.l0, if_neg (by omega), namesFrom_end]
 | succ d ih =>
  intro i k hi hle hk
  obtain ⟨k, rfl⟩ : ∃ j, k = j + 1 := ⟨k - 1, by omega⟩
  have hlt : i < l.length := by omega
  rw [gram_names.l0, if_pos (by omega), NameFault_f l i k hlt hm (by omega), Option.bind_some, namesFrom_step l i hlt]
  cases hf : faultAt l i with
  | true => rw [if_pos rfl]; rfl
  | false => rw [if_neg (by decide), w64 i (by omega), ih (i + 1) k (by omega) (by omega) (by omega)]; rfl
theorem Names_f (l : List ByteArray) (k : Nat) (hm : l.length ≤ 9223372036854775807) (hk : l.length + l.length + 1 < k) : gram_names.f k l = some (namesOK l) := by
 unfold gram_names.f
 have := Names_l l hm l.length 0 k (by omega) (by omega) hk
 rw [namesFrom_zero] at this
 simpa using this
end Go.Proofs.YthjhaogfpdkhbaaDoor.B
/- gram.Check: what it answers, whatever the grammar. -/
namespace Go.Proofs.YthjhaogfpdkhbaaDoor.B
open Go.RowKit YthjhaogfpdkhbaaDoorW.PrintWords YthjhaogfpdkhbaaDoorW.PrintLast YthjhaogfpdkhbaaDoorW.PrintMore

def Sents (ad : Int → Addr) (w : World) : Prop := w.cell? ⟨3, 0, none⟩ = some (.iface 178 (.pointer (some (ad 3)))) ∧ w.cell? ⟨10, 0, none⟩ = some (.iface 178 (.pointer (some (ad 10)))) ∧ w.cell? ⟨1, 0, none⟩ = some (.iface 178 (.pointer (some (ad 1))))
theorem Sents.below {ad : Int → Addr} {w w' : World} (h : Sents ad w) (hb : Below w.heap.size w w') : Sents ad w' :=
 ⟨(hb.cell (World.block_lt_of_cell? w _ h.1)).trans h.1, (hb.cell (World.block_lt_of_cell? w _ h.2.1)).trans h.2.1, (hb.cell (World.block_lt_of_cell? w _ h.2.2)).trans h.2.2⟩
def checkR (t n : Nat) (x : S52) : Int := if 32 < x.f1.length then 3 else if x.f0 < 0 ∨ (n : Int) ≤ x.f0 ∨ x.f1.any (outS t n) = true then 1 else 0
def chkRs (t n : Nat) : List S52 → Nat → Int × Int
 | [], _ => (0, -1)
 | x :: l, j => if checkR t n x = 0 then chkRs t n l (j + 1) else (checkR t n x, (j : Int))
theorem chkRs_drop (t n : Nat) (R : List S52) (j : Nat) (h : j < R.length) : chkRs t n (R.drop j) j = if checkR t n R[j] = 0 then chkRs t n (R.drop (j + 1)) (j + 1) else (checkR t n R[j], (j : Int)) := by
 rw [List.drop_eq_getElem_cons h, chkRs]
def chk (b0 b1 : Bool) (l0 l1 : Nat) (a2 : Int) (R : List S52) : Int × Int :=
 if 60 < l0 + l1 ∨ 120 < R.length then (3, -1) else if (b0 && b1) = false then (10, -1) else if a2 < 0 ∨ (l1 : Int) ≤ a2 then (1, -1) else chkRs l0 l1 R 0
theorem checkR_cases (t n : Nat) (x : S52) : checkR t n x = 0 ∧ okR t n x = true ∨ (checkR t n x = 3 ∨ checkR t n x = 1) ∧ okR t n x = false := by
 unfold checkR okR
 by_cases c1 : 32 < x.f1.length
 · rw [if_pos c1]; right; simp; omega
 · rw [if_neg c1]
   by_cases c2 : x.f0 < 0 ∨ (n : Int) ≤ x.f0 ∨ x.f1.any (outS t n) = true
   · rw [if_pos c2]; right
     refine ⟨.inr rfl, ?_⟩
     rcases c2 with c | c | c
     · simp [show ¬ (0 ≤ x.f0) from by omega]
     · simp [show ¬ (x.f0 < (n : Int)) from by omega]
     · simp [c]
   · rw [if_neg c2]; left
     simp only [not_or, Bool.not_eq_true] at c2
     refine ⟨rfl, ?_⟩
     simp [c2.2.2, show x.f1.length ≤ 32 from by omega, show 0 ≤ x.f0 from by omega, show x.f0 < (n : Int) from by omega]
def ErrV (ad : Int → Addr) (w : World) (v : Value) (p : Int × Int) : Prop :=
 (p.1 = 0 ∧ p.2 = -1 ∧ v = .nilIface) ∨ ((p.1 = 3 ∨ p.1 = 10 ∨ p.1 = 1) ∧ p.2 = -1 ∧ v = .iface 178 (.pointer (some (ad p.1)))) ∨
 ((p.1 = 3 ∨ p.1 = 1) ∧ 0 ≤ p.2 ∧ p.2 < 120 ∧ ∃ b, v = .iface 126 (.pointer (some ⟨b, 0, none⟩)) ∧ w.heap[b]? = some (.cells #[.int .i64 p.2, .iface 178 (.pointer (some (ad p.1)))] 128 (0, 0)))
def CheckPost (ad : Int → Addr) (w : World) (p : Int × Int) (e : Ending) (w' : World) : Prop := (∃ v, e = .returned v ∧ ErrV ad w' v p) ∧ Below w.heap.size w w'
theorem ErrV.nil {ad : Int → Addr} {w : World} {v : Value} {p : Int × Int} (h : ErrV ad w v p) (h0 : p.1 = 0) : v = .nilIface := by
 rcases h with h | h | h
 · exact h.2.2
 · rcases h.1 with h | h | h <;> omega
 · rcases h.1 with h | h <;> omega
theorem ErrV.some {ad : Int → Addr} {w : World} {v : Value} {p : Int × Int} (h : ErrV ad w v p) (h0 : p.1 ≠ 0) : ∃ t u, v = .iface t u := by
 rcases h with h | h | h
 · exact absurd h.1 h0
 · exact ⟨_, _, h.2.2⟩
 · obtain ⟨_, _, _, b, h, _⟩ := h; exact ⟨_, _, h⟩
theorem ErrV.below {ad : Int → Addr} {w w' : World} {v : Value} {p : Int × Int} (h : ErrV ad w v p) (hb : Below w.heap.size w w') : ErrV ad w' v p := by
 rcases h with h | h | ⟨h1, h2, h3, b, hv, hx⟩
 · exact .inl h
 · exact .inr (.inl h)
 · exact .inr (.inr ⟨h1, h2, h3, b, hv, Box.below (W := w) (W' := w') hx hb⟩)
def ruleV (ad : Int → Addr) (c : Int) : Value := if c = 0 then .nilIface else .iface 178 (.pointer (some (ad c)))

set_option maxHeartbeats 1000000 in
set_option maxRecDepth 100000 in
theorem Rule_full (ad : Int → Addr) (A0 : Option Addr) (c0 t : Nat) (A1 : Option Addr) (c1 n : Nat) (a2 : Int) (v3 : Value) (x : S52) (A : Option Addr) (c : Nat) (w : World) (hg : Sents ad w) (ht : t ≤ 60) (hn : n ≤ 60) (hr : Kd.C (Kd.int .i64) w A x.f1.length x.f1) (hc : x.f1.length ≤ c) :
 Calls Tryd.prog 82 #[.agg #[.slice A0 t c0, .slice A1 n c1, .int .i64 a2, v3], .agg #[.int .i64 x.f0, .slice A x.f1.length c]] w fun e w' => e = .returned (ruleV ad (checkR t n x)) ∧ Below w.heap.size w w' := by
 obtain ⟨x0, x1⟩ := x
 dsimp only at hr hc ⊢
 have hB1 := (Box.new w #[.slice A0 t c0, .slice A1 n c1, .int .i64 a2, v3] 25).alloc (.cells #[.int .i64 x0, .slice A x1.length c] 52)
 have hb : Below w.heap.size w ((w.alloc (.cells #[.slice A0 t c0, .slice A1 n c1, .int .i64 a2, v3] 25)).alloc (.cells #[.int .i64 x0, .slice A x1.length c] 52)) := ((Below.refl _ w).alloc (Nat.le_refl _) _).alloc (by simp) _
 have hcall := ContS_calls A x1 c w.heap.size t n c0 c1 A0 A1 _ ht hn (hB1.cell 0 _ rfl) (hB1.cell 1 _ rfl) (Kd.C_below hr hb) hc
 obtain ⟨h0, h1, h2⟩ := hg.below hb
 have HB := Aside0.mk hb
 have H0 : ∀ w', Below ((w.alloc (.cells #[.slice A0 t c0, .slice A1 n c1, .int .i64 a2, v3] 25)).alloc (.cells #[.int .i64 x0, .slice A x1.length c] 52)).heap.size ((w.alloc (.cells #[.slice A0 t c0, .slice A1 n c1, .int .i64 a2, v3] 25)).alloc (.cells #[.int .i64 x0, .slice A x1.length c] 52)) w' → w'.cell? ⟨1, 0, none⟩ = some (.iface 178 (.pointer (some (ad 1)))) := fun w' hb' => (hb'.cell (World.block_lt_of_cell? _ _ h2)).trans h2
 by_cases k1 : x1.length ≤ 32
 · have b1 : decide ((32 : Int) < x1.length) = false := decide_eq_false (by omega)
   have b1' : decide (32 < x1.length) = false := decide_eq_false (by omega)
   by_cases k2 : x0 < 0
   · have b2 : decide (x0 < 0) = true := decide_eq_true k2
     have HE := Lib.hid (show ruleV ad (checkR t n ⟨x0, x1⟩) = .iface 178 (.pointer (some (ad 1))) by simp [ruleV, checkR, show ¬ 32 < x1.length from by omega, k2])
     clear hr hcall hB1 hb H0
     go_enter Tryd.func82, Tryd.ntmps82
     go_wp2_with fail
     go_ret
     exact ⟨by rw [HE.out]; rfl, HB.out⟩
   · have b2 : decide (x0 < 0) = false := decide_eq_false k2
     by_cases k3 : (n : Int) ≤ x0
     · have b3 : decide ((n : Int) ≤ x0) = true := decide_eq_true k3
       have HE := Lib.hid (show ruleV ad (checkR t n ⟨x0, x1⟩) = .iface 178 (.pointer (some (ad 1))) by simp [ruleV, checkR, show ¬ 32 < x1.length from by omega, k3])
       clear hr hcall hB1 hb H0
       go_enter Tryd.func82, Tryd.ntmps82
       go_wp2_with fail
       go_ret
       exact ⟨by rw [HE.out]; rfl, HB.out⟩
     · have b3 : decide ((n : Int) ≤ x0) = false := decide_eq_false k3
       cases hany : x1.any (outS t n) with
       | true =>
        rw [hany] at hcall
        have HE := Lib.hid (show ruleV ad (checkR t n ⟨x0, x1⟩) = .iface 178 (.pointer (some (ad 1))) by simp [ruleV, checkR, hany, show ¬ 32 < x1.length from by omega])
        have HC := Aside0.mk hcall
        have HH := Aside0.mk H0
        clear hr hcall hB1 hb hany H0
        go_enter Tryd.func82, Tryd.ntmps82
        go_wp2_with (go_at_call 99; (with_reducible refine HC.out.mono ?_); rintro e w' ⟨rfl, hb'⟩; have q2 := HH.out _ hb')
        go_ret
        exact ⟨by rw [HE.out]; rfl, HB.out.trans (hb'.mono HB.out.size)⟩
       | false =>
        rw [hany] at hcall
        have HE := Lib.hid (show ruleV ad (checkR t n ⟨x0, x1⟩) = .nilIface by simp [ruleV, checkR, hany, show ¬ 32 < x1.length from by omega, k2, k3])
        have HC := Aside0.mk hcall
        clear hr hcall hB1 hb hany H0
        go_enter Tryd.func82, Tryd.ntmps82
        go_wp2_with (go_at_call 99; (with_reducible refine HC.out.mono ?_); rintro e w' ⟨rfl, hb'⟩)
        go_ret
        exact ⟨by rw [HE.out]; rfl, HB.out.trans (hb'.mono HB.out.size)⟩
 · have b1 : decide ((32 : Int) < x1.length) = true := decide_eq_true (by omega)
   have b1' : decide (32 < x1.length) = true := decide_eq_true (by omega)
   have HE := Lib.hid (show ruleV ad (checkR t n ⟨x0, x1⟩) = .iface 178 (.pointer (some (ad 3))) by simp [ruleV, checkR, show 32 < x1.length from by omega])
   clear hr hcall hB1 hb H0
   go_enter Tryd.func82, Tryd.ntmps82
   go_wp2_with fail
   go_ret
   exact ⟨by rw [HE.out]; rfl, HB.out⟩
set_option maxHeartbeats 1500000 in
set_option maxRecDepth 100000 in
theorem Check_full (ad : Int → Addr) (k : Nat) (A0 : Option Addr) (c0 : Nat) (l0 : List ByteArray) (A1 : Option Addr) (c1 : Nat) (l1 : List ByteArray) (a2 : Int) (A3 : Option Addr) (c3 : Nat) (l3 : List S52) (b0 b1 : Bool) (w : World) (hG : Sents ad w) (hr0 : Kd.C Kd.string w A0 l0.length l0) (hc0 : l0.length ≤ c0) (hr1 : Kd.C Kd.string w A1 l1.length l1) (hc1 : l1.length ≤ c1) (hr3 : Kd.C k52 w A3 l3.length l3) (hc3 : l3.length ≤ c3)
 (hn0 : gram_names.f k l0 = some b0) (hn1 : gram_names.f k l1 = some b1) :
 Calls Tryd.prog 51 #[.agg #[.slice A0 l0.length c0, .slice A1 l1.length c1, .int .i64 a2, .slice A3 l3.length c3]] w (CheckPost ad w (chk b0 b1 l0.length l1.length a2 l3)) := by
 obtain ⟨x0, x1, x2⟩ := id hG
 obtain ⟨Tw, hT⟩ : ∃ Tw : World → Prop, ∀ W, Tw W ↔ (Below w.heap.size w W ∧ Box w.heap.size #[.slice A0 l0.length c0, .slice A1 l1.length c1, .int .i64 a2, .slice A3 l3.length c3] 25 W) := ⟨_, fun _ => Iff.rfl⟩
 have start : Tw (w.alloc (.cells #[.slice A0 l0.length c0, .slice A1 l1.length c1, .int .i64 a2, .slice A3 l3.length c3] 25)) := (hT _).2 ⟨(Below.refl _ w).alloc (Nat.le_refl _) _, Box.new w _ _⟩
 have cells : ∀ W, Tw W → W.cell? ⟨w.heap.size, 0, none⟩ = some (.slice A0 l0.length c0) ∧ W.cell? ⟨w.heap.size, 1, none⟩ = some (.slice A1 l1.length c1) ∧ W.cell? ⟨w.heap.size, 2, none⟩ = some (.int .i64 a2) ∧ W.cell? ⟨w.heap.size, 3, none⟩ = some (.slice A3 l3.length c3) ∧ W.cell? ⟨3, 0, none⟩ = some (.iface 178 (.pointer (some (ad 3)))) ∧ W.cell? ⟨10, 0, none⟩ = some (.iface 178 (.pointer (some (ad 10)))) ∧ W.cell? ⟨1, 0, none⟩ = some (.iface 178 (.pointer (some (ad 1)))) := by
  intro W hW
  have hb := ((hT W).1 hW).1
  have h3' := ((hT W).1 hW).2
  exact ⟨h3'.cell 0 _ rfl, h3'.cell 1 _ rfl, h3'.cell 2 _ rfl, h3'.cell 3 _ rfl, (hb.cell (World.block_lt_of_cell? w _ x0)).trans x0, (hb.cell (World.block_lt_of_cell? w _ x1)).trans x1, (hb.cell (World.block_lt_of_cell? w _ x2)).trans x2⟩
 have more : ∀ W W', Tw W → Below W.heap.size W W' → Tw W' := fun W W' h hb => (hT W').2 ⟨((hT W).1 h).1.trans (hb.mono ((hT W).1 h).1.size), ((hT W).1 h).2.below hb⟩
 have last : ∀ W, Tw W → Below w.heap.size w W := fun W h => ((hT W).1 h).1
 clear hT
 have key0 : ∀ W, Tw W → Calls Tryd.prog 81 #[.slice A0 l0.length c0] W fun e W => e = .returned (.bool b0) ∧ Aside0 (Tw W) ∧ W.cell? ⟨w.heap.size, 0, none⟩ = some (.slice A0 l0.length c0) ∧ W.cell? ⟨w.heap.size, 1, none⟩ = some (.slice A1 l1.length c1) ∧ W.cell? ⟨w.heap.size, 2, none⟩ = some (.int .i64 a2) ∧ W.cell? ⟨w.heap.size, 3, none⟩ = some (.slice A3 l3.length c3) ∧ W.cell? ⟨3, 0, none⟩ = some (.iface 178 (.pointer (some (ad 3)))) ∧ W.cell? ⟨10, 0, none⟩ = some (.iface 178 (.pointer (some (ad 10)))) ∧ W.cell? ⟨1, 0, none⟩ = some (.iface 178 (.pointer (some (ad 1)))) := by
  intro W hW
  refine (gram_names.calls k A0 c0 l0 b0 W (Kd.C_below hr0 (last W hW)) hc0 hn0).mono ?_
  rintro e w' ⟨he, hd⟩
  have := more W w' hW hd.below
  exact ⟨he, ⟨this⟩, cells _ this⟩
 have key1 : ∀ W, Tw W → Calls Tryd.prog 81 #[.slice A1 l1.length c1] W fun e W => e = .returned (.bool b1) ∧ Aside0 (Tw W) ∧ W.cell? ⟨w.heap.size, 0, none⟩ = some (.slice A0 l0.length c0) ∧ W.cell? ⟨w.heap.size, 1, none⟩ = some (.slice A1 l1.length c1) ∧ W.cell? ⟨w.heap.size, 2, none⟩ = some (.int .i64 a2) ∧ W.cell? ⟨w.heap.size, 3, none⟩ = some (.slice A3 l3.length c3) ∧ W.cell? ⟨3, 0, none⟩ = some (.iface 178 (.pointer (some (ad 3)))) ∧ W.cell? ⟨10, 0, none⟩ = some (.iface 178 (.pointer (some (ad 10)))) ∧ W.cell? ⟨1, 0, none⟩ = some (.iface 178 (.pointer (some (ad 1)))) := by
  intro W hW
  refine (gram_names.calls k A1 c1 l1 b1 W (Kd.C_below hr1 (last W hW)) hc1 hn1).mono ?_
  rintro e w' ⟨he, hd⟩
  have := more W w' hW hd.below
  exact ⟨he, ⟨this⟩, cells _ this⟩
 obtain ⟨s0, s1, s2, s3, s4, s5, s6⟩ := cells _ start
 have HR3 := Aside0.mk hr3
 have ST := Aside0.mk start
 have CE := Aside0.mk cells
 have MO := Aside0.mk more
 have LA := Aside0.mk last
 clear hr0 hr1 hr3 start cells more last hn0 hn1
 by_cases d1 : l0.length ≤ 60
 rotate_left
 · have e1 : decide ((60 : Int) < l0.length) = true := decide_eq_true (by omega)
   have e1' : decide (60 < l0.length) = true := decide_eq_true (by omega)
   clear key0 key1
   have HE := Lib.hid (show chk b0 b1 l0.length l1.length a2 l3 = (3, -1) by simp [chk, show 60 < l0.length + l1.length from by omega])
   go_enter Tryd.func51, Tryd.ntmps51
   go_wp2_with fail
   go_ret
   exact ⟨⟨_, rfl, by rw [HE.out]; exact .inr (.inl ⟨by simp, rfl, rfl⟩)⟩, LA.out _ ST.out⟩
 have e1 : decide ((60 : Int) < l0.length) = false := decide_eq_false (by omega)
 have e1' : decide (60 < l0.length) = false := decide_eq_false (by omega)
 by_cases d2 : l0.length + l1.length ≤ 60
 rotate_left
 · have e2 : decide ((60 : Int) - l0.length < l1.length) = true := decide_eq_true (by omega)
   clear key0 key1
   have HE := Lib.hid (show chk b0 b1 l0.length l1.length a2 l3 = (3, -1) by simp [chk, show 60 < l0.length + l1.length from by omega])
   go_enter Tryd.func51, Tryd.ntmps51
   go_wp2_with fail
   go_ret
   exact ⟨⟨_, rfl, by rw [HE.out]; exact .inr (.inl ⟨by simp, rfl, rfl⟩)⟩, LA.out _ ST.out⟩
 have e2 : decide ((60 : Int) - l0.length < l1.length) = false := decide_eq_false (by omega)
 by_cases d3 : l3.length ≤ 120
 rotate_left
 · have e3 : decide ((120 : Int) < l3.length) = true := decide_eq_true (by omega)
   have e3' : decide (120 < l3.length) = true := decide_eq_true (by omega)
   clear key0 key1
   have HE := Lib.hid (show chk b0 b1 l0.length l1.length a2 l3 = (3, -1) by simp [chk, show 120 < l3.length from by omega])
   go_enter Tryd.func51, Tryd.ntmps51
   go_wp2_with fail
   go_ret
   exact ⟨⟨_, rfl, by rw [HE.out]; exact .inr (.inl ⟨by simp, rfl, rfl⟩)⟩, LA.out _ ST.out⟩
 have e3 : decide ((120 : Int) < l3.length) = false := decide_eq_false (by omega)
 have e3' : decide (120 < l3.length) = false := decide_eq_false (by omega)
 have K0 := Aside0.mk key0
 have K1 := Aside0.mk key1
 clear key0 key1
 cases b0
 · skip
   have HE := Lib.hid (show chk false b1 l0.length l1.length a2 l3 = (10, -1) by simp [chk, show ¬ 60 < l0.length + l1.length from by omega, show ¬ 120 < l3.length from by omega])
   go_enter Tryd.func51, Tryd.ntmps51
   go_wp2_with (first | (go_at_call 81; (with_reducible refine (K0.out _ ST.out).mono ?_); rintro e w1 ⟨rfl, z1, f0, f1, f2, f3, f4, f5, f6⟩))
   go_ret
   exact ⟨⟨_, rfl, by rw [HE.out]; exact .inr (.inl ⟨by simp, rfl, rfl⟩)⟩, LA.out _ z1.out⟩
 cases b1
 · skip
   have HE := Lib.hid (show chk true false l0.length l1.length a2 l3 = (10, -1) by simp [chk, show ¬ 60 < l0.length + l1.length from by omega, show ¬ 120 < l3.length from by omega])
   go_enter Tryd.func51, Tryd.ntmps51
   go_wp2_with (first | (go_at_call 81; (with_reducible refine (K0.out _ ST.out).mono ?_); rintro e w1 ⟨rfl, z1, f0, f1, f2, f3, f4, f5, f6⟩) | (go_at_call 81; (with_reducible refine (K1.out _ z1.out).mono ?_); rintro e w2 ⟨rfl, z2, g0, g1, g2, g3, g4, g5, g6⟩))
   go_ret
   exact ⟨⟨_, rfl, by rw [HE.out]; exact .inr (.inl ⟨by simp, rfl, rfl⟩)⟩, LA.out _ z2.out⟩
 by_cases d4 : a2 < 0
 · have e4 : decide (a2 < 0) = true := decide_eq_true d4
   have HE := Lib.hid (show chk true true l0.length l1.length a2 l3 = (1, -1) by simp [chk, show ¬ 60 < l0.length + l1.length from by omega, show ¬ 120 < l3.length from by omega, d4])
   go_enter Tryd.func51, Tryd.ntmps51
   go_wp2_with (first | (go_at_call 81; (with_reducible refine (K0.out _ ST.out).mono ?_); rintro e w1 ⟨rfl, z1, f0, f1, f2, f3, f4, f5, f6⟩) | (go_at_call 81; (with_reducible refine (K1.out _ z1.out).mono ?_); rintro e w2 ⟨rfl, z2, g0, g1, g2, g3, g4, g5, g6⟩))
   go_ret
   exact ⟨⟨_, rfl, by rw [HE.out]; exact .inr (.inl ⟨by simp, rfl, rfl⟩)⟩, LA.out _ z2.out⟩
 have e4 : decide (a2 < 0) = false := decide_eq_false d4
 by_cases d5 : (l1.length : Int) ≤ a2
 · have e5 : decide ((l1.length : Int) ≤ a2) = true := decide_eq_true d5
   have HE := Lib.hid (show chk true true l0.length l1.length a2 l3 = (1, -1) by simp [chk, show ¬ 60 < l0.length + l1.length from by omega, show ¬ 120 < l3.length from by omega, d5])
   go_enter Tryd.func51, Tryd.ntmps51
   go_wp2_with (first | (go_at_call 81; (with_reducible refine (K0.out _ ST.out).mono ?_); rintro e w1 ⟨rfl, z1, f0, f1, f2, f3, f4, f5, f6⟩) | (go_at_call 81; (with_reducible refine (K1.out _ z1.out).mono ?_); rintro e w2 ⟨rfl, z2, g0, g1, g2, g3, g4, g5, g6⟩))
   go_ret
   exact ⟨⟨_, rfl, by rw [HE.out]; exact .inr (.inl ⟨by simp, rfl, rfl⟩)⟩, LA.out _ z2.out⟩
 have e5 : decide ((l1.length : Int) ≤ a2) = false := decide_eq_false d5
 have HE := Lib.hid (show chk true true l0.length l1.length a2 l3 = chkRs l0.length l1.length l3 0 by simp [chk, show ¬ 60 < l0.length + l1.length from by omega, show ¬ 120 < l3.length from by omega, d4, d5])
 go_enter Tryd.func51, Tryd.ntmps51
 go_wp2_with (first | (go_at_call 81; (with_reducible refine (K0.out _ ST.out).mono ?_); rintro e w1 ⟨rfl, z1, f0, f1, f2, f3, f4, f5, f6⟩) | (go_at_call 81; (with_reducible refine (K1.out _ z1.out).mono ?_); rintro e w2 ⟨rfl, z2, g0, g1, g2, g3, g4, g5, g6⟩))
 go_loopw [3, 4, 5, 53] (fun _ _ _ i wr => ∃ j : Nat, j ≤ l3.length ∧ i = .int .i64 j ∧ Aside0 (Tw wr) ∧ Hid (chkRs l0.length l1.length (l3.drop j) j = chkRs l0.length l1.length l3 0)) (fun _ _ _ i _ => l3.length - (intOf i).toNat)
 case atStart => exact ⟨0, Nat.zero_le _, rfl, z2, Lib.hid rfl⟩
 case round =>
  obtain ⟨j, hj, rfl, htw, hok⟩ := hrel
  clear f0 f1 f2 f3 f4 f5 f6 g0 g1 g2 g3 g4 g5 g6 s0 s1 s2 s3 s4 s5 s6
  by_cases hlt : j < l3.length
  · obtain ⟨f0, f1, f2, f3, f4, f5, f6⟩ := CE.out wr htw.out
    obtain ⟨ad', A, cc, rfl, h0, h1, h2, h3⟩ := at_T52 (Kd.C_below HR3.out (LA.out wr htw.out)) (j : Int) (by omega) (by omega)
    have q0 : rd_T52 l3 (j : Int) = l3[j] := by simp [rd_T52, List.getD_eq_getElem?_getD, List.getElem?_eq_getElem hlt]
    have hn := chkRs_drop l0.length l1.length l3 j hlt
    rw [Int.toNat_natCast] at h0 h1
    rw [q0] at h0 h1 h2 h3
    generalize l3[j] = x at h0 h1 h2 h3 hn
    have hGr : Sents ad wr := ⟨f4, f5, f6⟩
    have f0a := fun o => Lib.cell?_alloc_some o f0
    have f1a := fun o => Lib.cell?_alloc_some o f1
    have f2a := fun o => Lib.cell?_alloc_some o f2
    have f3a := fun o => Lib.cell?_alloc_some o f3
    have hcall : ∀ W, Below wr.heap.size wr W → Calls Tryd.prog 82 #[.agg #[.slice A0 l0.length c0, .slice A1 l1.length c1, .int .i64 a2, .slice (some ad') l3.length c3], .agg #[.int .i64 x.f0, .slice A x.f1.length cc]] W fun e w' => e = .returned (ruleV ad (checkR l0.length l1.length x)) ∧ Aside0 (Tw w') := by
     intro W hW
     refine (Rule_full ad A0 c0 l0.length A1 c1 l1.length a2 _ x A cc W (hGr.below hW) (by omega) (by omega) (Kd.C_below h3 hW) h2).mono ?_
     rintro e w' ⟨he, hb⟩
     exact ⟨he, ⟨MO.out _ _ (MO.out _ _ htw.out hW) hb⟩⟩
    by_cases hq : checkR l0.length l1.length x = 0
    · rw [if_pos hq] at hn
      rw [hq, show ruleV ad 0 = .nilIface from rfl] at hcall
      have HC := Aside0.mk hcall
      have HN := Lib.hid hn
      clear hcall h3 q0 hq hn hGr
      go_wp2_with (go_at_call 82; (with_reducible refine (HC.out _ ((Below.refl _ wr).alloc (Nat.le_refl _) _)).mono ?_); rintro e w' ⟨rfl, t3⟩)
      go_roundw
      case measure => simp [intOf]; omega
      case rel => exact ⟨j + 1, by omega, rfl, t3, Lib.hid (HN.out.symm.trans hok.out)⟩
    · rw [if_neg hq] at hn
      have hc : checkR l0.length l1.length x = 3 ∨ checkR l0.length l1.length x = 1 := (checkR_cases l0.length l1.length x).elim (fun h => absurd h.1 hq) (fun h => h.1)
      rw [show ruleV ad (checkR l0.length l1.length x) = .iface 178 (.pointer (some (ad (checkR l0.length l1.length x)))) from if_neg hq] at hcall
      generalize checkR l0.length l1.length x = c at hcall hn hc
      have HC := Aside0.mk hcall
      have HN := Lib.hid (hn.symm.trans hok.out)
      have HCC := Aside0.mk hc
      clear hcall h3 q0 hq hn hGr hc
      go_wp2_with (go_at_call 82; (with_reducible refine (HC.out _ ((Below.refl _ wr).alloc (Nat.le_refl _) _)).mono ?_); rintro e w' ⟨rfl, t3⟩)
      go_ret
      exact ⟨⟨_, rfl, by rw [HE.out, ← HN.out]; exact .inr (.inr ⟨HCC.out, by simp, by simp; omega, _, rfl, heap_alloc_new _ _⟩)⟩, (LA.out _ t3.out).alloc (LA.out _ t3.out).size _⟩
  · have hjn : j = l3.length := by omega
    subst hjn
    have HN := Lib.hid (show chkRs l0.length l1.length l3 0 = (0, -1) by have := hok.out; rw [List.drop_length] at this; exact this.symm)
    go_wp2_with fail
    go_ret
    exact ⟨⟨_, rfl, by rw [HE.out, HN.out]; exact .inl ⟨rfl, rfl, rfl⟩⟩, LA.out _ htw.out⟩
theorem chkRs_ok (t n : Nat) : ∀ (R : List S52) (j : Nat), (chkRs t n R j).1 = 0 → ∀ x ∈ R, okR t n x = true
 | [], _, _, x, hx => by cases hx
 | y :: R, j, h, x, hx => by
  unfold chkRs at h
  rcases checkR_cases t n y with ⟨h0, hok⟩ | ⟨h0, _⟩
  · rw [if_pos h0] at h
    rcases List.mem_cons.1 hx with rfl | hx
    · exact hok
    · exact chkRs_ok t n R (j + 1) h x hx
  · rw [if_neg (by rcases h0 with h0 | h0 <;> omega)] at h
    rcases h0 with h0 | h0 <;> (dsimp only at h; omega)
theorem chk_ok {b0 b1 : Bool} {n0 n1 : Nat} {a2 : Int} {R : List S52} (h : (chk b0 b1 n0 n1 a2 R).1 = 0) : n0 + n1 ≤ 60 ∧ R.length ≤ 120 ∧ b0 = true ∧ b1 = true ∧ 0 ≤ a2 ∧ a2 < (n1 : Int) ∧ ∀ x ∈ R, okR n0 n1 x = true := by
 unfold chk at h
 split at h
 · simp at h
 · split at h
   · simp at h
   · split at h
     · simp at h
     · rename_i h1 h2 h3
       simp only [Bool.and_eq_false_iff, not_or, Bool.not_eq_false] at h2
       exact ⟨by omega, by omega, h2.1, h2.2, by omega, by omega, chkRs_ok _ _ R 0 h⟩
end Go.Proofs.YthjhaogfpdkhbaaDoor.B
/- The document's Check, in plain Lean: what gram.Check tells. -/
namespace Go.Proofs.YthjhaogfpdkhbaaDoor.B
open Go.RowKit YthjhaogfpdkhbaaDoorW.PrintWords YthjhaogfpdkhbaaDoorW.PrintLast YthjhaogfpdkhbaaDoorW.PrintMore

theorem refNamed_in (l : List ByteArray) (hm : l.length ≤ 9223372036854775807) (i : Nat) (hi : i < l.length) (r : Bool) (B : Nat) (hB : ∀ k, B ≤ k → dovetailref03_named.l0 k l ((i + 1 : Nat) : Int) = some r) :
 ∀ (d j k : Nat), i - j = d → j ≤ i → d + B + 1 ≤ k → dovetailref03_named.l1 k l (i : Int) (j : Int) = some (!((l.take i).drop j).any (fun x => decide (l.getD i ByteArray.empty = x)) && r) := by
 intro d
 induction d with
 | zero =>
  intro j k hd hj hk
  obtain ⟨k, rfl⟩ : ∃ m, k = m + 1 := ⟨k - 1, by omega⟩
  have : j = i := by omega
  subst this
  rw [dovetailref03_named.l1, if_neg (by omega), w64 j (by omega), hB k (by omega), List.drop_of_length_le (by rw [List.length_take]; omega)]
  simp
 | succ d ih =>
  intro j k hd hj hk
  obtain ⟨k, rfl⟩ : ∃ m, k = m + 1 := ⟨k - 1, by omega⟩
  have hlt : j < i := by omega
  have hdr : (l.take i).drop j = l[j] :: (l.take i).drop (j + 1) := by
   rw [List.drop_eq_getElem_cons (by rw [List.length_take]; omega), List.getElem_take]
  rw [dovetailref03_named.l1, if_pos (by omega), if_pos (by omega), if_pos (by omega), if_pos (by omega), if_pos (by omega), rdS_D, rdS_D, getD_lt l j _ (by omega), hdr, List.any_cons]
  by_cases c : l[j] = l.getD i ByteArray.empty
  · rw [if_pos ((toL_eq _ _).2 c), decide_eq_true c.symm]; rfl
  · rw [if_neg (fun h => c ((toL_eq _ _).1 h)), w64 j (by omega), ih (j + 1) k (by omega) (by omega) (by omega), decide_eq_false (fun h => c h.symm)]; rfl
theorem refNamed_l (l : List ByteArray) (hm : l.length ≤ 9223372036854775807) : ∀ (d i k : Nat), l.length - i = d → i ≤ l.length → d * (l.length + 3) + 1 ≤ k → dovetailref03_named.l0 k l (i : Int) = some (namesFrom l i) := by
 intro d
 induction d with
 | zero =>
  intro i k hi hle hk
  obtain ⟨k, rfl⟩ : ∃ j, k = j + 1 := ⟨k - 1, by omega⟩
  have : i = l.length := by omega
  subst this
  rw [dovetailref03_named.l0, if_neg (by omega), namesFrom_end]
 | succ d ih =>
  intro i k hi hle hk
  rw [Nat.add_mul, Nat.one_mul] at hk
  obtain ⟨k, rfl⟩ : ∃ j, k = j + 2 := ⟨k - 2, by omega⟩
  have hlt : i < l.length := by omega
  have hin := refNamed_in l hm i hlt _ _ (fun k hk => ih (i + 1) k (by omega) (by omega) hk) i 0 k (by omega) (by omega) (by omega)
  rw [dovetailref03_named.l0, if_pos (by omega), if_pos (by omega), rdS_D, namesFrom_step l i hlt]
  rw [List.drop_zero] at hin
  unfold faultAt
  generalize hs : l.getD i ByteArray.empty = s at hin
  by_cases c1 : s.size = 0
  · rw [if_pos (by omega), dovetailref03_named.j1, if_pos rfl]; simp [c1]
  · rw [if_neg (by omega), dovetailref03_named.j1]
    by_cases c2 : 32 < s.size
    · rw [if_pos (decide_eq_true (by omega))]; simp [c2]
    · have hin' : dovetailref03_named.l1 k l (i : Int) 0 = _ := hin
      rw [if_neg (by simp; omega), hin', decide_eq_false c1, decide_eq_false c2]
      simp
theorem refNamed_f (l : List ByteArray) (k : Nat) (hm : l.length ≤ 9223372036854775807) (hk : l.length * (l.length + 3) + 1 ≤ k) : dovetailref03_named.f k l = some (namesOK l) := by
 unfold dovetailref03_named.f
 have := refNamed_l l hm l.length 0 k (by omega) (by omega) hk
 rw [namesFrom_zero] at this
 exact this
theorem refCheck_in (t n : Nat) (hn : n ≤ 60) (l0 l1 : List ByteArray) (a2 : Int) (R : List S52) (i : Nat) (hi : i < 200) (x0 : Int) (xs : List Int) (hx : xs.length ≤ 32) (r : Int × Int) (B : Nat) (hB : ∀ k, B ≤ k → dovetailref03_Check.l0 k (t : Int) (n : Int) ((i + 1 : Nat) : Int) l0 l1 a2 R = some r) :
 ∀ (d j k : Nat), xs.length - j = d → j ≤ xs.length → d + B + 1 ≤ k → dovetailref03_Check.l1 k (t : Int) (n : Int) (i : Int) (j : Int) l0 l1 a2 R x0 xs = some (if (xs.drop j).any (outS t n) = true then (1, (i : Int)) else r) := by
 intro d
 induction d with
 | zero =>
  intro j k hd hj hk
  obtain ⟨k, rfl⟩ : ∃ m, k = m + 1 := ⟨k - 1, by omega⟩
  have : j = xs.length := by omega
  subst this
  rw [dovetailref03_Check.l1, if_neg (by omega), w64 i (by omega), hB k (by omega), List.drop_length]
  rfl
 | succ d ih =>
  intro j k hd hj hk
  obtain ⟨k, rfl⟩ : ∃ m, k = m + 1 := ⟨k - 1, by omega⟩
  have hlt : j < xs.length := by omega
  have hwn : wrap64 (-(n : Int)) = -(n : Int) := by unfold wrap64; omega
  rw [dovetailref03_Check.l1, if_pos (by omega), if_pos (by omega), rd_D, getD_lt xs j _ hlt, hwn, List.drop_eq_getElem_cons hlt, List.any_cons]
  generalize xs[j] = s
  have ho : outS t n s = (decide ((t : Int) ≤ s) || decide (s < -(n : Int))) := rfl
  rw [ho]
  by_cases c1 : (t : Int) ≤ s
  · rw [if_pos (by omega), decide_eq_true c1]; rfl
  · by_cases c2 : s < -(n : Int)
    · rw [if_neg (by omega), if_pos c2, decide_eq_true c2, Bool.or_true]; rfl
    · rw [if_neg (by omega), if_neg c2, w64 j (by omega), ih (j + 1) k (by omega) (by omega) (by omega), decide_eq_false c1, decide_eq_false c2]; rfl
theorem refCheck_l (t n : Nat) (hn : n ≤ 60) (l0 l1 : List ByteArray) (a2 : Int) (R : List S52) (hR : R.length ≤ 120) : ∀ (d i k : Nat), R.length - i = d → i ≤ R.length → d * 40 + 1 ≤ k → dovetailref03_Check.l0 k (t : Int) (n : Int) (i : Int) l0 l1 a2 R = some (chkRs t n (R.drop i) i) := by
 intro d
 induction d with
 | zero =>
  intro i k hi hle hk
  obtain ⟨k, rfl⟩ : ∃ j, k = j + 1 := ⟨k - 1, by omega⟩
  have : i = R.length := by omega
  subst this
  rw [dovetailref03_Check.l0, if_neg (by omega), List.drop_length]
  rfl
 | succ d ih =>
  intro i k hi hle hk
  obtain ⟨k, rfl⟩ : ∃ j, k = j + 2 := ⟨k - 2, by omega⟩
  have hlt : i < R.length := by omega
  rw [dovetailref03_Check.l0, if_pos (by omega), if_pos (by omega), rdR_D, getD_lt R i _ hlt, chkRs_drop t n R i hlt]
  generalize R[i] = x
  obtain ⟨x0, xs⟩ := x
  dsimp only
  by_cases c0 : 32 < xs.length
  · have e : checkR t n ⟨x0, xs⟩ = 3 := by simp [checkR, c0]
    rw [if_pos (by omega), e, if_neg (by decide)]
  rw [if_neg (by omega)]
  by_cases c1 : x0 < 0
  · have e : checkR t n ⟨x0, xs⟩ = 1 := by simp [checkR, c0, c1]
    rw [if_pos c1, dovetailref03_Check.j4, if_pos rfl, e, if_neg (by decide)]
  rw [if_neg c1, dovetailref03_Check.j4]
  by_cases c2 : (n : Int) ≤ x0
  · have e : checkR t n ⟨x0, xs⟩ = 1 := by simp [checkR, c0, c2]
    rw [if_pos (decide_eq_true (by omega)), e, if_neg (by decide)]
  have hin : dovetailref03_Check.l1 k (t : Int) (n : Int) (i : Int) 0 l0 l1 a2 R x0 xs = _ := refCheck_in t n hn l0 l1 a2 R i (by omega) x0 xs (by omega) _ _ (fun k hk => ih (i + 1) k (by omega) (by omega) hk) xs.length 0 k (by omega) (by omega) (by omega)
  rw [if_neg (by simp; omega), hin, List.drop_zero]
  cases c3 : xs.any (outS t n) with
  | true =>
   have e : checkR t n ⟨x0, xs⟩ = 1 := by simp [checkR, c0, c3]
   rw [if_pos rfl, e, if_neg (by decide)]
  | false =>
   have e : checkR t n ⟨x0, xs⟩ = 0 := by simp [checkR, c0, c1, c2, c3]
   rw [if_neg (by decide), e, if_pos rfl]
theorem refCheck_f (l0 l1 : List ByteArray) (a2 : Int) (R : List S52) (m0 : l0.length ≤ 9223372036854775807) (m1 : l1.length ≤ 9223372036854775807) (k : Nat) (hk : 20000 ≤ k) :
 dovetailref03_Check.f k l0 l1 a2 R = some (chk (namesOK l0) (namesOK l1) l0.length l1.length a2 R) := by
 obtain ⟨k, rfl⟩ : ∃ j, k = j + 4 := ⟨k - 4, by omega⟩
 have hno : ∀ x, dovetailref03_Check.j0 (k + 4) (l0.length : Int) (l1.length : Int) true x l1 a2 R = some (3, -1) := fun x => by rw [dovetailref03_Check.j0, if_pos rfl]
 unfold dovetailref03_Check.f chk
 by_cases c0 : 60 < l0.length
 · rw [if_pos (by omega), hno, if_pos (by omega)]
 rw [if_neg (by omega)]
 by_cases c1 : 60 < l1.length
 · rw [if_pos (by omega), hno, if_pos (by omega)]
 rw [if_neg (by omega)]
 have hw : wrap64 ((l0.length : Int) + (l1.length : Int)) = (l0.length : Int) + (l1.length : Int) := by unfold wrap64; omega
 rw [hw]
 by_cases c2 : 60 < l0.length + l1.length
 · rw [if_pos (by omega), hno, if_pos (by omega)]
 rw [if_neg (by omega), dovetailref03_Check.j0]
 by_cases c3 : 120 < R.length
 · rw [if_pos (decide_eq_true (by omega)), if_pos (by omega)]
 rw [if_neg (by simp; omega), if_neg (by omega)]
 have hb : ∀ n : Nat, n ≤ 60 → n * (n + 3) + 1 ≤ 4000 := fun n hn => by
  have := Nat.mul_le_mul hn (show n + 3 ≤ 63 by omega)
  omega
 have hb0 := hb l0.length (by omega)
 have hb1 := hb l1.length (by omega)
 rw [refNamed_f l0 (k + 3) m0 (by omega), Option.bind_some]
 cases h0 : namesOK l0 with
 | false => rw [if_neg (by decide), dovetailref03_Check.j1, if_pos rfl]; rfl
 | true =>
  rw [if_pos rfl, refNamed_f l1 (k + 3) m1 (by omega), Option.bind_some, dovetailref03_Check.j1]
  cases h1 : namesOK l1 with
  | false => rw [if_pos (by rfl)]; rfl
  | true =>
   rw [if_neg (show ¬ (!true) = true by decide), if_neg (show ¬ (true && true) = false by decide)]
   have hl : dovetailref03_Check.l0 (k + 1) (l0.length : Int) (l1.length : Int) 0 l0 l1 a2 R = _ := refCheck_l l0.length l1.length (by omega) l0 l1 a2 R (by omega) R.length 0 (k + 1) (by omega) (by omega) (by omega)
   rw [List.drop_zero] at hl
   by_cases c4 : l1.length = 0
   · rw [if_pos (by omega), dovetailref03_Check.j2, if_pos rfl, if_pos (by omega)]
   rw [if_neg (by omega)]
   by_cases c5 : a2 < 0
   · rw [if_pos c5, dovetailref03_Check.j2, if_pos rfl, if_pos (.inl c5)]
   rw [if_neg c5, dovetailref03_Check.j2]
   by_cases c6 : (l1.length : Int) ≤ a2
   · rw [if_pos (decide_eq_true (by omega)), if_pos (.inr c6)]
   rw [if_neg (by simp; omega), if_neg (by omega)]
   exact hl
end Go.Proofs.YthjhaogfpdkhbaaDoor.B
/- Chapter 5: what the printed functions answer, in plain Lean. -/
namespace Go.Proofs.YthjhaogfpdkhbaaDoor.Sh
open Go.RowKit YthjhaogfpdkhbaaDoorW.PrintWords YthjhaogfpdkhbaaDoorW.PrintLast YthjhaogfpdkhbaaDoorW.PrintMore
open B H

theorem w64n (i : Nat) (h : i < 9223372036854775807) : wrap64 ((i : Int) + 1) = ((i + 1 : Nat) : Int) := by unfold wrap64; omega
section
variable {l0 l1 : List ByteArray} {a2 : Int} {R : List S52} {m : Nat}
theorem getD_size {l : List ByteArray} (h : ∀ x ∈ l, x.size ≤ m) (i : Nat) : (l.getD i ByteArray.empty).size ≤ m := by
 rcases Nat.lt_or_ge i l.length with hi | hi
 · rw [getD_lt _ _ _ hi]
   exact h _ (List.getElem_mem hi)
 · rw [List.getD_eq_getElem?_getD, List.getElem?_eq_none hi]
   exact Nat.zero_le _
end
end Go.Proofs.YthjhaogfpdkhbaaDoor.Sh
/- show.Symbol, show.Symbols, the document's Symbols: walked. -/
namespace Go.Proofs.YthjhaogfpdkhbaaDoor.Sh
open Go.RowKit YthjhaogfpdkhbaaDoorW.PrintWords YthjhaogfpdkhbaaDoorW.PrintLast YthjhaogfpdkhbaaDoorW.PrintMore
open B H

def GS (w : World) (cs : Array Value) (W : World) : Prop := Below w.heap.size w W ∧ Box w.heap.size cs 25 W
theorem GS.start (w : World) (cs : Array Value) : GS w cs (w.alloc (.cells cs 25)) := ⟨(Below.refl _ w).alloc (Nat.le_refl _) _, Box.new w _ _⟩
theorem GS.low {w : World} {cs : Array Value} {W : World} (h : GS w cs W) : Below w.heap.size w W := h.1
theorem GS.more {w : World} {cs : Array Value} {W W' : World} (h : GS w cs W) (hb : Below W.heap.size W W') : GS w cs W' := ⟨h.1.trans (hb.mono h.1.size), h.2.below hb⟩
theorem GS.cells {w W : World} {v0 v1 v2 v3 : Value} (h : GS w #[v0, v1, v2, v3] W) : W.cell? ⟨w.heap.size, 0, none⟩ = some v0 ∧ W.cell? ⟨w.heap.size, 1, none⟩ = some v1 ∧ W.cell? ⟨w.heap.size, 2, none⟩ = some v2 ∧ W.cell? ⟨w.heap.size, 3, none⟩ = some v3 :=
 ⟨h.2.cell 0 _ rfl, h.2.cell 1 _ rfl, h.2.cell 2 _ rfl, h.2.cell 3 _ rfl⟩
theorem GS.base {w : World} {cs : Array Value} {W W' : World} (h : GS w cs W) (base : Nat) (hb : Below base W W') (h0 : w.heap.size < base) : GS w cs W' := ⟨h.1.trans (hb.mono (by omega)), (hb.block _ h0).trans h.2⟩
end Go.Proofs.YthjhaogfpdkhbaaDoor.Sh
/- append([]byte, s...), s a string, as one step of a region that draws its order. -/
namespace Go.Proofs.YthjhaogfpdkhbaaDoorW.PrintLast
open Go.RowKit YthjhaogfpdkhbaaDoorW.PrintWords

end Go.Proofs.YthjhaogfpdkhbaaDoorW.PrintLast
namespace Go.Proofs.YthjhaogfpdkhbaaDoor.D
open B (S52 z52 k52 k52_open rd_T52 at_T52 dovetailref03_Check.f dovetailref03_Check.calls dovetailref03_Check.mono)
open Go.RowKit YthjhaogfpdkhbaaDoorW.PrintWords YthjhaogfpdkhbaaDoorW.PrintLast YthjhaogfpdkhbaaDoorW.PrintMore
attribute [local go_sem] max2_int min2_int max_two min_two max_three min_three max_four min_four   -- for this text's walks alone
set_option linter.unusedVariables false
set_option linter.unusedSimpArgs false




end Go.Proofs.YthjhaogfpdkhbaaDoor.D
namespace Go.Proofs.YthjhaogfpdkhbaaDoor.D
open B (S52 z52 k52 k52_open rd_T52 at_T52 dovetailref03_Check.f dovetailref03_Check.calls dovetailref03_Check.mono)
open Go.RowKit YthjhaogfpdkhbaaDoorW.PrintWords YthjhaogfpdkhbaaDoorW.PrintLast YthjhaogfpdkhbaaDoorW.PrintMore
attribute [local go_sem] max2_int min2_int max_two min_two max_three min_three max_four min_four   -- for this text's walks alone
set_option linter.unusedVariables false
set_option linter.unusedSimpArgs false

end Go.Proofs.YthjhaogfpdkhbaaDoor.D
namespace Go.Proofs.YthjhaogfpdkhbaaDoor.D
open B (S52 z52 k52 k52_open rd_T52 at_T52 dovetailref03_Check.f dovetailref03_Check.calls dovetailref03_Check.mono)
open Go.RowKit YthjhaogfpdkhbaaDoorW.PrintWords YthjhaogfpdkhbaaDoorW.PrintLast YthjhaogfpdkhbaaDoorW.PrintMore
attribute [local go_sem] max2_int min2_int max_two min_two max_three min_three max_four min_four   -- for this text's walks alone
set_option linter.unusedVariables false
set_option linter.unusedSimpArgs false

end Go.Proofs.YthjhaogfpdkhbaaDoor.D
namespace Go.Proofs.YthjhaogfpdkhbaaDoor.D
open B (S52 z52 k52 k52_open rd_T52 at_T52 dovetailref03_Check.f dovetailref03_Check.calls dovetailref03_Check.mono)
open Go.RowKit YthjhaogfpdkhbaaDoorW.PrintWords YthjhaogfpdkhbaaDoorW.PrintLast YthjhaogfpdkhbaaDoorW.PrintMore
attribute [local go_sem] max2_int min2_int max_two min_two max_three min_three max_four min_four   -- for this text's walks alone
set_option linter.unusedVariables false
set_option linter.unusedSimpArgs false

end Go.Proofs.YthjhaogfpdkhbaaDoor.D
/- Chapter 5: the document's Symbols, Rule, Readable, Text answer what the definitions say. -/
namespace Go.Proofs.YthjhaogfpdkhbaaDoor.Sh
open Go.RowKit YthjhaogfpdkhbaaDoorW.PrintWords YthjhaogfpdkhbaaDoorW.PrintLast YthjhaogfpdkhbaaDoorW.PrintMore
open B H D

section
variable {l0 l1 : List ByteArray} {a2 : Int} {R : List S52} {m : Nat}
theorem names_small {l : List ByteArray} (h : namesOK l = true) : ∀ x ∈ l, x.size ≤ 32 := by
 intro x hx
 obtain ⟨i, hi, rfl⟩ := List.getElem_of_mem hx
 unfold namesOK at h
 have := List.all_eq_true.1 h i (by simpa using hi)
 simp only [faultAt, Bool.not_eq_true', Bool.or_eq_false_iff, getD_lt _ _ _ hi, decide_eq_false_iff_not] at this
 omega
end
end Go.Proofs.YthjhaogfpdkhbaaDoor.Sh
/- errors.Is at a rule error, after the kit's worked example. -/
namespace Go.Proofs.YthjhaogfpdkhbaaDoor.E
open Go.RowKit Go.Extern.Stop Go.Stop Go.Extern
theorem noIsWR (v : Value) (xT : TypeId) (w : World) : (Instr.typeAssert (.iface 126 v) xT 152 true).run Tryd.prog w = .ok (.tuple #[.nilIface, .bool false]) w := run_typeAssert_lacksB Tryd.underlying152 (by kernel_rfl) (by kernel_rfl) v xT w
theorem hasUnwrapWR (v : Value) (xT : TypeId) (w : World) : (Instr.typeAssert (.iface 126 v) xT 155 true).run Tryd.prog w = .ok (.tuple #[.iface 126 v, .bool true]) w := run_typeAssert_hasB Tryd.underlying155 (by kernel_rfl) v xT w
theorem methodUnwrapR (v : Value) (w : World) : (Go.method 309 126 v "Unwrap").run Tryd.prog w = .ok (133, v) w := by kernel_rfl

theorem isR_same (pb po : Nat) (b : Addr) (w : World) (h1 : w.cell? ⟨pb, po + 1, none⟩ = some (.iface 178 (.pointer (some b)))) :
 Calls Tryd.prog 55 #[.iface 126 (.pointer (some ⟨pb, po, none⟩)), .iface 178 (.pointer (some b))] w fun e w' => e = .returned (.bool true) ∧ w = w' := by
 obtain ⟨i, hi, hcmp⟩ := Option.map_eq_some_iff.1 isComp
 obtain ⟨j, hj, hjs⟩ := Option.map_eq_some_iff.1 isSize
 have h8 := @run_callFunc_extern Tryd.prog 86 _ Extern.ReflectliteType.typeOf Tryd.func86 (by kernel_rfl) (by kernel_rfl) (by kernel_rfl) (by kernel_rfl)
 have h32 := @run_callFunc_extern Tryd.prog 136 _ compF Tryd.func136 (by kernel_rfl) (by kernel_rfl) (by kernel_rfl) (by kernel_rfl)
 have tT := isTypeOf
 have cT := isComparable
 have mR := isMethodComparable
 have nE := noIsE
 have uE := noUnwrapE
 have vE := noUnwrapsE
 have nW := noIsWR
 have uW := hasUnwrapWR
 have mU := methodUnwrapR
 have heq := run_eql_iface_ptr_same (P := Tryd.prog) w b Tryd.underlying30 Tryd.underlying178 hi hcmp hj
 have hty := run_eql_iface_types (P := Tryd.prog) 126 178 (.pointer (some ⟨pb, po, none⟩)) (.pointer (some b)) Tryd.underlying30 (by decide) w
 go_enter Tryd.func55, Tryd.ntmps55
 go_wp2
 refine wp_loop_rounds 2 ?_
 rw [rounds_succ]
 go_wp2
 rw [rounds_succ]
 go_wp2
 go_ret
 exact ⟨rfl, rfl⟩

theorem isR_other (pb po : Nat) (b a : Addr) (ca cb : Array Value) (ta tb : TypeId) (w : World) (h1 : w.cell? ⟨pb, po + 1, none⟩ = some (.iface 178 (.pointer (some a)))) (hne : a ≠ b) (ha : w.heap[a.block]? = some (.cells ca ta (0, 0))) (hb : w.heap[b.block]? = some (.cells cb tb (0, 0))) :
 Calls Tryd.prog 55 #[.iface 126 (.pointer (some ⟨pb, po, none⟩)), .iface 178 (.pointer (some b))] w fun e w' => e = .returned (.bool false) ∧ w = w' := by
 obtain ⟨i, hi, hcmp⟩ := Option.map_eq_some_iff.1 isComp
 obtain ⟨j, hj, hjs⟩ := Option.map_eq_some_iff.1 isSize
 have h8 := @run_callFunc_extern Tryd.prog 86 _ Extern.ReflectliteType.typeOf Tryd.func86 (by kernel_rfl) (by kernel_rfl) (by kernel_rfl) (by kernel_rfl)
 have h32 := @run_callFunc_extern Tryd.prog 136 _ compF Tryd.func136 (by kernel_rfl) (by kernel_rfl) (by kernel_rfl) (by kernel_rfl)
 have tT := isTypeOf
 have cT := isComparable
 have mR := isMethodComparable
 have nE := noIsE
 have uE := noUnwrapE
 have vE := noUnwrapsE
 have nW := noIsWR
 have uW := hasUnwrapWR
 have mU := methodUnwrapR
 have heq := run_eql_iface_ptr_other (P := Tryd.prog) w Tryd.underlying30 Tryd.underlying178 hi hcmp hj (by rw [hjs]; decide) hne ha hb
 have hty := run_eql_iface_types (P := Tryd.prog) 126 178 (.pointer (some ⟨pb, po, none⟩)) (.pointer (some b)) Tryd.underlying30 (by decide) w
 go_enter Tryd.func55, Tryd.ntmps55
 go_wp2
 refine wp_loop_rounds 2 ?_
 rw [rounds_succ]
 go_wp2
 rw [rounds_succ]
 go_wp2
 go_ret
 exact ⟨rfl, rfl⟩
end Go.Proofs.YthjhaogfpdkhbaaDoor.E
/- errors.As at a rule error, after the kit's worked example. -/
namespace Go.Proofs.YthjhaogfpdkhbaaDoor.E
open Go.RowKit Go.Extern.Stop Go.Stop Go.Extern

end Go.Proofs.YthjhaogfpdkhbaaDoor.E
/- kit.Kind and kit.Rule of what gram.Check answers. -/
namespace Go.Proofs.YthjhaogfpdkhbaaDoor.B
open Go.RowKit YthjhaogfpdkhbaaDoorW.PrintWords YthjhaogfpdkhbaaDoorW.PrintLast YthjhaogfpdkhbaaDoorW.PrintMore E

theorem IsK.rule {ad : Int → Addr} {w : World} (hs : SentsK ad w) (k : Int) (h1 : 1 ≤ k) (h2 : k ≤ 15) (b : Nat) (hc : w.cell? ⟨b, 1, none⟩ = some (.iface 178 (.pointer (some (ad k))))) : IsK ad w (.iface 126 (.pointer (some ⟨b, 0, none⟩))) k := by
 intro j hj1 hj2 W hW
 have hc' : W.cell? ⟨b, 0 + 1, none⟩ = some (.iface 178 (.pointer (some (ad k)))) := (hW.cell (World.block_lt_of_cell? w _ hc)).trans hc
 by_cases h : j = k
 · subst h
   rw [decide_eq_true rfl]
   exact isR_same b 0 (ad j) W hc'
 · rw [decide_eq_false h]
   obtain ⟨ca, ta, hca⟩ := (hs.below hW).box k h1 h2
   obtain ⟨cb, tb, hcb⟩ := (hs.below hW).box j hj1 hj2
   exact isR_other b 0 (ad j) (ad k) ca cb ta tb W hc' (hs.ne k j h1 h2 hj1 hj2 (fun e => h e.symm)) hca hcb
def Handle (w : World) : Prop := w.cell? ⟨15, 0, none⟩ = some (.iface 150 (.agg #[.pointer (some ⟨16, 30, none⟩)]))
theorem Handle.below {w w' : World} (h : Handle w) (hb : Below w.heap.size w w') : Handle w' := (hb.cell (World.block_lt_of_cell? w _ h)).trans h

end Go.Proofs.YthjhaogfpdkhbaaDoor.B
/- Errors of all kinds: none, a sentinel, a rule's; kit.Kind and kit.Rule of them; told by a number (kind + 16 * (rule + 1)). -/
namespace Go.Proofs.YthjhaogfpdkhbaaDoor.F
open Go.RowKit YthjhaogfpdkhbaaDoorW.PrintWords YthjhaogfpdkhbaaDoorW.PrintLast YthjhaogfpdkhbaaDoorW.PrintMore
open B E

def ErrW (ad : Int → Addr) (w : World) (v : Value) (p : Int × Int) : Prop :=
 (p.1 = 0 ∧ p.2 = -1 ∧ v = .nilIface) ∨ ((1 ≤ p.1 ∧ p.1 ≤ 15) ∧ p.2 = -1 ∧ v = .iface 178 (.pointer (some (ad p.1)))) ∨
 ((1 ≤ p.1 ∧ p.1 ≤ 15) ∧ 0 ≤ p.2 ∧ p.2 < 1000 ∧ ∃ b, v = .iface 126 (.pointer (some ⟨b, 0, none⟩)) ∧ w.heap[b]? = some (.cells #[.int .i64 p.2, .iface 178 (.pointer (some (ad p.1)))] 128 (0, 0)))
theorem ErrW.of {ad : Int → Addr} {w : World} {v : Value} {p : Int × Int} (h : ErrV ad w v p) : ErrW ad w v p := by
 rcases h with h | ⟨h1, h2, h3⟩ | ⟨h1, h2, h3, h4⟩
 · exact .inl h
 · exact .inr (.inl ⟨by omega, h2, h3⟩)
 · exact .inr (.inr ⟨by omega, h2, by omega, h4⟩)
theorem ErrW.below {ad : Int → Addr} {w w' : World} {v : Value} {p : Int × Int} (h : ErrW ad w v p) (hb : Below w.heap.size w w') : ErrW ad w' v p := by
 rcases h with h | h | ⟨h1, h2, h3, b, hv, hx⟩
 · exact .inl h
 · exact .inr (.inl h)
 · exact .inr (.inr ⟨h1, h2, h3, b, hv, Box.below (W := w) (W' := w') hx hb⟩)
theorem ErrW.nil {ad : Int → Addr} {w : World} {v : Value} {p : Int × Int} (h : ErrW ad w v p) (h0 : p.1 = 0) : v = .nilIface := by
 rcases h with h | h | h
 · exact h.2.2
 · have := h.1; omega
 · have := h.1; omega
theorem ErrW.any {ad : Int → Addr} {w : World} {v : Value} {p : Int × Int} (h : ErrW ad w v p) (h0 : p.1 ≠ 0) : ∃ t u, v = .iface t u := by
 rcases h with h | h | h
 · exact absurd h.1 h0
 · exact ⟨_, _, h.2.2⟩
 · obtain ⟨_, _, _, b, h, _⟩ := h; exact ⟨_, _, h⟩
theorem ErrW.sent {ad : Int → Addr} {w : World} {k : Int} (h1 : 1 ≤ k) (h2 : k ≤ 15) : ErrW ad w (.iface 178 (.pointer (some (ad k)))) (k, -1) := .inr (.inl ⟨⟨h1, h2⟩, rfl, rfl⟩)
theorem Kind_w {ad : Int → Addr} {w : World} (hs : SentsK ad w) {v : Value} {p : Int × Int} (hv : ErrW ad w v p) : Calls Tryd.prog 14 #[v] w fun e w' => e = .returned (.int .i64 p.1) ∧ Below w.heap.size w w' := by
 rcases hv with ⟨h0, _, rfl⟩ | ⟨h1, _, rfl⟩ | ⟨h1, _, _, b, rfl, hx⟩
 · rw [h0]; exact Kind_nil w
 · exact Kind_any ad _ _ p.1 h1.1 h1.2 w hs (IsK.sent hs p.1 h1.1 h1.2)
 · exact Kind_any ad _ _ p.1 h1.1 h1.2 w hs (IsK.rule hs p.1 h1.1 h1.2 b (Box.cell (W := w) hx 1 _ rfl))
def encE (p : Int × Int) : Option Int := if p.1 = 0 then none else some (p.1 + 16 * (p.2 + 1))
def kindE : Option Int → Int
 | none => 0
 | some c => c % 16
def ruleE : Option Int → Int
 | none => -1
 | some c => c / 16 - 1
def ErrF (ad : Int → Addr) (w : World) (v : Value) (r : Option Int) : Prop := ∃ p, ErrW ad w v p ∧ r = encE p
theorem ErrF.below {ad : Int → Addr} {w w' : World} {v : Value} {r : Option Int} (h : ErrF ad w v r) (hb : Below w.heap.size w w') : ErrF ad w' v r := by
 obtain ⟨p, h1, h2⟩ := h
 exact ⟨p, h1.below hb, h2⟩
theorem SentsK.three {ad : Int → Addr} {w : World} (h : SentsK ad w) : Go.Proofs.YthjhaogfpdkhbaaDoor.B.Sents ad w := by
 obtain ⟨⟨h1, h2, h3, h4, h5, h6, h7, h8, h9, h10, h11, h12, h13, h14, h15⟩, _, _⟩ := h
 exact ⟨h3, h10, h1⟩
theorem Check_any (ad : Int → Addr) (A0 : Option Addr) (c0 : Nat) (l0 : List ByteArray) (A1 : Option Addr) (c1 : Nat) (l1 : List ByteArray) (a2 : Int) (A3 : Option Addr) (c3 : Nat) (l3 : List S52) (w : World) (hs : SentsK ad w) (hr0 : Kd.C Kd.string w A0 l0.length l0) (hc0 : l0.length ≤ c0) (hr1 : Kd.C Kd.string w A1 l1.length l1) (hc1 : l1.length ≤ c1) (hr3 : Kd.C k52 w A3 l3.length l3) (hc3 : l3.length ≤ c3) :
 Calls Tryd.prog 51 #[.agg #[.slice A0 l0.length c0, .slice A1 l1.length c1, .int .i64 a2, .slice A3 l3.length c3]] w fun e w' => (∃ v, e = .returned v ∧ ErrV ad w' v (chk (namesOK l0) (namesOK l1) l0.length l1.length a2 l3)) ∧ Below w.heap.size w w' := by
 have m0 := C_max hr0
 have m1 := C_max hr1
 exact Check_full ad _ A0 c0 l0 A1 c1 l1 a2 A3 c3 l3 _ _ w (SentsK.three hs) hr0 hc0 hr1 hc1 hr3 hc3 (Names_f l0 (l0.length + l0.length + l1.length + l1.length + 2) m0 (by omega)) (Names_f l1 (l0.length + l0.length + l1.length + l1.length + 2) m1 (by omega))
def dovetailkit_Kind.f (a0 : Option Int) : Option Int := some (kindE a0)
def dovetailkit_Rule.f (a0 : Option Int) : Option Int := some (ruleE a0)
end Go.Proofs.YthjhaogfpdkhbaaDoor.F
/- show.Rule, show.Readable: walked. -/
namespace Go.Proofs.YthjhaogfpdkhbaaDoor.Sh
open Go.RowKit YthjhaogfpdkhbaaDoorW.PrintWords YthjhaogfpdkhbaaDoorW.PrintLast YthjhaogfpdkhbaaDoorW.PrintMore
open B H F

theorem sent_long {ad : Int → Addr} {w : World} (h : SentsK ad w) : w.cell? ⟨0, 0, none⟩ = some (.iface 178 (.pointer (some (ad 12)))) := by
 obtain ⟨⟨h1, h2, h3, h4, h5, h6, h7, h8, h9, h10, h11, h12, h13, h14, h15⟩, _, _⟩ := h
 exact h12
theorem GS.alloc {w W : World} {cs : Array Value} (h : GS w cs W) (o : Obj) : GS w cs (W.alloc o) := h.more ((Below.refl _ W).alloc (Nat.le_refl _) o)
theorem GS.lt {w W : World} {cs : Array Value} (h : GS w cs W) : w.heap.size < W.heap.size := by
 have h2 : W.heap[w.heap.size]? = some (.cells cs 25 (0, 0)) := h.2
 rcases Nat.lt_or_ge w.heap.size W.heap.size with h1 | h1
 · exact h1
 · rw [Array.getElem?_eq_none h1] at h2; cases h2
end Go.Proofs.YthjhaogfpdkhbaaDoor.Sh
/- kit.Ints, kit.Strings: are two the same? (taken from GramSm and GramKi, for seats without rules' ties) -/
namespace Go.Proofs.YthjhaogfpdkhbaaDoor.B
open Go.RowKit YthjhaogfpdkhbaaDoorW.PrintWords YthjhaogfpdkhbaaDoorW.PrintLast YthjhaogfpdkhbaaDoorW.PrintMore

theorem wrap_succ (i : Nat) (h : i < 9223372036854775807) : wrap64 ((i : Int) + 1) = ((i + 1 : Nat) : Int) := by unfold wrap64; omega
theorem toList_eq (a b : ByteArray) : a.toList = b.toList ↔ a = b := by
 constructor
 · intro h
   rw [ByteArray.toList_eq, ByteArray.toList_eq] at h
   have := Array.ext' h
   cases a; cases b; simp_all
 · rintro rfl; rfl

theorem rd_nat (l : List Int) (i : Nat) (h : i < l.length) : rd l (i : Int) = l[i] := by simp [rd, List.getD_eq_getElem?_getD, List.getElem?_eq_getElem h]
theorem rdS_nat (l : List ByteArray) (i : Nat) (h : i < l.length) : rdOf ByteArray.empty l (i : Int) = l[i] := by simp [rdOf, List.getD_eq_getElem?_getD, List.getElem?_eq_getElem h]
theorem KInts_l (l0 l1 : List Int) (hl : l0.length = l1.length) (hm : l0.length ≤ 9223372036854775807) : ∀ (d i k : Nat), l0.length - i = d → i ≤ l0.length → d < k → dovetailkit_Ints.l0 k l0 l1 (i : Int) = some (decide (l0.drop i = l1.drop i)) := by
 intro d
 induction d with
 | zero =>
  intro i k hi hle hk
  obtain ⟨k, rfl⟩ : ∃ j, k = j + 1 := ⟨k - 1, by omega⟩
  have : i = l0.length := by omega
  subst this
  rw [dovetailkit_Ints.l0, if_neg (by omega), List.drop_length, hl, List.drop_length]
  simp
 | succ d ih =>
  intro i k hi hle hk
  obtain ⟨k, rfl⟩ : ∃ j, k = j + 1 := ⟨k - 1, by omega⟩
  have hlt : i < l0.length := by omega
  have hlt1 : i < l1.length := by omega
  rw [dovetailkit_Ints.l0, if_pos (by omega), if_pos (by omega), if_pos (by omega), List.drop_eq_getElem_cons hlt, List.drop_eq_getElem_cons hlt1, rd_nat l0 i hlt, rd_nat l1 i hlt1]
  by_cases he : l0[i] = l1[i]
  · rw [if_pos he, wrap_succ i (by omega), ih (i + 1) k (by omega) (by omega) (by omega)]
    rw [he]; congr 1; rw [decide_eq_decide]; simp only [List.cons.injEq, true_and]
  · rw [if_neg he]; congr 1; symm; rw [decide_eq_false_iff_not]; intro h; exact he (List.cons.inj h).1
theorem KInts_f (l0 l1 : List Int) (k : Nat) (hm : l0.length ≤ 9223372036854775807) (hk : l0.length < k) : dovetailkit_Ints.f k l0 l1 = some (decide (l0 = l1)) := by
 unfold dovetailkit_Ints.f
 by_cases h : l0.length = l1.length
 · rw [if_pos (by omega)]
   have := KInts_l l0 l1 h hm l0.length 0 k (by omega) (by omega) hk
   simpa using this
 · rw [if_neg (by omega)]
   have : l0 ≠ l1 := fun e => h (by rw [e])
   simp [this]
theorem KStrings_l (l0 l1 : List ByteArray) (hl : l0.length = l1.length) (hm : l0.length ≤ 9223372036854775807) : ∀ (d i k : Nat), l0.length - i = d → i ≤ l0.length → d < k → dovetailkit_Strings.l0 k l0 l1 (i : Int) = some (decide (l0.drop i = l1.drop i)) := by
 intro d
 induction d with
 | zero =>
  intro i k hi hle hk
  obtain ⟨k, rfl⟩ : ∃ j, k = j + 1 := ⟨k - 1, by omega⟩
  have : i = l0.length := by omega
  subst this
  rw [dovetailkit_Strings.l0, if_neg (by omega), List.drop_length, hl, List.drop_length]
  simp
 | succ d ih =>
  intro i k hi hle hk
  obtain ⟨k, rfl⟩ : ∃ j, k = j + 1 := ⟨k - 1, by omega⟩
  have hlt : i < l0.length := by omega
  have hlt1 : i < l1.length := by omega
  rw [dovetailkit_Strings.l0, if_pos (by omega), if_pos (by omega), if_pos (by omega), List.drop_eq_getElem_cons hlt, List.drop_eq_getElem_cons hlt1, rdS_nat l0 i hlt, rdS_nat l1 i hlt1]
  by_cases he : l0[i] = l1[i]
  · rw [if_pos ((toList_eq _ _).2 he), wrap_succ i (by omega), ih (i + 1) k (by omega) (by omega) (by omega)]
    rw [he]; congr 1; rw [decide_eq_decide]; simp only [List.cons.injEq, true_and]
  · rw [if_neg (fun h => he ((toList_eq _ _).1 h))]; congr 1; symm; rw [decide_eq_false_iff_not]; intro h; exact he (List.cons.inj h).1
theorem KStrings_f (l0 l1 : List ByteArray) (k : Nat) (hm : l0.length ≤ 9223372036854775807) (hk : l0.length < k) : dovetailkit_Strings.f k l0 l1 = some (decide (l0 = l1)) := by
 unfold dovetailkit_Strings.f
 by_cases h : l0.length = l1.length
 · rw [if_pos (by omega)]
   have := KStrings_l l0 l1 h hm l0.length 0 k (by omega) (by omega) hk
   simpa using this
 · rw [if_neg (by omega)]
   have : l0 ≠ l1 := fun e => h (by rw [e])
   simp [this]
end Go.Proofs.YthjhaogfpdkhbaaDoor.B
/- What Lent and Kept stand on, in this seat. -/

/- kit.Lent..: lists in memory of their own, a mark behind each. -/
namespace Go.Proofs.YthjhaogfpdkhbaaDoor.B
open Go.RowKit YthjhaogfpdkhbaaDoorW.PrintWords YthjhaogfpdkhbaaDoorW.PrintLast YthjhaogfpdkhbaaDoorW.PrintMore

def kmx : Kd (List Int × Bool) where
 sz := 1
 E := [3]
 K := fun w x cs => ∃ A c, cs = [.slice A x.1.length c] ∧ match x.2 with
  | true => x.1.length + 1 ≤ c ∧ Kd.C (Kd.int .i64) w A (x.1.length + 1) (x.1 ++ [-7171])
  | false => x.1.length ≤ c ∧ Kd.C (Kd.int .i64) w A x.1.length x.1
 M := fun w base ok x cs => ∃ A c, cs = [.slice A x.1.length c] ∧ match x.2 with
  | true => Kd.R (Kd.int .i64) 3 w base ok (.slice A (x.1.length + 1) c) (x.1 ++ [-7171])
  | false => Kd.R (Kd.int .i64) 3 w base ok (.slice A x.1.length c) x.1
 K_len := by
  rintro w x cs ⟨A, c, rfl, _⟩
  rfl
 K_one := by
  rintro w x cs ⟨A, c, rfl, _⟩ u hu
  rw [List.mem_singleton.1 hu]
  rfl
 K_below := by
  rintro w w1 ⟨xs, b⟩ cs hb ⟨A, c, rfl, h⟩
  cases b
  · exact ⟨A, c, rfl, h.1, Kd.C_below h.2 hb⟩
  · exact ⟨A, c, rfl, h.1, Kd.C_below h.2 hb⟩
 K_of_M := by
  rintro w base ok ⟨xs, b⟩ cs ⟨A, c, rfl, h⟩
  cases b
  · exact ⟨A, c, rfl, (Kd.R_reads' h).2⟩
  · have := Kd.R_reads' h
    rw [List.length_append, List.length_singleton] at this
    exact ⟨A, c, rfl, this.2⟩
 M_mono := by
  rintro w base ok ok' ⟨xs, b⟩ cs hok ⟨A, c, rfl, h⟩
  cases b
  · exact ⟨A, c, rfl, Kd.R_mono h hok⟩
  · exact ⟨A, c, rfl, Kd.R_mono h hok⟩
 M_bound := by
  rintro w base ok ⟨xs, b⟩ cs ⟨A, c, rfl, h⟩
  cases b
  · exact ⟨A, c, rfl, Kd.R_bound h⟩
  · exact ⟨A, c, rfl, Kd.R_bound h⟩
 M_move := by
  rintro w w1 base ok ⟨xs, b⟩ cs hm ⟨A, c, rfl, h⟩
  cases b
  · exact ⟨A, c, rfl, Kd.R_move h hm⟩
  · exact ⟨A, c, rfl, Kd.R_move h hm⟩
 M_lower := by
  rintro w base base' ok ⟨xs, b⟩ cs hb ⟨A, c, rfl, h⟩
  cases b
  · exact ⟨A, c, rfl, Kd.R_lower h hb⟩
  · exact ⟨A, c, rfl, Kd.R_lower h hb⟩
def kRx : Kd (S52 × Bool) := Kd.iso (Kd.pair (Kd.int .i64) kmx) (fun x => (x.1.f0, (x.1.f1, x.2)))
theorem C_pre {α : Type} {d : Kd α} {w : World} {A : Option Addr} {xs ys : List α} {n : Nat} (h : d.C w A n (xs ++ ys)) : d.C w A xs.length xs := by
 refine ⟨rfl, by have := h.1; have := h.2.1; rw [List.length_append] at *; omega, fun hp => ?_⟩
 obtain ⟨ad, e, hc⟩ := h.2.2 (by have := h.1; rw [List.length_append] at this; omega)
 refine ⟨ad, e, fun j p hj => hc j p ?_⟩
 have hlt := (List.getElem?_eq_some_iff.1 hj).1
 rw [List.getElem?_append_left hlt]; exact hj
theorem C_imp {α β : Type} {d : Kd α} {d' : Kd β} {w : World} {A : Option Addr} {n : Nat} {xs : List α} (f : α → β) (h : d.C w A n xs) (hs : d.sz = d'.sz) (hK : ∀ x c, x ∈ xs → d.K w x c → d'.K w (f x) c) : d'.C w A n (xs.map f) := by
 refine ⟨by rw [List.length_map]; exact h.1, h.2.1, fun hp => ?_⟩
 obtain ⟨ad, e, hc⟩ := h.2.2 hp
 refine ⟨ad, e, fun j p hj => ?_⟩
 rw [List.getElem?_map] at hj
 obtain ⟨x, hx, rfl⟩ := Option.map_eq_some_iff.1 hj
 obtain ⟨c, h1, h2, h3⟩ := hc j x hx
 exact ⟨c, by rw [← hs]; exact h1, hK x c (List.mem_of_getElem? hx) h2, by rw [← hs]; exact h3⟩
def mk1 (l : List S52) : List (S52 × Bool) := l.map fun x => (x, true)
theorem mk1_length (l : List S52) : (mk1 l).length = l.length := by simp [mk1]
def MR (w : World) (A : Option Addr) (c : Nat) (l : List S52) : Prop := l.length + 1 ≤ c ∧ Kd.C kRx w A (l.length + 1) (mk1 l ++ [(⟨-7171, []⟩, false)])
theorem MR.below {w w' : World} {A : Option Addr} {c : Nat} {l : List S52} (h : MR w A c l) (hb : Below w.heap.size w w') : MR w' A c l := ⟨h.1, Kd.C_below h.2 hb⟩
theorem MR.of {w : World} {base : Nat} {ok : Nat → Prop} {A : Option Addr} {c : Nat} {l : List S52} (h : Kd.R kRx 52 w base ok (.slice A (l.length + 1) c) (mk1 l ++ [((⟨-7171, []⟩ : S52), false)])) : MR w A c l := by
 have h1 := Kd.R_reads' h
 refine ⟨h1.2.1, ?_⟩
 rw [h1.1]; exact h1.2.2
theorem kRx_K {w : World} {x : S52} {cs : List Value} (h : kRx.K w (x, true) cs) : k52.K w x cs := by
 obtain ⟨a, b, rfl, h1, A, c, rfl, h2, h3⟩ := h
 dsimp only at h2 h3
 exact ⟨a, _, rfl, h1, A, c, rfl, by dsimp only; omega, C_pre h3⟩
theorem MR.reads {w : World} {A : Option Addr} {c : Nat} {l : List S52} (h : MR w A c l) : Kd.C k52 w A l.length l := by
 have h1 := C_pre h.2
 rw [mk1_length] at h1
 have h2 := C_imp (d := kRx) (d' := k52) (fun x => x.1) h1 rfl (fun x c hx hk => by
  obtain ⟨y, _, rfl⟩ := List.mem_map.1 hx
  exact kRx_K hk)
 have : (mk1 l).map (fun x => x.1) = l := List.ext_getElem (by simp [mk1]) (fun i h1 h2 => by simp [mk1])
 rwa [this] at h2

set_option maxHeartbeats 4000000 in
set_option maxRecDepth 100000 in
theorem LentInts_m (A0 : Option Addr) (c0 : Nat) (l : List Int) (w : World) (hr : Kd.C (Kd.int .i64) w A0 l.length l) (hl : l.length < 17592186044415) :
 Calls Tryd.prog 11 #[.slice A0 l.length c0] w fun e w' => ∃ A c, e = .returned (.slice A l.length c) ∧ Aside0 (Kd.R (Kd.int .i64) 3 w' w.heap.size (fun _ => True) (.slice A (l.length + 1) c) (l ++ [(-7171)]) ∧ Below w.heap.size w w') := by
 obtain ⟨y1, hy1⟩ : ∃ y_ : List Int, y_ = ([] : List Int) ++ l := ⟨_, rfl⟩
 obtain ⟨y2, hy2⟩ : ∃ y_ : List Int, y_ = y1 ++ [(-7171)] := ⟨_, rfl⟩
 have q8 : y1.length < 17592186044415 := by rw [hy1]; simpa using hl
 have q9 : ((l.length : Int)) ≤ ((y2.length : Int)) := by rw [hy2, hy1]; simp; omega
 have q7 : ([] : List Int).length + l.length < 17592186044415 := by simpa using hl
 have hy3 : y2.length = l.length + 1 := by rw [hy2, hy1]; simp
 have hy4 : y2 = l ++ [(-7171)] := by rw [hy2, hy1]; simp
 have HR0 := Aside0.mk hr
 have HB := Aside0.mk (Below.refl w.heap.size w)
 have N1 := Aside0.mk hy1
 have N2 := Aside0.mk hy2
 have N3 := Aside0.mk hy3
 have N4 := Aside0.mk hy4
 have Q7 := Aside0.mk q7
 have Q8 := Aside0.mk q8
 have Q9 := Aside0.mk q9
 clear hr hy1 hy2 hy3 hy4 q7 q8 q9 hl
 go_enter Tryd.func11, Tryd.ntmps11
 go_wp2_with (first
  | ((with_reducible refine gate_builtin (b := .append) (xs := #[.tmp 4, .tmp 5]) rfl ?_); at_builtin; refine Kd.R_append_rows (Kd.int .i64) (w0 := w) w.heap.size rfl (.tmp 4) (.tmp 5) 26 3 (.int .i64 0) 8 rfl Tryd.underlying26 info3 rfl (by decide) (by omega) (.slice none 0 0) ([] : List Int) l _ _ _ (fun _ => True) (fun _ => False) rfl rfl ?aO ?aR (fun _ _ h => h) (fun _ h => h.elim) ?aF ?aB ?aS ?aL ?_; (case aR => exact HR0.out); (case aB => exact HB.out); (case aF => exact (fun _ _ => trivial)); (case aO => exact ((Kd.R_nil _ _ _ _ (fun _ => True)))); (case aS => exact Nat.le_refl _); (case aL => have := Q7.out; omega); intro v1 w1 ho hb hg hat; rw [← N1.out] at ho; have n0_ := Aside0.mk hb; have n1_ := Aside0.mk ho; clear HB; have HB := n0_; have HO1 := n1_; clear n0_ n1_ ho hb hg hat)
  | ((with_reducible refine gate_builtin (b := .append) (xs := #[.tmp 7, .tmp 8]) rfl ?_); at_builtin; refine Kd.R_append (Kd.int .i64) (w0 := w) w.heap.size rfl (.tmp 7) (.tmp 8) 26 3 (.int .i64 0) 8 rfl Tryd.underlying26 info3 rfl (by decide) (by omega) v1 y1 (-7171) [.int .i64 (-7171)] (fun _ => True) (fun _ => False) rfl rfl ?aP (fun _ hk => hk.elim) ?aF ?aO ?aB ?aS ?aL ?_; (case aP => exact rfl); (case aB => exact HB.out); (case aF => exact (fun _ _ => trivial)); (case aO => exact HO1.out); (case aS => exact (below_size HB.out)); (case aL => have := Q8.out; omega); intro v2 w2 ho hb hg hat; rw [← N2.out] at ho; have n0_ := Aside0.mk hb; have n1_ := Aside0.mk ho; clear HB HO1; have HB := n0_; have HO2 := n1_; clear n0_ n1_ ho hb hg hat; obtain ⟨Ao, co, eo⟩ := Kd.R_slice HO2.out; subst eo; obtain ⟨i0, hi0, _, hsz0, _⟩ := info_parts info3; have hcut := cut_to (P := Tryd.prog) 26 3 .i64 Tryd.underlying26 hi0 Ao y2.length co (l.length : Int) (by omega) Q9.out (Kd.R_reads' HO2.out).2.1; clear hi0 hsz0))
 go_ret
 refine ⟨Ao, co, rfl, ⟨?_, HB.out⟩⟩
 have h := HO2.out
 rw [N3.out] at h
 rw [← N4.out]
 exact h

set_option maxHeartbeats 4000000 in
set_option maxRecDepth 100000 in
theorem LentStrings_m (A0 : Option Addr) (c0 : Nat) (l : List ByteArray) (w : World) (hr : Kd.C Kd.string w A0 l.length l) (hl : l.length < 8796093022207) :
 Calls Tryd.prog 49 #[.slice A0 l.length c0] w fun e w' => ∃ A c, e = .returned (.slice A l.length c) ∧ Aside0 (Kd.R Kd.string 9 w' w.heap.size (fun _ => True) (.slice A (l.length + 1) c) (l ++ [(⟨#[109, 97, 114, 107]⟩ : ByteArray)]) ∧ Below w.heap.size w w') := by
 obtain ⟨y1, hy1⟩ : ∃ y_ : List ByteArray, y_ = ([] : List ByteArray) ++ l := ⟨_, rfl⟩
 obtain ⟨y2, hy2⟩ : ∃ y_ : List ByteArray, y_ = y1 ++ [(⟨#[109, 97, 114, 107]⟩ : ByteArray)] := ⟨_, rfl⟩
 have q8 : y1.length < 8796093022207 := by rw [hy1]; simpa using hl
 have q9 : ((l.length : Int)) ≤ ((y2.length : Int)) := by rw [hy2, hy1]; simp; omega
 have q7 : ([] : List ByteArray).length + l.length < 8796093022207 := by simpa using hl
 have hy3 : y2.length = l.length + 1 := by rw [hy2, hy1]; simp
 have hy4 : y2 = l ++ [(⟨#[109, 97, 114, 107]⟩ : ByteArray)] := by rw [hy2, hy1]; simp
 have HR0 := Aside0.mk hr
 have HB := Aside0.mk (Below.refl w.heap.size w)
 have N1 := Aside0.mk hy1
 have N2 := Aside0.mk hy2
 have N3 := Aside0.mk hy3
 have N4 := Aside0.mk hy4
 have Q7 := Aside0.mk q7
 have Q8 := Aside0.mk q8
 have Q9 := Aside0.mk q9
 clear hr hy1 hy2 hy3 hy4 q7 q8 q9 hl
 go_enter Tryd.func49, Tryd.ntmps49
 go_wp2_with (first
  | ((with_reducible refine gate_builtin (b := .append) (xs := #[.tmp 4, .tmp 5]) rfl ?_); at_builtin; refine Kd.R_append_rows Kd.string (w0 := w) w.heap.size rfl (.tmp 4) (.tmp 5) 22 9 (.string ⟨#[]⟩) 16 rfl Tryd.underlying22 info9 rfl (by decide) (by omega) (.slice none 0 0) ([] : List ByteArray) l _ _ _ (fun _ => True) (fun _ => False) rfl rfl ?aO ?aR (fun _ _ h => h) (fun _ h => h.elim) ?aF ?aB ?aS ?aL ?_; (case aR => exact HR0.out); (case aB => exact HB.out); (case aF => exact (fun _ _ => trivial)); (case aO => exact ((Kd.R_nil _ _ _ _ (fun _ => True)))); (case aS => exact Nat.le_refl _); (case aL => have := Q7.out; omega); intro v1 w1 ho hb hg hat; rw [← N1.out] at ho; have n0_ := Aside0.mk hb; have n1_ := Aside0.mk ho; clear HB; have HB := n0_; have HO1 := n1_; clear n0_ n1_ ho hb hg hat)
  | ((with_reducible refine gate_builtin (b := .append) (xs := #[.tmp 7, .tmp 8]) rfl ?_); at_builtin; refine Kd.R_append Kd.string (w0 := w) w.heap.size rfl (.tmp 7) (.tmp 8) 22 9 (.string ⟨#[]⟩) 16 rfl Tryd.underlying22 info9 rfl (by decide) (by omega) v1 y1 (⟨#[109, 97, 114, 107]⟩ : ByteArray) [.string ⟨#[109, 97, 114, 107]⟩] (fun _ => True) (fun _ => False) rfl rfl ?aP (fun _ hk => hk.elim) ?aF ?aO ?aB ?aS ?aL ?_; (case aP => exact rfl); (case aB => exact HB.out); (case aF => exact (fun _ _ => trivial)); (case aO => exact HO1.out); (case aS => exact (below_size HB.out)); (case aL => have := Q8.out; omega); intro v2 w2 ho hb hg hat; rw [← N2.out] at ho; have n0_ := Aside0.mk hb; have n1_ := Aside0.mk ho; clear HB HO1; have HB := n0_; have HO2 := n1_; clear n0_ n1_ ho hb hg hat; obtain ⟨Ao, co, eo⟩ := Kd.R_slice HO2.out; subst eo; obtain ⟨i0, hi0, _, hsz0, _⟩ := info_parts info9; have hcut := cut_to (P := Tryd.prog) 22 9 .i64 Tryd.underlying22 hi0 Ao y2.length co (l.length : Int) (by omega) Q9.out (Kd.R_reads' HO2.out).2.1; clear hi0 hsz0))
 go_ret
 refine ⟨Ao, co, rfl, ⟨?_, HB.out⟩⟩
 have h := HO2.out
 rw [N3.out] at h
 rw [← N4.out]
 exact h

set_option maxHeartbeats 8000000 in
set_option maxRecDepth 100000 in
theorem LentRules_m (A0 : Option Addr) (c0 : Nat) (l : List S52) (w : World) (hr : Kd.C k52 w A0 l.length l) (hl : l.length < 4398046511104) (hx : ∀ x ∈ l, x.f1.length < 17592186044415) :
 Calls Tryd.prog 50 #[.slice A0 l.length c0] w fun e w' => ∃ A c, e = .returned (.slice A l.length c) ∧ Aside0 (Kd.R kRx 52 w' w.heap.size (fun _ => True) (.slice A (l.length + 1) c) (mk1 l ++ [((⟨-7171, []⟩ : S52), false)]) ∧ Below w.heap.size w w') := by
 have HR0 := Aside0.mk hr
 have HX := Aside0.mk hx
 have HL := Aside0.mk hl
 have hm := C_max hr
 have HU := Aside0.mk (show True from trivial)
 clear hr hx hl
 go_enter Tryd.func50, Tryd.ntmps50
 go_wp2_with fail
 go_loopw [3, 4, 5] (fun v i _ wr => ∃ k : Nat, k ≤ l.length ∧ i = .int .i64 k ∧ Aside0 (Kd.R kRx 52 wr w.heap.size (fun _ => True) v (mk1 (l.take k)) ∧ Below w.heap.size w wr)) (fun _ i _ _ => l.length - (intOf i).toNat)
 case atStart => exact ⟨0, Nat.zero_le _, rfl, ⟨by simpa [mk1] using Kd.R_nil kRx _ w w.heap.size (fun _ => True), Below.refl _ w⟩⟩
 case round =>
  obtain ⟨k, hk, rfl, tr⟩ := hrel
  by_cases hlt : k < l.length
  · obtain ⟨ad, A, c, rfl, h0, h1, h2, h3⟩ := at_T52 (Kd.C_below HR0.out tr.out.2) (k : Int) (by omega) (by omega)
    have q0 : rd_T52 l (k : Int) = l[k] := by simp [rd_T52, List.getD_eq_getElem?_getD, List.getElem?_eq_getElem hlt]
    have hxk := HX.out l[k] (List.getElem_mem hlt)
    have hnx : mk1 (l.take (k + 1)) = mk1 (l.take k) ++ [(l[k], true)] := by rw [mk1, List.take_succ_eq_append_getElem hlt, List.map_append]; rfl
    rw [Int.toNat_natCast] at h0 h1
    rw [q0] at h0 h1 h2 h3
    generalize l[k] = x at h0 h1 h2 h3 hxk hnx
    have hcall : Calls Tryd.prog 11 #[.slice A x.f1.length c] wr fun e w' => ∃ A' c', e = .returned (.slice A' x.f1.length c') ∧ Aside0 (Kd.R (Kd.int .i64) 3 w' w.heap.size (fun k_ => some k_ = (.slice A' (x.f1.length + 1) c' : Value).ownBlock) (.slice A' (x.f1.length + 1) c') (x.f1 ++ [-7171]) ∧ Kd.R kRx 52 w' w.heap.size (fun _ => True) u3 (mk1 (l.take k)) ∧ Below w.heap.size w w') ∧ w'.cell? (ad.add (k * 2)) = some (.int .i64 x.f0) := by
     refine (LentInts_m A c x.f1 wr h3 hxk).mono ?_
     rintro e w' ⟨A', c', rfl, h⟩
     exact ⟨A', c', rfl, ⟨Kd.R_lower (Kd.R_tight rfl h.out.1) (below_size tr.out.2), Kd.R_below tr.out.1 h.out.2, tr.out.2.trans (h.out.2.mono (below_size tr.out.2))⟩, (h.out.2.cell (World.block_lt_of_cell? wr _ h0)).trans h0⟩
    have HC := Aside0.mk hcall
    have HN := Aside0.mk hnx
    clear hcall h2 h3 q0 hxk hnx
    go_wp2_with (first
     | (go_at_call 11; (with_reducible refine HC.out.mono ?_); rintro e w6 ⟨A', c', rfl, t6, e0⟩)
     | ((with_reducible refine gate_builtin (b := .append) (xs := #[.tmp 18, .tmp 26]) rfl ?_); at_builtin; refine Kd.R_append kRx (w0 := w) w.heap.size rfl (.tmp 18) (.tmp 26) 23 52 (.agg #[(.int .i64 0), (.slice none 0 0)]) 32 rfl Tryd.underlying23 info52 rfl (by decide) (by omega) u3 (mk1 (l.take k)) (x, true) [.int .i64 x.f0, .slice A' x.f1.length c'] (fun _ => True) (fun k_ => some k_ = (.slice A' (x.f1.length + 1) c' : Value).ownBlock) rfl rfl ?aP ?aA ?aF ?aO ?aB ?aS ?aL ?_; (case aP => exact ⟨[.int .i64 x.f0], [.slice A' x.f1.length c'], rfl, rfl, A', c', rfl, t6.out.1⟩); (case aA => exact (fun k_ hk_ => ⟨trivial, ((Kd.R_apart' t6.out.1 (Kd.R_typed t6.out.2.1) (by decide)).1 k_ hk_.symm).2⟩)); (case aB => exact t6.out.2.2); (case aF => exact (fun _ _ => trivial)); (case aO => exact t6.out.2.1); (case aS => exact (below_size t6.out.2.2)); (case aL => have := HL.out; simp only [mk1_length, List.length_take]; omega); intro v8 w8 ho hb hg hat; rw [← HN.out] at ho; have n0_ := Aside0.mk hb; have n1_ := Aside0.mk ho; clear ho hb hg hat))
    go_roundw
    case measure => simp [intOf]; omega
    case rel => exact ⟨k + 1, by omega, rfl, ⟨n1_.out, n0_.out⟩⟩
  · have hkn : k = l.length := by omega
    subst hkn
    have h1 : Kd.R kRx 52 wr w.heap.size (fun _ => True) u3 (mk1 l) := by have := tr.out.1; rwa [List.take_length] at this
    obtain ⟨y2, hy2⟩ : ∃ y_, y_ = mk1 l ++ [((⟨-7171, []⟩ : S52), false)] := ⟨_, rfl⟩
    have q9 : ((l.length : Int)) ≤ ((y2.length : Int)) := by rw [hy2]; simp [mk1_length]; omega
    have hy3 : y2.length = l.length + 1 := by rw [hy2]; simp [mk1_length]
    have N2 := Aside0.mk hy2
    have N3 := Aside0.mk hy3
    have Q9 := Aside0.mk q9
    have H1 := Aside0.mk h1
    clear hy2 hy3 q9 h1
    go_wp2_with (first
     | ((with_reducible refine gate_builtin (b := .append) (xs := #[.tmp 28, .tmp 30]) rfl ?_); at_builtin; refine Kd.R_append kRx (w0 := w) w.heap.size rfl (.tmp 28) (.tmp 30) 23 52 (.agg #[(.int .i64 0), (.slice none 0 0)]) 32 rfl Tryd.underlying23 info52 rfl (by decide) (by omega) u3 (mk1 l) ((⟨-7171, []⟩ : S52), false) [.int .i64 (-7171), .slice none 0 0] (fun _ => True) (fun _ => False) rfl rfl ?aP (fun k_ hk_ => hk_.elim) ?aF ?aO ?aB ?aS ?aL ?_; (case aP => exact ⟨[.int .i64 (-7171)], [.slice none 0 0], rfl, rfl, none, 0, rfl, Kd.R_nil _ _ _ _ _⟩); (case aB => exact tr.out.2); (case aF => exact (fun _ _ => trivial)); (case aO => exact H1.out); (case aS => exact (below_size tr.out.2)); (case aL => have := HL.out; simp only [mk1_length]; omega); intro v2 w2 ho hb hg hat; rw [← N2.out] at ho; have n0_ := Aside0.mk hb; have n1_ := Aside0.mk ho; clear ho hb hg hat; obtain ⟨Ao, co, eo⟩ := Kd.R_slice n1_.out; subst eo; obtain ⟨i0, hi0, _, hsz0, _⟩ := info_parts info52; have hcut := cut_to (P := Tryd.prog) 23 52 .i64 Tryd.underlying23 hi0 Ao y2.length co (l.length : Int) (by omega) Q9.out (Kd.R_reads' n1_.out).2.1; clear hi0 hsz0))
    go_ret
    refine ⟨Ao, co, rfl, ⟨?_, n0_.out⟩⟩
    have h := n1_.out
    rw [N3.out] at h
    rw [← N2.out]
    exact h
end Go.Proofs.YthjhaogfpdkhbaaDoor.B
/- kit.Kept..: what was lent is as it was. -/
namespace Go.Proofs.YthjhaogfpdkhbaaDoor.B
open Go.RowKit YthjhaogfpdkhbaaDoorW.PrintWords YthjhaogfpdkhbaaDoorW.PrintLast YthjhaogfpdkhbaaDoorW.PrintMore

theorem cut_cap {P : Program} (t e : TypeId) (kh : IntKind) {i : TypeInfo} (ht : P.underlying t = some (.slice e)) (hi : P.info? e = some i) (A : Option Addr) (n c : Nat) (j : Int) (h0 : 0 ≤ j) (hm : j ≤ c) :
 ∀ W : World, (Instr.slice t (.slice A n c) none (some (.int kh j)) none).run P W = .ok (.slice A j.toNat c) W := by
 intro W
 have hel : P.elem t = e := by simp [Program.elem, ht]
 have hu : P.underlying t = some (.slice (P.elem t)) := by rw [hel]; exact ht
 have ha : (A.map fun x => x.add 0) = A := by cases A <;> simp [Addr.add]
 rw [run_slice_h W t A n c hu kh j h0 hm, hel]
 simp [sizeOf, typeInfo, hi, sliced, Result.andThen, ha]

set_option maxHeartbeats 2000000 in
set_option maxRecDepth 100000 in
theorem KeptInts_yes (A : Option Addr) (c : Nat) (A' : Option Addr) (c' : Nat) (l : List Int) (w : World) (hc : l.length + 1 ≤ c) (hr : Kd.C (Kd.int .i64) w A (l.length + 1) (l ++ [-7171])) (hc' : l.length ≤ c') (hr' : Kd.C (Kd.int .i64) w A' l.length l) :
 Calls Tryd.prog 16 #[.slice A l.length c, .slice A' l.length c'] w fun e w' => e = .returned (.bool true) ∧ Below w.heap.size w w' := by
 have hm := C_max hr'
 have hm1 := C_max hr
 have hm2 : l.length + 1 ≤ 9223372036854775807 := hm1
 have hf := KInts_f l l (l.length + 1) hm (by omega)
 rw [decide_eq_true (rfl : l = l)] at hf
 obtain ⟨ad, rfl, hx⟩ := Kd.at_int hr ((l.length : Nat) : Int) (by omega) (by omega)
 have hmk : w.cell? (ad.add l.length) = some (.int .i64 (-7171)) := by
  rw [Int.toNat_natCast] at hx
  rw [hx]
  simp [rd, List.getD_eq_getElem?_getD]
 have hcall : Calls Tryd.prog 58 #[.slice (some ad) l.length c, .slice A' l.length c'] w fun e w' => e = .returned (.bool true) ∧ Aside0 (Below w.heap.size w w') ∧ w'.cell? (ad.add l.length) = some (.int .i64 (-7171)) := by
  refine (dovetailkit_Ints.calls (l.length + 1) (some ad) c l A' c' l true w (C_pre hr) (by omega) hr' hc' hf).mono ?_
  rintro e w' ⟨he, hb⟩
  have hb' : Below w.heap.size w w' := by first | exact hb | exact hb.below
  exact ⟨he, ⟨hb'⟩, (hb'.cell (World.block_lt_of_cell? w _ hmk)).trans hmk⟩
 obtain ⟨i0, hi0, _, _, _⟩ := info_parts info3
 have hcut : ∀ W : World, (Instr.slice 26 (.slice (some ad) l.length c) none (some (.int .i64 ((l.length : Int) + 1))) none).run Tryd.prog W = .ok (.slice (some ad) (l.length + 1) c) W := fun W => by
  have := cut_cap (P := Tryd.prog) 26 3 .i64 Tryd.underlying26 hi0 (some ad) l.length c ((l.length : Int) + 1) (by omega) (by omega) W
  rwa [show ((l.length : Int) + 1).toNat = l.length + 1 from by omega] at this
 have HC := Aside0.mk hcall
 clear hcall hr hr' hx hf hmk hi0 hm1
 go_enter Tryd.func16, Tryd.ntmps16
 go_wp2_with (go_at_call 58; (with_reducible refine HC.out.mono ?_); rintro e w1 ⟨rfl, hb, f0⟩)
 go_ret
 exact ⟨rfl, hb.out⟩

set_option maxHeartbeats 2000000 in
set_option maxRecDepth 100000 in
theorem KeptStrings_yes (A : Option Addr) (c : Nat) (A' : Option Addr) (c' : Nat) (l : List ByteArray) (w : World) (hc : l.length + 1 ≤ c) (hr : Kd.C Kd.string w A (l.length + 1) (l ++ [(⟨#[109, 97, 114, 107]⟩ : ByteArray)])) (hc' : l.length ≤ c') (hr' : Kd.C Kd.string w A' l.length l) :
 Calls Tryd.prog 56 #[.slice A l.length c, .slice A' l.length c'] w fun e w' => e = .returned (.bool true) ∧ Below w.heap.size w w' := by
 have hm := C_max hr'
 have hm1 := C_max hr
 have hm2 : l.length + 1 ≤ 9223372036854775807 := hm1
 have hf := KStrings_f l l (l.length + 1) hm (by omega)
 rw [decide_eq_true (rfl : l = l)] at hf
 obtain ⟨ad, rfl, hx⟩ := Kd.at_string hr ((l.length : Nat) : Int) (by omega) (by omega)
 have hmk : w.cell? (ad.add l.length) = some (.string ⟨#[109, 97, 114, 107]⟩) := by
  rw [Int.toNat_natCast] at hx
  rw [hx]
  simp [rdOf, List.getD_eq_getElem?_getD]
 have hcall : Calls Tryd.prog 69 #[.slice (some ad) l.length c, .slice A' l.length c'] w fun e w' => e = .returned (.bool true) ∧ Aside0 (Below w.heap.size w w') ∧ w'.cell? (ad.add l.length) = some (.string ⟨#[109, 97, 114, 107]⟩) := by
  refine (dovetailkit_Strings.calls (l.length + 1) (some ad) c l A' c' l true w (C_pre hr) (by omega) hr' hc' hf).mono ?_
  rintro e w' ⟨he, hb⟩
  have hb' : Below w.heap.size w w' := by first | exact hb | exact hb.below
  exact ⟨he, ⟨hb'⟩, (hb'.cell (World.block_lt_of_cell? w _ hmk)).trans hmk⟩
 obtain ⟨i0, hi0, _, _, _⟩ := info_parts info9
 have hcut : ∀ W : World, (Instr.slice 22 (.slice (some ad) l.length c) none (some (.int .i64 ((l.length : Int) + 1))) none).run Tryd.prog W = .ok (.slice (some ad) (l.length + 1) c) W := fun W => by
  have := cut_cap (P := Tryd.prog) 22 9 .i64 Tryd.underlying22 hi0 (some ad) l.length c ((l.length : Int) + 1) (by omega) (by omega) W
  rwa [show ((l.length : Int) + 1).toNat = l.length + 1 from by omega] at this
 have HC := Aside0.mk hcall
 clear hcall hr hr' hx hf hmk hi0 hm1
 go_enter Tryd.func56, Tryd.ntmps56
 go_wp2_with (go_at_call 69; (with_reducible refine HC.out.mono ?_); rintro e w1 ⟨rfl, hb, f0⟩)
 go_ret
 exact ⟨rfl, hb.out⟩

theorem MR.addr {w : World} {A : Option Addr} {c : Nat} {l : List S52} (h : MR w A c l) : ∃ ad, A = some ad := by
 obtain ⟨ad, e, _⟩ := h.2.2.2 (by omega)
 exact ⟨ad, e⟩
theorem MR.cells {w : World} {ad : Addr} {c : Nat} {l : List S52} (h : MR w (some ad) c l) (i : Nat) (hi : i < l.length) : ∃ A1 c1, w.cell? (ad.add (i * 2)) = some (.int .i64 l[i].f0) ∧ w.cell? ⟨(ad.add (i * 2)).block, (ad.add (i * 2)).off + 1, none⟩ = some (.slice A1 l[i].f1.length c1) ∧ l[i].f1.length + 1 ≤ c1 ∧ Kd.C (Kd.int .i64) w A1 (l[i].f1.length + 1) (l[i].f1 ++ [-7171]) := by
 obtain ⟨ad', e, hc⟩ := h.2.2.2 (by omega)
 obtain rfl := Option.some.inj e
 obtain ⟨cs, h1, h2, h3⟩ := hc i (l[i], true) (by rw [List.getElem?_append_left (by rw [mk1_length]; exact hi)]; simp [mk1, List.getElem?_eq_getElem hi])
 obtain ⟨a, b, rfl, q1, A1, c1, rfl, q2⟩ := h2
 have q1' : a = [.int .i64 l[i].f0] := q1
 subst q1'
 refine ⟨A1, c1, h3 0 _ rfl, ?_, q2.1, q2.2⟩
 rw [← add_field _ _ 1 (by omega)]
 exact h3 1 _ rfl
theorem MR.mark {w : World} {ad : Addr} {c : Nat} {l : List S52} (h : MR w (some ad) c l) : w.cell? (ad.add (l.length * 2)) = some (.int .i64 (-7171)) := by
 obtain ⟨ad', e, hc⟩ := h.2.2.2 (by omega)
 obtain rfl := Option.some.inj e
 obtain ⟨cs, h1, h2, h3⟩ := hc l.length (⟨-7171, []⟩, false) (by rw [List.getElem?_append_right (by rw [mk1_length]; exact Nat.le_refl _), mk1_length, Nat.sub_self]; rfl)
 obtain ⟨a, b, rfl, q1, _⟩ := h2
 have q1' : a = [.int .i64 (-7171)] := q1
 subst q1'
 exact h3 0 _ rfl
set_option maxHeartbeats 4000000 in
set_option maxRecDepth 100000 in
theorem KeptRules_yes (A : Option Addr) (c : Nat) (A' : Option Addr) (c' : Nat) (l : List S52) (w : World) (hr : MR w A c l) (hc' : l.length ≤ c') (hr' : Kd.C k52 w A' l.length l) :
 Calls Tryd.prog 57 #[.slice A l.length c, .slice A' l.length c'] w fun e w' => e = .returned (.bool true) ∧ Below w.heap.size w w' := by
 have hm := C_max hr'
 have hm1 := C_max hr.2
 have hm2 : l.length + 1 ≤ 9223372036854775807 := hm1
 have hc := hr.1
 obtain ⟨ad, rfl⟩ := hr.addr
 have hmk := hr.mark
 obtain ⟨i0, hi0, _, _, _⟩ := info_parts info52
 have hcut : ∀ W : World, (Instr.slice 23 (.slice (some ad) l.length c) none (some (.int .i64 ((l.length : Int) + 1))) none).run Tryd.prog W = .ok (.slice (some ad) (l.length + 1) c) W := fun W => by
  have := cut_cap (P := Tryd.prog) 23 52 .i64 Tryd.underlying23 hi0 (some ad) l.length c ((l.length : Int) + 1) (by omega) (by omega) W
  rwa [show ((l.length : Int) + 1).toNat = l.length + 1 from by omega] at this
 have HR := Aside0.mk hr
 have HR' := Aside0.mk hr'
 clear hr hr' hi0 hm1
 go_enter Tryd.func57, Tryd.ntmps57
 go_wp2_with fail
 clear hcut hmk
 go_loopw [5] (fun i wr => ∃ k : Nat, k ≤ l.length ∧ i = .int .i64 k ∧ Aside0 (Below w.heap.size w wr)) (fun i _ => l.length - (intOf i).toNat)
 case atStart => exact ⟨0, Nat.zero_le _, rfl, ⟨Below.refl _ w⟩⟩
 case round =>
  obtain ⟨k, hk, rfl, tr⟩ := hrel
  by_cases hlt : k < l.length
  · obtain ⟨A1, c1, g0, g1, g2, g3⟩ := (HR.out.below tr.out).cells k hlt
    obtain ⟨ad', A2, c2, rfl, h0, h1, h2, h3⟩ := at_T52 (Kd.C_below HR'.out tr.out) (k : Int) (by omega) (by omega)
    have q0 : rd_T52 l (k : Int) = l[k] := by simp [rd_T52, List.getD_eq_getElem?_getD, List.getElem?_eq_getElem hlt]
    rw [Int.toNat_natCast] at h0 h1
    rw [q0] at h0 h1 h2 h3
    have hcall : ∀ W, Below wr.heap.size wr W → Calls Tryd.prog 16 #[.slice A1 l[k].f1.length c1, .slice A2 l[k].f1.length c2] W fun e w' => e = .returned (.bool true) ∧ Aside0 (Below w.heap.size w w') := by
     intro W hW
     refine (KeptInts_yes A1 c1 A2 c2 l[k].f1 W g2 (Kd.C_below g3 hW) h2 (Kd.C_below h3 hW)).mono ?_
     rintro e w' ⟨he, hb⟩
     exact ⟨he, ⟨(tr.out.trans (hW.mono (below_size tr.out))).trans (hb.mono (Nat.le_trans (below_size tr.out) hW.size))⟩⟩
    generalize l[k] = x at g0 g1 h0 h1 hcall
    have HC := Aside0.mk hcall
    clear hcall g2 g3 h2 h3 q0
    go_wp2_with fail
    go_still_tail 22, (by kernel_rfl)
    change wpList _ _ _ _ _ wr.drew
    go_wp2_with (go_at_call 16; (with_reducible refine (HC.out _ (Below.refl _ wr).drew).mono ?_); rintro e w6 ⟨rfl, t6⟩)
    go_roundw
    case measure => simp [intOf]; omega
    case rel => exact ⟨k + 1, by omega, rfl, t6⟩
  · have hkn : k = l.length := by omega
    subst hkn
    go_wp2_with fail
    go_ret
    exact ⟨rfl, tr.out⟩
end Go.Proofs.YthjhaogfpdkhbaaDoor.B
/- kit.LentGrammar, kit.KeptGrammar. -/
namespace Go.Proofs.YthjhaogfpdkhbaaDoor.B
open Go.RowKit YthjhaogfpdkhbaaDoorW.PrintWords YthjhaogfpdkhbaaDoorW.PrintLast YthjhaogfpdkhbaaDoorW.PrintMore

structure MG (w : World) (A0 : Option Addr) (c0 : Nat) (l0 : List ByteArray) (A1 : Option Addr) (c1 : Nat) (l1 : List ByteArray) (A3 : Option Addr) (c3 : Nat) (l3 : List S52) : Prop where
 h0 : l0.length + 1 ≤ c0
 r0 : Kd.C Kd.string w A0 (l0.length + 1) (l0 ++ [(⟨#[109, 97, 114, 107]⟩ : ByteArray)])
 h1 : l1.length + 1 ≤ c1
 r1 : Kd.C Kd.string w A1 (l1.length + 1) (l1 ++ [(⟨#[109, 97, 114, 107]⟩ : ByteArray)])
 r3 : MR w A3 c3 l3
theorem MG.below {w w' : World} {A0 A1 A3 : Option Addr} {c0 c1 c3 : Nat} {l0 l1 : List ByteArray} {l3 : List S52} (h : MG w A0 c0 l0 A1 c1 l1 A3 c3 l3) (hb : Below w.heap.size w w') : MG w' A0 c0 l0 A1 c1 l1 A3 c3 l3 :=
 ⟨h.h0, Kd.C_below h.r0 hb, h.h1, Kd.C_below h.r1 hb, h.r3.below hb⟩
def GG (w : World) (cs cs' : Array Value) (W : World) : Prop := Below w.heap.size w W ∧ Box w.heap.size cs 25 W ∧ Box (w.heap.size + 1) cs' 25 W
theorem GG.low {w : World} {cs cs' : Array Value} {W : World} (h : GG w cs cs' W) : Below w.heap.size w W := h.1
theorem GG.start (w : World) (cs cs' : Array Value) : GG w cs cs' ((w.alloc (.cells cs 25)).alloc (.cells cs' 25)) :=
 ⟨((Below.refl _ w).alloc (Nat.le_refl _) _).alloc (by simp) _, (Box.new w _ _).alloc _, by have := Box.new (w.alloc (.cells cs 25)) cs' 25; simpa using this⟩
theorem GG.more {w : World} {cs cs' : Array Value} {W W' : World} (h : GG w cs cs' W) (hb : Below W.heap.size W W') : GG w cs cs' W' := ⟨h.1.trans (hb.mono h.1.size), h.2.1.below hb, h.2.2.below hb⟩
theorem GG.two {w : World} {cs cs' : Array Value} {W : World} (h : GG w cs cs' W) : w.heap.size + 2 ≤ W.heap.size := by
 have h2 : W.heap[w.heap.size + 1]? = some (.cells cs' 25 (0, 0)) := h.2.2
 rcases Nat.lt_or_ge (w.heap.size + 1) W.heap.size with h1 | h1
 · exact h1
 · rw [Array.getElem?_eq_none h1] at h2; cases h2
theorem GG.cells {w : World} {v0 v1 v2 v3 u0 u1 u2 u3 : Value} {W : World} (h : GG w #[v0, v1, v2, v3] #[u0, u1, u2, u3] W) : (W.cell? ⟨w.heap.size, 0, none⟩ = some v0 ∧ W.cell? ⟨w.heap.size, 1, none⟩ = some v1 ∧ W.cell? ⟨w.heap.size, 2, none⟩ = some v2 ∧ W.cell? ⟨w.heap.size, 3, none⟩ = some v3) ∧
 W.cell? ⟨w.heap.size + 1, 0, none⟩ = some u0 ∧ W.cell? ⟨w.heap.size + 1, 1, none⟩ = some u1 ∧ W.cell? ⟨w.heap.size + 1, 2, none⟩ = some u2 ∧ W.cell? ⟨w.heap.size + 1, 3, none⟩ = some u3 :=
 ⟨⟨h.2.1.cell 0 _ rfl, h.2.1.cell 1 _ rfl, h.2.1.cell 2 _ rfl, h.2.1.cell 3 _ rfl⟩, h.2.2.cell 0 _ rfl, h.2.2.cell 1 _ rfl, h.2.2.cell 2 _ rfl, h.2.2.cell 3 _ rfl⟩
set_option maxHeartbeats 4000000 in
set_option maxRecDepth 100000 in
theorem KeptGrammar_yes (B0 : Option Addr) (d0 : Nat) (B1 : Option Addr) (d1 : Nat) (B3 : Option Addr) (d3 : Nat) (A0 : Option Addr) (c0 : Nat) (l0 : List ByteArray) (A1 : Option Addr) (c1 : Nat) (l1 : List ByteArray) (a2 : Int) (A3 : Option Addr) (c3 : Nat) (l3 : List S52) (w : World) (hm : MG w B0 d0 l0 B1 d1 l1 B3 d3 l3) (hr0 : Kd.C Kd.string w A0 l0.length l0) (hc0 : l0.length ≤ c0) (hr1 : Kd.C Kd.string w A1 l1.length l1) (hc1 : l1.length ≤ c1) (hr3 : Kd.C k52 w A3 l3.length l3) (hc3 : l3.length ≤ c3) :
 Calls Tryd.prog 15 #[.agg #[.slice B0 l0.length d0, .slice B1 l1.length d1, .int .i64 a2, .slice B3 l3.length d3], .agg #[.slice A0 l0.length c0, .slice A1 l1.length c1, .int .i64 a2, .slice A3 l3.length c3]] w fun e w' => e = .returned (.bool true) ∧ Below w.heap.size w w' := by
 obtain ⟨cs, hcs⟩ : ∃ cs : Array Value, cs = #[.slice B0 l0.length d0, .slice B1 l1.length d1, .int .i64 a2, .slice B3 l3.length d3] := ⟨_, rfl⟩
 obtain ⟨cs', hcs'⟩ : ∃ cs : Array Value, cs = #[.slice A0 l0.length c0, .slice A1 l1.length c1, .int .i64 a2, .slice A3 l3.length c3] := ⟨_, rfl⟩
 have CE : ∀ W, GG w cs cs' W → (W.cell? ⟨w.heap.size, 0, none⟩ = some (.slice B0 l0.length d0) ∧ W.cell? ⟨w.heap.size, 1, none⟩ = some (.slice B1 l1.length d1) ∧ W.cell? ⟨w.heap.size, 2, none⟩ = some (.int .i64 a2) ∧ W.cell? ⟨w.heap.size, 3, none⟩ = some (.slice B3 l3.length d3)) ∧ W.cell? ⟨w.heap.size + 1, 0, none⟩ = some (.slice A0 l0.length c0) ∧ W.cell? ⟨w.heap.size + 1, 1, none⟩ = some (.slice A1 l1.length c1) ∧ W.cell? ⟨w.heap.size + 1, 2, none⟩ = some (.int .i64 a2) ∧ W.cell? ⟨w.heap.size + 1, 3, none⟩ = some (.slice A3 l3.length c3) := by
  intro W hW; subst hcs hcs'; exact hW.cells
 have st : GG w cs cs' ((w.alloc (.cells #[.slice B0 l0.length d0, .slice B1 l1.length d1, .int .i64 a2, .slice B3 l3.length d3] 25)).alloc (.cells #[.slice A0 l0.length c0, .slice A1 l1.length c1, .int .i64 a2, .slice A3 l3.length c3] 25)) := by subst hcs hcs'; exact GG.start w _ _
 have k0 : ∀ W, Below w.heap.size w W → Calls Tryd.prog 56 #[.slice B0 l0.length d0, .slice A0 l0.length c0] W fun e w' => e = .returned (.bool true) ∧ Aside0 (Below W.heap.size W w') := fun W hW => (KeptStrings_yes B0 d0 A0 c0 l0 W hm.h0 (Kd.C_below hm.r0 hW) hc0 (Kd.C_below hr0 hW)).mono fun _ _ h => ⟨h.1, ⟨h.2⟩⟩
 have k1 : ∀ W, Below w.heap.size w W → Calls Tryd.prog 56 #[.slice B1 l1.length d1, .slice A1 l1.length c1] W fun e w' => e = .returned (.bool true) ∧ Aside0 (Below W.heap.size W w') := fun W hW => (KeptStrings_yes B1 d1 A1 c1 l1 W hm.h1 (Kd.C_below hm.r1 hW) hc1 (Kd.C_below hr1 hW)).mono fun _ _ h => ⟨h.1, ⟨h.2⟩⟩
 have k3 : ∀ W, Below w.heap.size w W → Calls Tryd.prog 57 #[.slice B3 l3.length d3, .slice A3 l3.length c3] W fun e w' => e = .returned (.bool true) ∧ Aside0 (Below W.heap.size W w') := fun W hW => (KeptRules_yes B3 d3 A3 c3 l3 W (hm.r3.below hW) hc3 (Kd.C_below hr3 hW)).mono fun _ _ h => ⟨h.1, ⟨h.2⟩⟩
 have CE' := Aside0.mk CE
 have ST := Aside0.mk st
 have K0 := Aside0.mk k0
 have K1 := Aside0.mk k1
 have K3 := Aside0.mk k3
 have HCS := Lib.hid hcs
 have HCS' := Lib.hid hcs'
 clear CE st k0 k1 k3 hm hr0 hr1 hr3 hcs hcs'
 go_enter Tryd.func15, Tryd.ntmps15
 go_wp2_with (first
  | (go_at_call 56; (with_reducible refine (K0.out _ ST.out.low).mono ?_); rintro e w1 ⟨rfl, b1⟩; have t1 := Aside0.mk (ST.out.more b1.out); clear b1; obtain ⟨⟨f0, f1, f2, f3⟩, g0, g1, g2, g3⟩ := CE'.out _ t1.out)
  | (go_at_call 56; (with_reducible refine (K1.out _ t1.out.low).mono ?_); rintro e w2 ⟨rfl, b2⟩; have t2 := Aside0.mk (t1.out.more b2.out); clear b2 f0 f1 f2 f3 g0 g1 g2 g3; obtain ⟨⟨f0, f1, f2, f3⟩, g0, g1, g2, g3⟩ := CE'.out _ t2.out)
  | (go_at_call 57; (with_reducible refine (K3.out _ t2.out.low).mono ?_); rintro e w3 ⟨rfl, b3⟩; have t3 := Aside0.mk (t2.out.more b3.out); clear b3))
 go_ret
 exact ⟨rfl, t3.out.low⟩
set_option maxHeartbeats 8000000 in
set_option maxRecDepth 100000 in
theorem LentGrammar_m (A0 : Option Addr) (c0 : Nat) (l0 : List ByteArray) (A1 : Option Addr) (c1 : Nat) (l1 : List ByteArray) (a2 : Int) (A3 : Option Addr) (c3 : Nat) (l3 : List S52) (w : World) (hr0 : Kd.C Kd.string w A0 l0.length l0) (hr1 : Kd.C Kd.string w A1 l1.length l1) (hr3 : Kd.C k52 w A3 l3.length l3)
 (b0 : l0.length < 8796093022207) (b1 : l1.length < 8796093022207) (b3 : l3.length < 4398046511104) (bx : ∀ x ∈ l3, x.f1.length < 17592186044415) :
 Calls Tryd.prog 10 #[.agg #[.slice A0 l0.length c0, .slice A1 l1.length c1, .int .i64 a2, .slice A3 l3.length c3]] w fun e w' => ∃ B0 d0 B1 d1 B3 d3, e = .returned (.agg #[.slice B0 l0.length d0, .slice B1 l1.length d1, .int .i64 a2, .slice B3 l3.length d3]) ∧ Aside0 (MG w' B0 d0 l0 B1 d1 l1 B3 d3 l3 ∧ Below w.heap.size w w') := by
 obtain ⟨cs, hcs⟩ : ∃ cs : Array Value, cs = #[.slice A0 l0.length c0, .slice A1 l1.length c1, .int .i64 a2, .slice A3 l3.length c3] := ⟨_, rfl⟩
 obtain ⟨cs', hcs'⟩ : ∃ cs : Array Value, cs = #[.slice none 0 0, .slice none 0 0, .int .i64 0, .slice none 0 0] := ⟨_, rfl⟩
 have CE : ∀ W, GG w cs cs' W → W.cell? ⟨w.heap.size, 0, none⟩ = some (.slice A0 l0.length c0) ∧ W.cell? ⟨w.heap.size, 1, none⟩ = some (.slice A1 l1.length c1) ∧ W.cell? ⟨w.heap.size, 2, none⟩ = some (.int .i64 a2) ∧ W.cell? ⟨w.heap.size, 3, none⟩ = some (.slice A3 l3.length c3) ∧ W.heap[w.heap.size + 1]? = some (.cells #[.slice none 0 0, .slice none 0 0, .int .i64 0, .slice none 0 0] 25 (0, 0)) := by
  intro W hW; subst hcs hcs'; obtain ⟨⟨h0, h1, h2, h3⟩, _⟩ := hW.cells; exact ⟨h0, h1, h2, h3, hW.2.2⟩
 have st : GG w cs cs' ((w.alloc (.cells #[.slice A0 l0.length c0, .slice A1 l1.length c1, .int .i64 a2, .slice A3 l3.length c3] 25)).alloc (.cells #[.slice none 0 0, .slice none 0 0, .int .i64 0, .slice none 0 0] 25)) := by subst hcs hcs'; exact GG.start w _ _
 have SF : ∀ W', GG w cs cs' W' → (W'.cell? ⟨w.heap.size, 0, none⟩ = some (.slice A0 l0.length c0) ∧ W'.cell? ⟨w.heap.size, 1, none⟩ = some (.slice A1 l1.length c1) ∧ W'.cell? ⟨w.heap.size, 2, none⟩ = some (.int .i64 a2) ∧ W'.cell? ⟨w.heap.size, 3, none⟩ = some (.slice A3 l3.length c3) ∧ W'.cell? ⟨w.heap.size + 1, 0, none⟩ = some (.slice none 0 0) ∧ W'.cell? ⟨w.heap.size + 1, 1, none⟩ = some (.slice none 0 0) ∧ W'.cell? ⟨w.heap.size + 1, 2, none⟩ = some (.int .i64 0) ∧ W'.cell? ⟨w.heap.size + 1, 3, none⟩ = some (.slice none 0 0) ∧ W'.frozen? ⟨w.heap.size + 1, 0, none⟩ = false ∧ W'.frozen? ⟨w.heap.size + 1, 1, none⟩ = false ∧ W'.frozen? ⟨w.heap.size + 1, 2, none⟩ = false ∧ W'.frozen? ⟨w.heap.size + 1, 3, none⟩ = false) := by
  intro W' hW
  obtain ⟨h0, h1, h2, h3, h4⟩ := CE W' hW
  have hb : Box (w.heap.size + 1) #[.slice none 0 0, .slice none 0 0, .int .i64 0, .slice none 0 0] 25 W' := h4
  have hf : ∀ j, W'.frozen? ⟨w.heap.size + 1, j, none⟩ = false := fun j => by unfold World.frozen?; rw [show W'.heap[(⟨w.heap.size + 1, j, none⟩ : Addr).block]? = _ from h4]; rfl
  exact ⟨h0, h1, h2, h3, hb.cell 0 _ rfl, hb.cell 1 _ rfl, hb.cell 2 _ rfl, hb.cell 3 _ rfl, hf 0, hf 1, hf 2, hf 3⟩
 have k0 : ∀ W, GG w cs cs' W → Calls Tryd.prog 49 #[.slice A0 l0.length c0] W fun e W' => (∃ B d, e = .returned (.slice B l0.length d) ∧ Aside0 (Kd.R Kd.string 9 W' w.heap.size (fun k => w.heap.size + 2 ≤ k) (.slice B (l0.length + 1) d) (l0 ++ [(⟨#[109, 97, 114, 107]⟩ : ByteArray)]) ∧ GG w cs cs' W' ∧ Below W.heap.size W W')) ∧ (W'.cell? ⟨w.heap.size, 0, none⟩ = some (.slice A0 l0.length c0) ∧ W'.cell? ⟨w.heap.size, 1, none⟩ = some (.slice A1 l1.length c1) ∧ W'.cell? ⟨w.heap.size, 2, none⟩ = some (.int .i64 a2) ∧ W'.cell? ⟨w.heap.size, 3, none⟩ = some (.slice A3 l3.length c3) ∧ W'.cell? ⟨w.heap.size + 1, 0, none⟩ = some (.slice none 0 0) ∧ W'.cell? ⟨w.heap.size + 1, 1, none⟩ = some (.slice none 0 0) ∧ W'.cell? ⟨w.heap.size + 1, 2, none⟩ = some (.int .i64 0) ∧ W'.cell? ⟨w.heap.size + 1, 3, none⟩ = some (.slice none 0 0) ∧ W'.frozen? ⟨w.heap.size + 1, 0, none⟩ = false ∧ W'.frozen? ⟨w.heap.size + 1, 1, none⟩ = false ∧ W'.frozen? ⟨w.heap.size + 1, 2, none⟩ = false ∧ W'.frozen? ⟨w.heap.size + 1, 3, none⟩ = false) := by
  intro W hW
  refine (LentStrings_m A0 c0 l0 W (Kd.C_below hr0 hW.low) b0).mono ?_
  rintro e w' ⟨B, d, rfl, h⟩
  exact ⟨⟨B, d, rfl, ⟨Kd.R_lower (Kd.R_mono (Kd.R_bound h.out.1) (fun k hk => Nat.le_trans hW.two hk.2.1)) (Nat.le_trans (by omega) hW.two), hW.more h.out.2, h.out.2⟩⟩, SF _ (hW.more h.out.2)⟩
 have k1 : ∀ W, GG w cs cs' W → Calls Tryd.prog 49 #[.slice A1 l1.length c1] W fun e W' => (∃ B d, e = .returned (.slice B l1.length d) ∧ Aside0 (Kd.R Kd.string 9 W' w.heap.size (fun k => w.heap.size + 2 ≤ k) (.slice B (l1.length + 1) d) (l1 ++ [(⟨#[109, 97, 114, 107]⟩ : ByteArray)]) ∧ GG w cs cs' W' ∧ Below W.heap.size W W')) ∧ (W'.cell? ⟨w.heap.size, 0, none⟩ = some (.slice A0 l0.length c0) ∧ W'.cell? ⟨w.heap.size, 1, none⟩ = some (.slice A1 l1.length c1) ∧ W'.cell? ⟨w.heap.size, 2, none⟩ = some (.int .i64 a2) ∧ W'.cell? ⟨w.heap.size, 3, none⟩ = some (.slice A3 l3.length c3) ∧ W'.cell? ⟨w.heap.size + 1, 0, none⟩ = some (.slice none 0 0) ∧ W'.cell? ⟨w.heap.size + 1, 1, none⟩ = some (.slice none 0 0) ∧ W'.cell? ⟨w.heap.size + 1, 2, none⟩ = some (.int .i64 0) ∧ W'.cell? ⟨w.heap.size + 1, 3, none⟩ = some (.slice none 0 0) ∧ W'.frozen? ⟨w.heap.size + 1, 0, none⟩ = false ∧ W'.frozen? ⟨w.heap.size + 1, 1, none⟩ = false ∧ W'.frozen? ⟨w.heap.size + 1, 2, none⟩ = false ∧ W'.frozen? ⟨w.heap.size + 1, 3, none⟩ = false) := by
  intro W hW
  refine (LentStrings_m A1 c1 l1 W (Kd.C_below hr1 hW.low) b1).mono ?_
  rintro e w' ⟨B, d, rfl, h⟩
  exact ⟨⟨B, d, rfl, ⟨Kd.R_lower (Kd.R_mono (Kd.R_bound h.out.1) (fun k hk => Nat.le_trans hW.two hk.2.1)) (Nat.le_trans (by omega) hW.two), hW.more h.out.2, h.out.2⟩⟩, SF _ (hW.more h.out.2)⟩
 have k3 : ∀ W, GG w cs cs' W → Calls Tryd.prog 50 #[.slice A3 l3.length c3] W fun e W' => (∃ B d, e = .returned (.slice B l3.length d) ∧ Aside0 (Kd.R kRx 52 W' w.heap.size (fun k => w.heap.size + 2 ≤ k) (.slice B (l3.length + 1) d) (mk1 l3 ++ [((⟨-7171, []⟩ : S52), false)]) ∧ GG w cs cs' W' ∧ Below W.heap.size W W')) ∧ (W'.cell? ⟨w.heap.size, 0, none⟩ = some (.slice A0 l0.length c0) ∧ W'.cell? ⟨w.heap.size, 1, none⟩ = some (.slice A1 l1.length c1) ∧ W'.cell? ⟨w.heap.size, 2, none⟩ = some (.int .i64 a2) ∧ W'.cell? ⟨w.heap.size, 3, none⟩ = some (.slice A3 l3.length c3) ∧ W'.cell? ⟨w.heap.size + 1, 0, none⟩ = some (.slice none 0 0) ∧ W'.cell? ⟨w.heap.size + 1, 1, none⟩ = some (.slice none 0 0) ∧ W'.cell? ⟨w.heap.size + 1, 2, none⟩ = some (.int .i64 0) ∧ W'.cell? ⟨w.heap.size + 1, 3, none⟩ = some (.slice none 0 0) ∧ W'.frozen? ⟨w.heap.size + 1, 0, none⟩ = false ∧ W'.frozen? ⟨w.heap.size + 1, 1, none⟩ = false ∧ W'.frozen? ⟨w.heap.size + 1, 2, none⟩ = false ∧ W'.frozen? ⟨w.heap.size + 1, 3, none⟩ = false) := by
  intro W hW
  refine (LentRules_m A3 c3 l3 W (Kd.C_below hr3 hW.low) b3 bx).mono ?_
  rintro e w' ⟨B, d, rfl, h⟩
  exact ⟨⟨B, d, rfl, ⟨Kd.R_lower (Kd.R_mono (Kd.R_bound h.out.1) (fun k hk => Nat.le_trans hW.two hk.2.1)) (Nat.le_trans (by omega) hW.two), hW.more h.out.2, h.out.2⟩⟩, SF _ (hW.more h.out.2)⟩
 obtain ⟨f0, f1, f2, f3, f4, f5, f6, f7, f8, f9, f10, f11⟩ := SF _ st
 have ST := Aside0.mk st
 have HCS := Lib.hid hcs
 have HCS' := Lib.hid hcs'
 have K0 := Aside0.mk k0
 have K1 := Aside0.mk k1
 have K3 := Aside0.mk k3
 clear CE st k0 k1 k3 hr0 hr1 hr3 hcs hcs' SF bx
 go_enter Tryd.func10, Tryd.ntmps10
 go_wp2_with fail
 go_region_held3 (fun W' => W'.cell? ⟨w.heap.size, 0, none⟩ = some (.slice A0 l0.length c0) ∧ W'.cell? ⟨w.heap.size, 1, none⟩ = some (.slice A1 l1.length c1) ∧ W'.cell? ⟨w.heap.size, 2, none⟩ = some (.int .i64 a2) ∧ W'.cell? ⟨w.heap.size, 3, none⟩ = some (.slice A3 l3.length c3))
  (go_keep)
  ((first
   | (go_at_call 49; (with_reducible refine (K0.out _ ?_).mono ?_); exact (by first | exact ST.out | exact ST.out.more (Below.refl _ _).drew); rintro e w1 ⟨⟨B0, d0, rfl, t1⟩, g0, g1, g2, g3, g4, g5, g6, g7, g8, g9, g10, g11⟩)
   | (go_at_call 49; (with_reducible refine (K1.out _ t1.out.2.1).mono ?_); rintro e w2 ⟨⟨B1, d1, rfl, t2⟩, g0, g1, g2, g3, g4, g5, g6, g7, g8, g9, g10, g11⟩)
   | (go_at_call 50; (with_reducible refine (K3.out _ t2.out.2.1).mono ?_); rintro e w3 ⟨⟨B3, d3, rfl, t3⟩, g0, g1, g2, g3, g4, g5, g6, g7, g8, g9, g10, g11⟩)))
 go_wp2_with fail
 refine bodyPost_ret (v := .agg #[.slice B0 l0.length d0, .slice B1 l1.length d1, .int .i64 a2, .slice B3 l3.length d3]) (by simp [results, Tryd.results10, go_sem, g4, g5, g6, g7]) rfl ⟨B0, d0, B1, d1, B3, d3, rfl, ⟨?_, ?_⟩⟩
 · have e0 := Kd.R_reads' (Kd.R_far (Kd.R_far (Kd.R_far (Kd.R_far (Kd.R_below (Kd.R_below t1.out.1 t2.out.2.2) t3.out.2.2) (p := ⟨w.heap.size + 1, 0, none⟩) (fun k hk => by dsimp only; omega) (.slice B0 l0.length d0)) (p := ⟨w.heap.size + 1, 1, none⟩) (fun k hk => by dsimp only; omega) (.slice B1 l1.length d1)) (p := ⟨w.heap.size + 1, 2, none⟩) (fun k hk => by dsimp only; omega) (.int .i64 a2)) (p := ⟨w.heap.size + 1, 3, none⟩) (fun k hk => by dsimp only; omega) (.slice B3 l3.length d3))
   have e1 := Kd.R_reads' (Kd.R_far (Kd.R_far (Kd.R_far (Kd.R_far (Kd.R_below t2.out.1 t3.out.2.2) (p := ⟨w.heap.size + 1, 0, none⟩) (fun k hk => by dsimp only; omega) (.slice B0 l0.length d0)) (p := ⟨w.heap.size + 1, 1, none⟩) (fun k hk => by dsimp only; omega) (.slice B1 l1.length d1)) (p := ⟨w.heap.size + 1, 2, none⟩) (fun k hk => by dsimp only; omega) (.int .i64 a2)) (p := ⟨w.heap.size + 1, 3, none⟩) (fun k hk => by dsimp only; omega) (.slice B3 l3.length d3))
   have e3 := MR.of (Kd.R_far (Kd.R_far (Kd.R_far (Kd.R_far t3.out.1 (p := ⟨w.heap.size + 1, 0, none⟩) (fun k hk => by dsimp only; omega) (.slice B0 l0.length d0)) (p := ⟨w.heap.size + 1, 1, none⟩) (fun k hk => by dsimp only; omega) (.slice B1 l1.length d1)) (p := ⟨w.heap.size + 1, 2, none⟩) (fun k hk => by dsimp only; omega) (.int .i64 a2)) (p := ⟨w.heap.size + 1, 3, none⟩) (fun k hk => by dsimp only; omega) (.slice B3 l3.length d3))
   rw [← e0.1] at e0
   rw [← e1.1] at e1
   exact ⟨e0.2.1, e0.2.2, e1.2.1, e1.2.2, e3⟩
 · have hb := t3.out.2.1.low
   exact (((hb.setCell (p := ⟨w.heap.size + 1, 0, none⟩) (by dsimp only; omega) _).setCell (p := ⟨w.heap.size + 1, 1, none⟩) (by dsimp only; omega) _).setCell (p := ⟨w.heap.size + 1, 2, none⟩) (by dsimp only; omega) _).setCell (p := ⟨w.heap.size + 1, 3, none⟩) (by dsimp only; omega) _
end Go.Proofs.YthjhaogfpdkhbaaDoor.B
/- Where two grammars' boxes lie: the one that is handed in, the one that was lent. -/
namespace Go.Proofs.YthjhaogfpdkhbaaDoor.Sh
open Go.RowKit YthjhaogfpdkhbaaDoorW.PrintWords YthjhaogfpdkhbaaDoorW.PrintLast YthjhaogfpdkhbaaDoorW.PrintMore
open B H F

def TN (w w1 : World) (cs bs : Array Value) (W : World) : Prop := Below w.heap.size w W ∧ Below w1.heap.size w1 W ∧ Box w.heap.size cs 25 W ∧ Box w1.heap.size bs 25 W
theorem TN.low {w w1 : World} {cs bs : Array Value} {W : World} (h : TN w w1 cs bs W) : Below w.heap.size w W := h.1
theorem TN.low1 {w w1 : World} {cs bs : Array Value} {W : World} (h : TN w w1 cs bs W) : Below w1.heap.size w1 W := h.2.1
theorem Box.in_ {b : Nat} {cs : Array Value} {t : TypeId} {W : World} (h : Box b cs t W) : b < W.heap.size := by
 have h2 : W.heap[b]? = some (.cells cs t (0, 0)) := h
 rcases Nat.lt_or_ge b W.heap.size with h1 | h1
 · exact h1
 · rw [Array.getElem?_eq_none h1] at h2; cases h2
theorem TN.base {w w1 : World} {cs bs : Array Value} {W W' : World} (h : TN w w1 cs bs W) (base : Nat) (hb : Below base W W') (h0 : w.heap.size < base) (h1 : w1.heap.size < base) (hbW : base ≤ W.heap.size) : TN w w1 cs bs W' :=
 ⟨h.1.trans (hb.mono (by omega)), h.2.1.trans (hb.mono (by omega)), (hb.block _ h0).trans h.2.2.1, (hb.block _ h1).trans h.2.2.2⟩
theorem TN.more {w w1 : World} {cs bs : Array Value} {W W' : World} (h : TN w w1 cs bs W) (hb : Below W.heap.size W W') : TN w w1 cs bs W' := h.base W.heap.size hb (Box.in_ h.2.2.1) (Box.in_ h.2.2.2) (Nat.le_refl _)
theorem TN.cells {w w1 : World} {v0 v1 v2 v3 u0 u1 u2 u3 : Value} {W : World} (h : TN w w1 #[v0, v1, v2, v3] #[u0, u1, u2, u3] W) : W.cell? ⟨w.heap.size, 0, none⟩ = some v0 ∧ W.cell? ⟨w.heap.size, 1, none⟩ = some v1 ∧ W.cell? ⟨w.heap.size, 2, none⟩ = some v2 ∧ W.cell? ⟨w.heap.size, 3, none⟩ = some v3 ∧
 W.cell? ⟨w1.heap.size, 0, none⟩ = some u0 ∧ W.cell? ⟨w1.heap.size, 1, none⟩ = some u1 ∧ W.cell? ⟨w1.heap.size, 2, none⟩ = some u2 ∧ W.cell? ⟨w1.heap.size, 3, none⟩ = some u3 :=
 ⟨h.2.2.1.cell 0 _ rfl, h.2.2.1.cell 1 _ rfl, h.2.2.1.cell 2 _ rfl, h.2.2.1.cell 3 _ rfl, h.2.2.2.cell 0 _ rfl, h.2.2.2.cell 1 _ rfl, h.2.2.2.cell 2 _ rfl, h.2.2.2.cell 3 _ rfl⟩
def TZ (ad : Int → Addr) (E : Value) (p : Int × Int) (w w1 : World) (cs bs : Array Value) (W : World) : Prop := TN w w1 cs bs W ∧ ErrW ad W E p
theorem TZ.tn {ad : Int → Addr} {E : Value} {p : Int × Int} {w w1 : World} {cs bs : Array Value} {W : World} (h : TZ ad E p w w1 cs bs W) : TN w w1 cs bs W := h.1
theorem TZ.more {ad : Int → Addr} {E : Value} {p : Int × Int} {w w1 : World} {cs bs : Array Value} {W W' : World} (h : TZ ad E p w w1 cs bs W) (hb : Below W.heap.size W W') : TZ ad E p w w1 cs bs W' := ⟨h.1.more hb, h.2.below hb⟩
theorem TN.start {w w1 : World} {cs bs : Array Value} (h : GS w cs w1) : TN w w1 cs bs (w1.alloc (.cells bs 25)) := by
 have hb := (Below.refl w1.heap.size w1).alloc (Nat.le_refl _) (.cells bs 25)
 exact ⟨h.low.trans (hb.mono h.low.size), hb, h.2.below hb, Box.new w1 _ _⟩
end Go.Proofs.YthjhaogfpdkhbaaDoor.Sh
/- line.Write: what it writes (plain), and the walk. -/
namespace Go.Proofs.YthjhaogfpdkhbaaDoor.Sh
open Go.RowKit YthjhaogfpdkhbaaDoorW.PrintWords YthjhaogfpdkhbaaDoorW.PrintLast YthjhaogfpdkhbaaDoorW.PrintMore
open B H F

def wdsW (l0 : List ByteArray) (l : List Int) : List S87 := l.map fun k => ⟨l0.getD k.toNat ByteArray.empty, false, 0⟩
def wdsL (l0 : List ByteArray) (l : List Int) : List (List UInt8 × Bool) := l.map fun k => ((l0.getD k.toNat ByteArray.empty).data.toList, false)
theorem wdsW_wl (l0 : List ByteArray) (l : List Int) : (wdsW l0 l).map wl = wdsL l0 l := by simp [wdsW, wdsL, wl]
theorem wdsW_len (l0 : List ByteArray) (l : List Int) : (wdsW l0 l).length = l.length := by simp [wdsW]
def noTok (l0 : List ByteArray) (k : Int) : Bool := decide (k < 0) || decide ((l0.length : Int) ≤ k)
def lineP (l0 l1 : List ByteArray) (a2 : Int) (R : List S52) (l : List Int) : List UInt8 × Int :=
 if (chk (namesOK l0) (namesOK l1) l0.length l1.length a2 R).1 = 0 then
  if 65536 < l.length then ([], 12) else if l.any (noTok l0) = true then ([], 1) else
  if 1048576 < (P.writeL (wdsL l0 l)).length then ([], 12) else (P.writeL (wdsL l0 l), 0)
 else ([], (chk (namesOK l0) (namesOK l1) l0.length l1.length a2 R).1)
theorem wds_bound {l0 : List ByteArray} (h : ∀ x ∈ l0, x.size ≤ 32) : ∀ l : List Int, P.boundL (wdsL l0 l) ≤ 131 * l.length
 | [] => by simp [wdsL, P.boundL]
 | k :: l => by
  have ih := wds_bound h l
  have h1 := getD_size h k.toNat
  have : P.boundL (wdsL l0 (k :: l)) = 4 * (l0.getD k.toNat ByteArray.empty).data.toList.length + 3 + P.boundL (wdsL l0 l) := by simp [wdsL, P.boundL]
  rw [this, List.length_cons]
  have h2 : (l0.getD k.toNat ByteArray.empty).data.toList.length ≤ 32 := h1
  omega
theorem info_word : (Tryd.prog.info? 87).map (fun i => (i.zero, i.size, i.bytes)) = some (some (.agg #[(.string ⟨#[]⟩), (.bool false), (.int .i64 0)]), 3, 32) := by kernel_rfl
theorem sent_arg {ad : Int → Addr} {w : World} (h : SentsK ad w) : w.cell? ⟨1, 0, none⟩ = some (.iface 178 (.pointer (some (ad 1)))) := by
 obtain ⟨⟨h1, h2, h3, h4, h5, h6, h7, h8, h9, h10, h11, h12, h13, h14, h15⟩, _, _⟩ := h
 exact h1
structure LW (w : World) (cs : Array Value) (v : Value) (xs : List S87) (W : World) : Prop where
 gs : GS w cs W
 own : Kd.R k87 87 W (w.heap.size + 1) (fun k => k ≠ w.heap.size) v xs
theorem LW.more {w W W' : World} {cs : Array Value} {v : Value} {xs : List S87} (h : LW w cs v xs W) (hb : Below W.heap.size W W') : LW w cs v xs W' := ⟨h.gs.more hb, Kd.R_below h.own hb⟩
set_option maxHeartbeats 4000000 in
set_option maxRecDepth 100000 in
theorem lineWrite_calls (ad : Int → Addr) (A0 : Option Addr) (c0 : Nat) (l0 : List ByteArray) (A1 : Option Addr) (c1 : Nat) (l1 : List ByteArray) (a2 : Int) (A3 : Option Addr) (c3 : Nat) (R : List S52) (A : Option Addr) (c : Nat) (l : List Int) (w : World) (hs : SentsK ad w) (hr0 : Kd.C Kd.string w A0 l0.length l0) (hc0 : l0.length ≤ c0) (hr1 : Kd.C Kd.string w A1 l1.length l1) (hc1 : l1.length ≤ c1) (hr3 : Kd.C k52 w A3 R.length R) (hc3 : R.length ≤ c3) (hr : Kd.C (Kd.int .i64) w A l.length l) (hc : l.length ≤ c) :
 Calls Tryd.prog 12 #[.agg #[.slice A0 l0.length c0, .slice A1 l1.length c1, .int .i64 a2, .slice A3 R.length c3], .slice A l.length c] w fun e w' => ∃ E r, e = .returned (.tuple #[.string ⟨(lineP l0 l1 a2 R l).1.toArray⟩, E]) ∧ ErrW ad w' E ((lineP l0 l1 a2 R l).2, r) ∧ Below w.heap.size w w' := by
 have m0 := C_max hr0
 have m1 := C_max hr1
 obtain ⟨cs, hcs⟩ : ∃ cs : Array Value, cs = #[.slice A0 l0.length c0, .slice A1 l1.length c1, .int .i64 a2, .slice A3 R.length c3] := ⟨_, rfl⟩
 have st : GS w cs (w.alloc (.cells #[.slice A0 l0.length c0, .slice A1 l1.length c1, .int .i64 a2, .slice A3 R.length c3] 25)) := by subst hcs; exact GS.start w _
 have ce : ∀ W, GS w cs W → W.cell? ⟨w.heap.size, 0, none⟩ = some (.slice A0 l0.length c0) ∧ W.cell? ⟨w.heap.size, 1, none⟩ = some (.slice A1 l1.length c1) ∧ W.cell? ⟨w.heap.size, 2, none⟩ = some (.int .i64 a2) ∧ W.cell? ⟨w.heap.size, 3, none⟩ = some (.slice A3 R.length c3) := by
  intro W hW; subst hcs; exact hW.cells
 have kC : ∀ W, GS w cs W → Calls Tryd.prog 51 #[.agg #[.slice A0 l0.length c0, .slice A1 l1.length c1, .int .i64 a2, .slice A3 R.length c3]] W fun e w' => (∃ v, e = .returned v ∧ ErrW ad w' v (chk (namesOK l0) (namesOK l1) l0.length l1.length a2 R)) ∧ Aside0 (GS w cs w') := fun W hW =>
  (Check_any ad A0 c0 l0 A1 c1 l1 a2 A3 c3 R W (hs.below hW.low) (Kd.C_below hr0 hW.low) hc0 (Kd.C_below hr1 hW.low) hc1 (Kd.C_below hr3 hW.low) hc3).mono fun _ _ ⟨⟨v, he, hv⟩, hb⟩ => ⟨⟨v, he, ErrW.of hv⟩, ⟨hW.more hb⟩⟩
 have ST := Aside0.mk st
 have CE := Aside0.mk ce
 have HCS := Lib.hid hcs
 unfold lineP
 by_cases hp : (chk (namesOK l0) (namesOK l1) l0.length l1.length a2 R).1 = 0
 rotate_left
 · rw [if_neg hp]
   have KC : Aside0 (∀ W, GS w cs W → Calls Tryd.prog 51 #[.agg #[.slice A0 l0.length c0, .slice A1 l1.length c1, .int .i64 a2, .slice A3 R.length c3]] W fun e w' => ∃ t u, e = .returned (.iface t u) ∧ Aside0 (ErrW ad w' (.iface t u) (chk (namesOK l0) (namesOK l1) l0.length l1.length a2 R) ∧ GS w cs w')) := ⟨fun W hW => (kC W hW).mono fun e w' ⟨⟨v, he, hv⟩, hg⟩ => by
    obtain ⟨t, u, rfl⟩ := hv.any hp
    exact ⟨t, u, he, ⟨hv, hg.out⟩⟩⟩
   clear kC st ce hcs hr0 hr1 hr3 hp hs hr
   generalize chk (namesOK l0) (namesOK l1) l0.length l1.length a2 R = pr at KC ⊢
   go_enter Tryd.func12, Tryd.ntmps12
   go_wp2_with (first
    | (go_at_call 51; (with_reducible refine (KC.out _ ST.out).mono ?_); rintro e w1 ⟨t, u, rfl, t1⟩))
   (try rw [Exit.noGoto_ret])
   exact bodyPost_ret (v := .tuple #[.string ⟨#[]⟩, .iface t u]) (by simp [results, Tryd.results12, go_sem]) rfl ⟨_, pr.2, rfl, t1.out.1, t1.out.2.low⟩
 · rw [if_pos hp]
   obtain ⟨q1, q2, q3, q4, q5, q6, q7⟩ := chk_ok hp
   have KC : Aside0 (∀ W, GS w cs W → Calls Tryd.prog 51 #[.agg #[.slice A0 l0.length c0, .slice A1 l1.length c1, .int .i64 a2, .slice A3 R.length c3]] W fun e w' => e = .returned .nilIface ∧ Aside0 (GS w cs w')) := ⟨fun W hW => (kC W hW).mono fun e w' ⟨⟨v, he, hv⟩, hg⟩ => by
    obtain rfl := hv.nil hp
    exact ⟨he, hg⟩⟩
   have kG : ∀ W, GS w cs W → W.cell? ⟨0, 0, none⟩ = some (.iface 178 (.pointer (some (ad 12)))) ∧ W.cell? ⟨1, 0, none⟩ = some (.iface 178 (.pointer (some (ad 1)))) := fun W hW => ⟨sent_long (hs.below hW.low), sent_arg (hs.below hW.low)⟩
   have KG := Aside0.mk kG
   have HR0 := Aside0.mk hr0
   have HR := Aside0.mk hr
   have hz0 := names_small q3
   have HZ0 := Aside0.mk hz0
   clear kC kG st ce hcs hr0 hr1 hr3 hp hs hr q2 q3 q4 q5 q6 q7 hz0
   by_cases hl : 65536 < l.length
   · rw [if_pos hl]
     have d1 : decide ((65536 : Int) < (l.length : Int)) = true := decide_eq_true (by omega)
     have d2 : decide (65536 < l.length) = true := decide_eq_true hl
     clear hl
     go_enter Tryd.func12, Tryd.ntmps12
     go_wp2_with (first
      | (go_at_call 51; (with_reducible refine (KC.out _ ST.out).mono ?_); rintro e w1 ⟨rfl, t1⟩; obtain ⟨he, he1⟩ := KG.out _ t1.out))
     go_region
     go_wp2_with fail
     (try rw [Exit.noGoto_ret])
     exact bodyPost_ret (v := .tuple #[.string ⟨#[]⟩, .iface 178 (.pointer (some (ad 12)))]) (by simp [results, Tryd.results12, go_sem]) rfl ⟨_, -1, rfl, ErrW.sent (by decide) (by decide), (t1.out.more (Below.refl _ _).drew).low⟩
   · rw [if_neg hl]
     have hl2 : l.length ≤ 65536 := by omega
     have d1 : decide ((65536 : Int) < (l.length : Int)) = false := decide_eq_false (by omega)
     have d2 : decide (65536 < l.length) = false := decide_eq_false hl
     clear hl
     obtain ⟨tx, htx⟩ : ∃ tx : List UInt8 × Int, tx = (if l.any (noTok l0) = true then ([], 1) else if 1048576 < (P.writeL (wdsL l0 l)).length then ([], 12) else (P.writeL (wdsL l0 l), 0)) := ⟨_, rfl⟩
     rw [← htx]
     have HTX := Lib.hid htx
     clear htx
     go_enter Tryd.func12, Tryd.ntmps12
     go_wp2_with (first
      | (go_at_call 51; (with_reducible refine (KC.out _ ST.out).mono ?_); rintro e w1 ⟨rfl, t1⟩))
     go_loopw [7, 9, 22] (fun v _ i wq => ∃ k : Nat, k ≤ l.length ∧ i = .int .i64 k ∧ Aside0 (LW w cs v (wdsW l0 (l.take k)) wq) ∧ Hid ((l.take k).any (noTok l0) = false)) (fun _ _ i _ => l.length - (intOf i).toNat)
     case atStart => exact ⟨0, Nat.zero_le _, rfl, ⟨⟨t1.out, Kd.R_nil _ _ _ _ _⟩⟩, Lib.hid rfl⟩
     case round =>
      clear t1
      obtain ⟨k, hk, rfl, tr, han⟩ := hrel
      by_cases hlt : k < l.length
      · obtain ⟨ad3, rfl, hx⟩ := Kd.at_int (Kd.C_below HR.out tr.out.gs.low) (k : Int) (by omega) (by omega)
        rw [Int.toNat_natCast, rd_D, getD_lt _ _ _ hlt] at hx
        have htk := List.take_succ_eq_append_getElem hlt
        by_cases hno : noTok l0 l[k] = true
        · have hany : l.any (noTok l0) = true := List.any_eq_true.2 ⟨_, List.getElem_mem hlt, hno⟩
          have HT := Lib.hid (HTX.out.trans (if_pos hany))
          unfold noTok at hno
          generalize l[k] = x at hx hno
          obtain ⟨he, he1⟩ := KG.out _ tr.out.gs
          obtain ⟨f0, f1, f2, f3⟩ := CE.out _ tr.out.gs
          clear hany HTX htk
          by_cases h0 : x < 0
          · have dx : decide (x < 0) = true := decide_eq_true h0
            clear hno
            go_wp2_with fail
            go_region
            go_wp2_with fail
            (try rw [Exit.noGoto_ret])
            exact bodyPost_ret (v := .tuple #[.string ⟨#[]⟩, .iface 178 (.pointer (some (ad 1)))]) (by simp [results, Tryd.results12, go_sem]) rfl ⟨.iface 178 (.pointer (some (ad 1))), -1, by rw [HT.out], by rw [HT.out]; exact ErrW.sent (by decide) (by decide), (tr.out.gs.more (Below.refl _ _).drew).low⟩
          · have h1 : (l0.length : Int) ≤ x := by simpa [h0] using hno
            have dx : decide (x < 0) = false := decide_eq_false h0
            have dy : decide ((l0.length : Int) ≤ x) = true := decide_eq_true h1
            clear hno h0
            go_wp2_with fail
            go_region
            go_wp2_with fail
            (try rw [Exit.noGoto_ret])
            exact bodyPost_ret (v := .tuple #[.string ⟨#[]⟩, .iface 178 (.pointer (some (ad 1)))]) (by simp [results, Tryd.results12, go_sem]) rfl ⟨.iface 178 (.pointer (some (ad 1))), -1, by rw [HT.out], by rw [HT.out]; exact ErrW.sent (by decide) (by decide), (tr.out.gs.more (Below.refl _ _).drew).low⟩
        · have hno2 : noTok l0 l[k] = false := by simpa using hno
          have HAN : Hid ((l.take (k + 1)).any (noTok l0) = false) := Lib.hid (by rw [htk, List.any_append, han.out, Bool.false_or, List.any_cons, List.any_nil, Bool.or_false]; exact hno2)
          have HWD : Hid (wdsW l0 (l.take (k + 1)) = wdsW l0 (l.take k) ++ [⟨l0.getD l[k].toNat ByteArray.empty, false, 0⟩]) := Lib.hid (by rw [htk]; unfold wdsW; rw [List.map_append]; rfl)
          have hlen : (wdsW l0 (l.take k)).length ≤ 65536 := by rw [wdsW_len, List.length_take]; omega
          unfold noTok at hno2
          have h0 : 0 ≤ l[k] := by simp at hno2; omega
          have h1 : l[k] < (l0.length : Int) := by simp at hno2; omega
          clear hno hno2 htk han
          generalize l[k] = x at hx h0 h1 HWD
          have HL := Lib.hid hlen
          clear hlen
          obtain ⟨ad4, eA, hy⟩ := Kd.at_string (Kd.C_below HR0.out tr.out.gs.low) x h0 h1
          subst eA
          have hsz := getD_size HZ0.out x.toNat
          replace hy : wr.cell? (ad4.add x.toNat) = some (.string (l0.getD x.toNat ByteArray.empty)) := hy
          generalize l0.getD x.toNat ByteArray.empty = s at hy HWD hsz
          have dx : decide (x < 0) = false := decide_eq_false (by omega)
          have dy : decide ((l0.length : Int) ≤ x) = false := decide_eq_false (by omega)
          have dz : decide (x < (l0.length : Int)) = true := decide_eq_true h1
          have hbw : w.heap.size + 1 ≤ wr.heap.size := GS.lt tr.out.gs
          obtain ⟨f0, f1, f2, f3⟩ := CE.out _ tr.out.gs
          go_wp2_with (first
           | ((with_reducible refine gate_builtin (b := .append) (xs := #[.tmp 36, .tmp 43]) rfl ?_); at_builtin; go_loud (refine Kd.R_append k87 (w0 := wr) (w.heap.size + 1) rfl (.tmp 36) (.tmp 43) 85 87 (.agg #[(.string ⟨#[]⟩), (.bool false), (.int .i64 0)]) 32 rfl Tryd.underlying85 info_word rfl (by decide) (by decide) u7 (wdsW l0 (l.take k)) (⟨s, false, 0⟩ : S87) [.string s, .bool false, .int .i64 0] (fun k => k ≠ w.heap.size) (fun _ => False) rfl rfl (k87_mkM _ _ _ _) (fun _ hk => hk.elim) ?aF tr.out.own (Below.refl _ _) ?aS ?aL ?_; (case aF => exact fun k hk => by omega); (case aS => exact hbw); (case aL => have := HL.out; omega); intro v1 w5 hR hB hg hat'; have T5 := Aside0.mk (LW.mk (tr.out.gs.base _ hB (by omega)) hR); clear hR hB hg hat')))
          go_roundw
          case measure => simp [intOf]; omega
          case rel => exact ⟨k + 1, by omega, by go_num, ⟨by rw [HWD.out]; exact T5.out⟩, HAN⟩
      · obtain rfl : k = l.length := by omega
        have hny := han.out
        have ho := tr.out.own
        rw [List.take_length] at hny ho
        obtain ⟨A', c', ev⟩ := Kd.R_slice ho
        rw [ev] at ho
        obtain ⟨_, hcl, hcr⟩ := Kd.R_reads' ho
        subst ev
        have hbd := wds_bound HZ0.out l
        have hwl := wdsW_wl l0 l
        have kW : ∀ W, Below wr.heap.size wr W → Calls Tryd.prog 52 #[.slice A' (wdsW l0 l).length c'] W fun e w' => e = .returned (.string ⟨(P.writeL (wdsL l0 l)).toArray⟩) ∧ Aside0 (GS w cs w') := fun W hW => by
         refine (Write_calls A' c' (wdsW l0 l) W (Kd.C_below hcr hW) hcl (by rw [hwl]; omega)).mono ?_
         rw [hwl]
         exact fun e w' ⟨he, hb⟩ => ⟨he, ⟨(tr.out.gs.more hW).more hb⟩⟩
        have KW := Aside0.mk kW
        have B0 : Aside0 (Below wr.heap.size wr wr) := ⟨Below.refl _ _⟩
        have hwb : (P.writeL (wdsL l0 l)).length ≤ 140737488355328 := by have := P.writeL_length (wdsL l0 l); omega
        have HY := Lib.hid hny
        clear kW hcr hcl ho hbd hwl han tr hny
        by_cases hl : 1048576 < (P.writeL (wdsL l0 l)).length
        · have HT := Lib.hid (HTX.out.trans ((if_neg (by rw [HY.out]; exact Bool.false_ne_true)).trans (if_pos hl)))
          clear HTX HY
          have hsz : (⟨(P.writeL (wdsL l0 l)).toArray⟩ : ByteArray).size = (P.writeL (wdsL l0 l)).length := P.size_lit _
          rw [← hsz] at hl
          generalize (⟨(P.writeL (wdsL l0 l)).toArray⟩ : ByteArray) = tl at KW hl
          have d3 : decide ((1048576 : Int) < (tl.size : Int)) = true := decide_eq_true (by omega)
          have d4 : decide (1048576 < tl.size) = true := decide_eq_true hl
          clear hsz hl hwb
          go_wp2_with (first
           | (go_at_call 52; (with_reducible refine (KW.out _ B0.out).mono ?_); rintro e w3 ⟨rfl, t3⟩; obtain ⟨he, he1⟩ := KG.out _ t3.out))
          go_region
          go_wp2_with fail
          (try rw [Exit.noGoto_ret])
          exact bodyPost_ret (v := .tuple #[.string ⟨#[]⟩, .iface 178 (.pointer (some (ad 12)))]) (by simp [results, Tryd.results12, go_sem]) rfl ⟨.iface 178 (.pointer (some (ad 12))), -1, by rw [HT.out], by rw [HT.out]; exact ErrW.sent (by decide) (by decide), (t3.out.more (Below.refl _ _).drew).low⟩
        · have HT := Lib.hid (HTX.out.trans ((if_neg (by rw [HY.out]; exact Bool.false_ne_true)).trans (if_neg hl)))
          clear HTX HY
          have hsz : (⟨(P.writeL (wdsL l0 l)).toArray⟩ : ByteArray).size = (P.writeL (wdsL l0 l)).length := P.size_lit _
          rw [← hsz] at hl
          have HTL : Hid (∃ tl : ByteArray, tl = ⟨(P.writeL (wdsL l0 l)).toArray⟩ ∧ True) := Lib.hid ⟨_, rfl, trivial⟩
          obtain ⟨tl, htl, _⟩ := HTL.out
          rw [← htl] at KW hl
          have HE := Lib.hid htl
          have d3 : decide ((1048576 : Int) < (tl.size : Int)) = false := decide_eq_false (by omega)
          have d4 : decide (1048576 < tl.size) = false := decide_eq_false hl
          clear hsz hl hwb HTL htl
          go_wp2_with (first
           | (go_at_call 52; (with_reducible refine (KW.out _ B0.out).mono ?_); rintro e w3 ⟨rfl, t3⟩))
          (try rw [Exit.noGoto_ret])
          exact bodyPost_ret (v := .tuple #[.string tl, .nilIface]) (by simp [results, Tryd.results12, go_sem]) rfl ⟨.nilIface, -1, by rw [HT.out, HE.out], by rw [HT.out]; exact .inl ⟨rfl, rfl, rfl⟩, t3.out.low⟩
end Go.Proofs.YthjhaogfpdkhbaaDoor.Sh
/- dovetailref15.Write: it says what line.Write writes. -/
namespace Go.Proofs.YthjhaogfpdkhbaaDoor.Sh
open Go.RowKit YthjhaogfpdkhbaaDoorW.PrintWords YthjhaogfpdkhbaaDoorW.PrintLast YthjhaogfpdkhbaaDoorW.PrintMore
open B H F
def wdsR (l0 : List ByteArray) (l : List Int) : List S92 := l.map fun k => ⟨l0.getD k.toNat ByteArray.empty, false, 0⟩
theorem wdsR_wr (l0 : List ByteArray) (l : List Int) : (wdsR l0 l).map wr = wdsL l0 l := by simp [wdsR, wdsL, wr]
theorem refLine_l {l0 l1 : List ByteArray} {a2 : Int} {R : List S52} {l : List Int} (hz : ∀ x ∈ l0, x.size ≤ 32) (hl : l.length ≤ 65536) : ∀ (d i k : Nat), l.length - i = d → i ≤ l.length → (l.take i).any (noTok l0) = false → 50000000 + d < k →
 dovetailref15_Write.l0 k l (wdsR l0 (l.take i)) (i : Int) l0 l1 a2 R = some (if l.any (noTok l0) = true then (⟨#[]⟩, 1) else if 1048576 < (P.writeL (wdsL l0 l)).length then (⟨#[]⟩, 12) else (⟨(P.writeL (wdsL l0 l)).toArray⟩, 0)) := by
 intro d
 induction d with
 | zero =>
  intro i k hi hle han hk
  obtain ⟨k, rfl⟩ : ∃ j, k = j + 1 := ⟨k - 1, by omega⟩
  obtain rfl : i = l.length := by omega
  rw [List.take_length] at han ⊢
  have hb := wds_bound hz l
  have hbr : P.boundL ((wdsR l0 l).map wr) = P.boundL (wdsL l0 l) := by rw [wdsR_wr]
  rw [dovetailref15_Write.l0, if_neg (by omega), rWrite_f (wdsR l0 l) (by rw [hbr]; omega) k (by rw [hbr]; omega), Option.bind_some, wdsR_wr, P.size_lit]
  have hn : ¬ (l.any (noTok l0) = true) := by rw [han]; exact Bool.false_ne_true
  rw [if_neg hn]
  by_cases h : 1048576 < (P.writeL (wdsL l0 l)).length
  · rw [if_pos h, if_pos (by omega)]
  · rw [if_neg h, if_neg (by omega)]
 | succ d ih =>
  intro i k hi hle han hk
  obtain ⟨k, rfl⟩ : ∃ j, k = j + 1 := ⟨k - 1, by omega⟩
  have hlt : i < l.length := by omega
  have hrd : rd l (i : Int) = l[i] := by rw [rd_D, getD_lt _ _ _ hlt]
  rw [dovetailref15_Write.l0, if_pos (by omega), if_pos (by omega), hrd]
  by_cases h0 : l[i] < 0
  · have hany : l.any (noTok l0) = true := List.any_eq_true.2 ⟨_, List.getElem_mem hlt, by unfold noTok; simp [h0]⟩
    rw [if_pos h0, if_pos hany]
  · rw [if_neg h0]
    by_cases h1 : (l0.length : Int) ≤ l[i]
    · have hany : l.any (noTok l0) = true := List.any_eq_true.2 ⟨_, List.getElem_mem hlt, by unfold noTok; simp [h1]⟩
      rw [if_pos h1, if_pos hany]
    · have hno : noTok l0 l[i] = false := by unfold noTok; rw [decide_eq_false h0, decide_eq_false h1]; rfl
      have htk := List.take_succ_eq_append_getElem hlt
      have hwl : (wdsR l0 (l.take i)).length ≤ 65536 := by unfold wdsR; rw [List.length_map, List.length_take]; omega
      rw [if_neg h1, if_pos (by omega), if_pos (by omega), if_pos (by omega)]
      have hw : wrap64 ((i : Int) + 1) = ((i + 1 : Nat) : Int) := w64n i (by omega)
      have happ : wdsR l0 (l.take i) ++ [(⟨rdOf ByteArray.empty l0 l[i], false, 0⟩ : S92)] = wdsR l0 (l.take (i + 1)) := by
       rw [htk]; unfold wdsR; rw [List.map_append]; rfl
      rw [hw, happ]
      exact ih (i + 1) k (by omega) (by omega) (by rw [htk, List.any_append, han, Bool.false_or, List.any_cons, List.any_nil, Bool.or_false]; exact hno) (by omega)
theorem rLine_f {l0 l1 : List ByteArray} {a2 : Int} {R : List S52} {l : List Int} (m0 : l0.length ≤ 9223372036854775807) (m1 : l1.length ≤ 9223372036854775807) :
 ∃ k, dovetailref15_Write.f k l0 l1 a2 R l = some (⟨(lineP l0 l1 a2 R l).1.toArray⟩, (lineP l0 l1 a2 R l).2) := by
 refine ⟨50065537 + 1, ?_⟩
 unfold dovetailref15_Write.f lineP
 rw [refCheck_f l0 l1 a2 R m0 m1 _ (by omega), Option.bind_some]
 by_cases h : (chk (namesOK l0) (namesOK l1) l0.length l1.length a2 R).1 = 0
 · rw [if_pos h, if_pos h]
   obtain ⟨_, _, q3, _, _, _, _⟩ := chk_ok h
   by_cases hl : 65536 < l.length
   · rw [if_pos (by omega), if_pos hl]
   · rw [if_neg (by omega), if_neg hl]
     have := refLine_l (l0 := l0) (l1 := l1) (a2 := a2) (R := R) (l := l) (names_small q3) (by omega) l.length 0 (50065537 + 1) (by omega) (by omega) rfl (by omega)
     refine this.trans ?_
     congr 1
     by_cases h1 : l.any (noTok l0) = true
     · rw [if_pos h1, if_pos h1]
     · rw [if_neg h1, if_neg h1]
       by_cases h2 : 1048576 < (P.writeL (wdsL l0 l)).length
       · rw [if_pos h2, if_pos h2]
       · rw [if_neg h2, if_neg h2]
 · rw [if_neg h, if_neg h]
end Go.Proofs.YthjhaogfpdkhbaaDoor.Sh
/- dovetaillaw15.LineWrites: the walk (printed by tools/mk_linelw.py). -/
namespace Go.Proofs.YthjhaogfpdkhbaaDoor.Sh
open Go.RowKit YthjhaogfpdkhbaaDoorW.PrintWords YthjhaogfpdkhbaaDoorW.PrintLast YthjhaogfpdkhbaaDoorW.PrintMore
open B H F D
set_option maxHeartbeats 8000000 in
set_option maxRecDepth 100000 in
theorem LineWrites_calls (ad : Int → Addr) (A0 : Option Addr) (c0 : Nat) (l0 : List ByteArray) (A1 : Option Addr) (c1 : Nat) (l1 : List ByteArray) (a2 : Int) (A3 : Option Addr) (c3 : Nat) (R : List S52) (A : Option Addr) (c : Nat) (l : List Int) (w : World) (hs : SentsK ad w) (hr0 : Kd.C Kd.string w A0 l0.length l0) (hc0 : l0.length ≤ c0) (hr1 : Kd.C Kd.string w A1 l1.length l1) (hc1 : l1.length ≤ c1) (hr3 : Kd.C k52 w A3 R.length R) (hc3 : R.length ≤ c3) (hr : Kd.C (Kd.int .i64) w A l.length l) (hc : l.length ≤ c)
 (b0 : l0.length < 8796093022207) (b1 : l1.length < 8796093022207) (b3 : R.length < 4398046511104) (bx : ∀ x ∈ R, x.f1.length < 17592186044415) (bl : l.length < 17592186044415) :
 Calls Tryd.prog 3 #[.agg #[.slice A0 l0.length c0, .slice A1 l1.length c1, .int .i64 a2, .slice A3 R.length c3], .slice A l.length c] w fun e w' => e = .returned (.bool true) ∧ Below w.heap.size w w' := by
 obtain ⟨cs, hcs⟩ : ∃ cs : Array Value, cs = #[.slice A0 l0.length c0, .slice A1 l1.length c1, .int .i64 a2, .slice A3 R.length c3] := ⟨_, rfl⟩
 have st : GS w cs (w.alloc (.cells #[.slice A0 l0.length c0, .slice A1 l1.length c1, .int .i64 a2, .slice A3 R.length c3] 25)) := by subst hcs; exact GS.start w _
 have kL : ∀ W, GS w cs W → Calls Tryd.prog 10 #[.agg #[.slice A0 l0.length c0, .slice A1 l1.length c1, .int .i64 a2, .slice A3 R.length c3]] W fun e w' => ∃ B0 d0 B1 d1 B3 d3, e = .returned (.agg #[.slice B0 l0.length d0, .slice B1 l1.length d1, .int .i64 a2, .slice B3 R.length d3]) ∧ Aside0 (MG w' B0 d0 l0 B1 d1 l1 B3 d3 R ∧ GS w cs w') :=
  fun W hW => (LentGrammar_m A0 c0 l0 A1 c1 l1 a2 A3 c3 R W (Kd.C_below hr0 hW.low) (Kd.C_below hr1 hW.low) (Kd.C_below hr3 hW.low) b0 b1 b3 bx).mono fun e w' ⟨B0, d0, B1, d1, B3, d3, he, hm⟩ => ⟨B0, d0, B1, d1, B3, d3, he, ⟨hm.out.1, hW.more hm.out.2⟩⟩
 have kI : ∀ W, GS w cs W → Calls Tryd.prog 11 #[.slice A l.length c] W fun e w' => ∃ B d, e = .returned (.slice B l.length d) ∧ Aside0 (l.length + 1 ≤ d ∧ Kd.C (Kd.int .i64) w' B (l.length + 1) (l ++ [-7171]) ∧ Below W.heap.size W w') := by
  intro W hW
  refine (LentInts_m A c l W (Kd.C_below hr hW.low) bl).mono ?_
  rintro e w' ⟨B, d, he, h⟩
  obtain ⟨h1, h2, h3⟩ := Kd.R_reads' h.out.1
  rw [← h1] at h3
  exact ⟨B, d, he, ⟨h2, h3, h.out.2⟩⟩
 have ST := Aside0.mk st
 have KL := Aside0.mk kL
 have KI := Aside0.mk kI
 have HS := Aside0.mk hs
 have HR0 := Aside0.mk hr0
 have HR1 := Aside0.mk hr1
 have HR3 := Aside0.mk hr3
 have HR := Aside0.mk hr
 have HCS := Lib.hid hcs
 have HB := Lib.hid (And.intro b0 (And.intro b1 (And.intro b3 bl)))
 clear hs hr0 hr1 hr3 hr st kL kI hcs b0 b1 b3 bl bx
 go_enter Tryd.func3, Tryd.ntmps3
 go_wp2_with (first
  | (go_at_call 10; (with_reducible refine (KL.out _ ST.out).mono ?_); rintro e w1 ⟨B0, d0, B1, d1, B3, d3, rfl, hm1⟩)
  | (go_at_call 11; (with_reducible refine (KI.out _ hm1.out.2).mono ?_); rintro e w2 ⟨D, d, rfl, hm2⟩)
  | (go_at_call 12; refine Aside0.out ?_))
 refine Aside0.mk ?_
 have hr0 := HR0.out
 have hr1 := HR1.out
 have hr3 := HR3.out
 have hr := HR.out
 have hs := HS.out
 obtain ⟨hmg, hgw⟩ := hm1.out
 obtain ⟨hd, hri, hbi⟩ := hm2.out
 obtain ⟨b0, b1, b3, bl⟩ := HB.out
 have m0 := C_max hr0
 have m1 := C_max hr1
 obtain ⟨bs, hbs⟩ : ∃ bs : Array Value, bs = #[.slice B0 l0.length d0, .slice B1 l1.length d1, .int .i64 a2, .slice B3 R.length d3] := ⟨_, rfl⟩
 have t1 : TN w w2 cs bs (w2.alloc (.cells #[.slice B0 l0.length d0, .slice B1 l1.length d1, .int .i64 a2, .slice B3 R.length d3] 25)) := by
  subst hbs
  exact TN.start (hgw.more hbi)
 have CE : ∀ W, TN w w2 cs bs W → W.cell? ⟨w.heap.size, 0, none⟩ = some (.slice A0 l0.length c0) ∧ W.cell? ⟨w.heap.size, 1, none⟩ = some (.slice A1 l1.length c1) ∧ W.cell? ⟨w.heap.size, 2, none⟩ = some (.int .i64 a2) ∧ W.cell? ⟨w.heap.size, 3, none⟩ = some (.slice A3 R.length c3) ∧ W.cell? ⟨w2.heap.size, 0, none⟩ = some (.slice B0 l0.length d0) ∧ W.cell? ⟨w2.heap.size, 1, none⟩ = some (.slice B1 l1.length d1) ∧ W.cell? ⟨w2.heap.size, 2, none⟩ = some (.int .i64 a2) ∧ W.cell? ⟨w2.heap.size, 3, none⟩ = some (.slice B3 R.length d3) := by
  intro W hW; have hcs := HCS.out; subst hcs hbs; exact hW.cells
 have e0 := hmg.h0
 have e1 := hmg.h1
 have e3 := hmg.r3.1
 have q0 : ∀ W, TN w w2 cs bs W → Kd.C Kd.string W A0 l0.length l0 := fun W hW => Kd.C_below hr0 hW.low
 have q1 : ∀ W, TN w w2 cs bs W → Kd.C Kd.string W A1 l1.length l1 := fun W hW => Kd.C_below hr1 hW.low
 have q3 : ∀ W, TN w w2 cs bs W → Kd.C k52 W A3 R.length R := fun W hW => Kd.C_below hr3 hW.low
 have qm : ∀ W, TN w w2 cs bs W → MG W B0 d0 l0 B1 d1 l1 B3 d3 R := fun W hW => (hmg.below hbi).below hW.low1
 have p0 : ∀ W, TN w w2 cs bs W → Kd.C Kd.string W B0 l0.length l0 := fun W hW => C_pre (qm W hW).r0
 have p1 : ∀ W, TN w w2 cs bs W → Kd.C Kd.string W B1 l1.length l1 := fun W hW => C_pre (qm W hW).r1
 have p3 : ∀ W, TN w w2 cs bs W → Kd.C k52 W B3 R.length R := fun W hW => (qm W hW).r3.reads
 have kU : ∀ W, TN w w2 cs bs W → Calls Tryd.prog 12 #[.agg #[.slice B0 l0.length d0, .slice B1 l1.length d1, .int .i64 a2, .slice B3 R.length d3], .slice D l.length d] W fun e w' => ∃ E r, e = .returned (.tuple #[.string ⟨(lineP l0 l1 a2 R l).1.toArray⟩, E]) ∧ Aside0 (TZ ad E ((lineP l0 l1 a2 R l).2, r) w w2 cs bs w') :=
  fun W hW => (lineWrite_calls ad B0 d0 l0 B1 d1 l1 a2 B3 d3 R D d l W (hs.below hW.low) (p0 W hW) (by omega) (p1 W hW) (by omega) (p3 W hW) (by omega) (C_pre (Kd.C_below hri hW.low1)) (by omega)).mono fun e w' ⟨E, r, he, hE, hb⟩ => ⟨E, r, he, ⟨hW.more hb, hE⟩⟩
 have kV : ∀ W, TN w w2 cs bs W → Calls Tryd.prog 13 #[.agg #[.slice A0 l0.length c0, .slice A1 l1.length c1, .int .i64 a2, .slice A3 R.length c3], .slice A l.length c] W fun e w' => e = .returned (.tuple #[.string ⟨(lineP l0 l1 a2 R l).1.toArray⟩, .int .i64 (lineP l0 l1 a2 R l).2]) ∧ Below W.heap.size W w' := by
  intro W hW
  obtain ⟨kk, hrf⟩ := rLine_f (l0 := l0) (l1 := l1) (a2 := a2) (R := R) (l := l) m0 m1
  exact dovetailref15_Write.calls kk A0 c0 l0 A1 c1 l1 a2 A3 c3 R A c l _ _ W (q0 W hW) hc0 (q1 W hW) hc1 (q3 W hW) hc3 (Kd.C_below hr hW.low) hc hrf
 have kK : ∀ W, TN w w2 cs bs W → Calls Tryd.prog 15 #[.agg #[.slice B0 l0.length d0, .slice B1 l1.length d1, .int .i64 a2, .slice B3 R.length d3], .agg #[.slice A0 l0.length c0, .slice A1 l1.length c1, .int .i64 a2, .slice A3 R.length c3]] W fun e w' => e = .returned (.bool true) ∧ Aside0 (TN w w2 cs bs w') ∧ w'.cell? ⟨w.heap.size, 0, none⟩ = some (.slice A0 l0.length c0) ∧ w'.cell? ⟨w.heap.size, 1, none⟩ = some (.slice A1 l1.length c1) ∧ w'.cell? ⟨w.heap.size, 2, none⟩ = some (.int .i64 a2) ∧ w'.cell? ⟨w.heap.size, 3, none⟩ = some (.slice A3 R.length c3) ∧ w'.cell? ⟨w2.heap.size, 0, none⟩ = some (.slice B0 l0.length d0) ∧ w'.cell? ⟨w2.heap.size, 1, none⟩ = some (.slice B1 l1.length d1) ∧ w'.cell? ⟨w2.heap.size, 2, none⟩ = some (.int .i64 a2) ∧ w'.cell? ⟨w2.heap.size, 3, none⟩ = some (.slice B3 R.length d3) :=
  fun W hW => (KeptGrammar_yes B0 d0 B1 d1 B3 d3 A0 c0 l0 A1 c1 l1 a2 A3 c3 R W (qm W hW) (q0 W hW) hc0 (q1 W hW) hc1 (q3 W hW) hc3).mono fun e w' ⟨he, hb⟩ => ⟨he, ⟨hW.more hb⟩, CE _ (hW.more hb)⟩
 have kJ : ∀ W, TN w w2 cs bs W → Calls Tryd.prog 16 #[.slice D l.length d, .slice A l.length c] W fun e w' => e = .returned (.bool true) ∧ Aside0 (TN w w2 cs bs w') ∧ w'.cell? ⟨w.heap.size, 0, none⟩ = some (.slice A0 l0.length c0) ∧ w'.cell? ⟨w.heap.size, 1, none⟩ = some (.slice A1 l1.length c1) ∧ w'.cell? ⟨w.heap.size, 2, none⟩ = some (.int .i64 a2) ∧ w'.cell? ⟨w.heap.size, 3, none⟩ = some (.slice A3 R.length c3) ∧ w'.cell? ⟨w2.heap.size, 0, none⟩ = some (.slice B0 l0.length d0) ∧ w'.cell? ⟨w2.heap.size, 1, none⟩ = some (.slice B1 l1.length d1) ∧ w'.cell? ⟨w2.heap.size, 2, none⟩ = some (.int .i64 a2) ∧ w'.cell? ⟨w2.heap.size, 3, none⟩ = some (.slice B3 R.length d3) :=
  fun W hW => (KeptInts_yes D d A c l W hd (Kd.C_below hri hW.low1) hc (Kd.C_below hr hW.low)).mono fun e w' ⟨he, hb⟩ => ⟨he, ⟨hW.more hb⟩, CE _ (hW.more hb)⟩
 generalize lineP l0 l1 a2 R l = pr at kU kV
 obtain ⟨rl, kn⟩ := pr
 dsimp only at kU kV
 generalize (⟨rl.toArray⟩ : ByteArray) = rs at kU kV
 have kD : ∀ E p W, TZ ad E p w w2 cs bs W → Calls Tryd.prog 14 #[E] W fun e w' => e = .returned (.int .i64 p.1) ∧ Aside0 (TN w w2 cs bs w') ∧ w'.cell? ⟨w.heap.size, 0, none⟩ = some (.slice A0 l0.length c0) ∧ w'.cell? ⟨w.heap.size, 1, none⟩ = some (.slice A1 l1.length c1) ∧ w'.cell? ⟨w.heap.size, 2, none⟩ = some (.int .i64 a2) ∧ w'.cell? ⟨w.heap.size, 3, none⟩ = some (.slice A3 R.length c3) ∧ w'.cell? ⟨w2.heap.size, 0, none⟩ = some (.slice B0 l0.length d0) ∧ w'.cell? ⟨w2.heap.size, 1, none⟩ = some (.slice B1 l1.length d1) ∧ w'.cell? ⟨w2.heap.size, 2, none⟩ = some (.int .i64 a2) ∧ w'.cell? ⟨w2.heap.size, 3, none⟩ = some (.slice B3 R.length d3) := fun E p W hW => (Kind_w (hs.below hW.1.low) hW.2).mono fun e w' ⟨he, hb⟩ => ⟨he, ⟨hW.1.more hb⟩, CE _ (hW.1.more hb)⟩
 have T1 := Aside0.mk t1
 have CE' := Aside0.mk CE
 have KU := Aside0.mk kU
 have KV := Aside0.mk kV
 have KK := Aside0.mk kK
 have KJ := Aside0.mk kJ
 have KD := Aside0.mk kD
 have HBS := Lib.hid hbs
 clear hr0 hr1 hr3 hr hs hmg hgw hri hbi HR0 HR1 HR3 HR HS KL KI ST hm1 hm2 t1 CE q0 q1 q3 qm p0 p1 p3 kU kV kK kJ kD hbs b0 b1 b3 bl m0 m1 e0 e1 e3 HB hd
 (with_reducible refine (KU.out _ T1.out).mono ?_); rintro e w3 ⟨E, r, rfl, u3⟩
 obtain ⟨f0, f1, f2, f3, f4, f5, f6, f7⟩ := CE'.out _ u3.out.tn
 have KD1 : Aside0 (∀ W, TZ ad E (kn, r) w w2 cs bs W → Calls Tryd.prog 14 #[E] W fun e w' => e = .returned (.int .i64 kn) ∧ Aside0 (TN w w2 cs bs w') ∧ w'.cell? ⟨w.heap.size, 0, none⟩ = some (.slice A0 l0.length c0) ∧ w'.cell? ⟨w.heap.size, 1, none⟩ = some (.slice A1 l1.length c1) ∧ w'.cell? ⟨w.heap.size, 2, none⟩ = some (.int .i64 a2) ∧ w'.cell? ⟨w.heap.size, 3, none⟩ = some (.slice A3 R.length c3) ∧ w'.cell? ⟨w2.heap.size, 0, none⟩ = some (.slice B0 l0.length d0) ∧ w'.cell? ⟨w2.heap.size, 1, none⟩ = some (.slice B1 l1.length d1) ∧ w'.cell? ⟨w2.heap.size, 2, none⟩ = some (.int .i64 a2) ∧ w'.cell? ⟨w2.heap.size, 3, none⟩ = some (.slice B3 R.length d3)) := ⟨fun W hW => KD.out E _ W hW⟩
 go_wp2_with (first
  | (go_at_call 13; go_loud ((with_reducible refine (KV.out _ u3.out.tn).mono ?_); clear f0 f1 f2 f3 f4 f5 f6 f7; rintro e w4 ⟨rfl, b4⟩; have u4 := Aside0.mk (u3.out.more b4); clear b4; obtain ⟨f0, f1, f2, f3, f4, f5, f6, f7⟩ := CE'.out _ u4.out.tn))
  | (go_at_call 14; (with_reducible refine (KD1.out _ u4.out).mono ?_); clear f0 f1 f2 f3 f4 f5 f6 f7; rintro e w5 ⟨rfl, t5, f0, f1, f2, f3, f4, f5, f6, f7⟩)
  | (go_at_call 15; (with_reducible refine (KK.out _ t5.out).mono ?_); clear f0 f1 f2 f3 f4 f5 f6 f7; rintro e w6 ⟨rfl, t6, f0, f1, f2, f3, f4, f5, f6, f7⟩)
  | (go_at_call 16; (with_reducible refine (KJ.out _ t6.out).mono ?_); clear f0 f1 f2 f3 f4 f5 f6 f7; rintro e w7 ⟨rfl, t7, f0, f1, f2, f3, f4, f5, f6, f7⟩))
 go_ret
 exact ⟨rfl, t7.out.low⟩
end Go.Proofs.YthjhaogfpdkhbaaDoor.Sh
namespace Go.Proofs.YthjhaogfpdkhbaaDoor.lineWrites
open Go.ChangeShapes Go.WideShapes Go.ChangeAt Go.RowKit YthjhaogfpdkhbaaDoorW.PrintWords H B

theorem own : ownKnob Tryd.prog.godebug = none := by kernel_rfl
theorem laidOut : laidOutB Tryd.prog = true := by kernel_rfl
theorem bounds_i {n : Int} (h : (Lit.int .i64 n).wf = true) : -9223372036854775808 ≤ n ∧ n < 9223372036854775808 := by
 have h1 : IntKind.i64.min = -9223372036854775808 := by decide
 have h2 : IntKind.i64.max = 9223372036854775807 := by decide
 have h3 : (decide (IntKind.i64.min ≤ n) && decide (n ≤ IntKind.i64.max)) = true := h
 rw [h1, h2] at h3
 simp only [Bool.and_eq_true, decide_eq_true_eq] at h3
 omega

set_option maxRecDepth 100000 in
theorem contract (H : Type) (enc : TypeId × Value → H) (W : World) (base : Nat) (args : Array Value) (ds gs : List (DataW H)) (before : List MemPlace)
 (hval : ∀ (j : Nat) t v, Tryd.f3.params[j]? = some t → args[j]? = some v → Value.okWide Tryd.prog W .any base t v)
 (ad : Int → Addr) (hs : SentsK ad W)
 (hz : (DataW.weightsEach Tryd.prog (Tryd.f3.params.toList ++ (OpenSpec.ofChange Rows.lineWritesSpec).bare.plain.varTypes Tryd.prog) (ds ++ gs)).all (· ≤ reachBytes) = true)
 (hW : DataW.Whole enc Tryd.prog Tryd.f3.params.toList Rows.lineWritesSpec.vars false W args.toList ds gs before) :
 Calls Tryd.prog 3 args W fun e W' => ∃ v, e = .returned v ∧ Rows.lineWritesSpec.post enc Tryd.prog Tryd.f3 false true false false W args v W' := by
 have hW' := hW
 obtain ⟨p, q, hA0, hV, rfl, hfz, hnd⟩ := hW
 have hA : DataW.TrodAll enc Tryd.prog W 0 (fun _ => true) true Tryd.f3.params.toList args.toList ds p := hA0
 rw [Tryd.params3] at hA hval
 obtain ⟨v0, vs0, d0, ds0, p0, q0, hargs, rfl, rfl, h0, r0⟩ := trodAll_cons hA
 obtain ⟨v1, vs1, d1, ds1, p1, q1, rfl, rfl, rfl, h1, r1⟩ := trodAll_cons r0
 obtain ⟨rfl, rfl, rfl⟩ := trodAll_nil r1
 obtain rfl : args = #[v0, v1] := by cases args; simp_all
 obtain ⟨rfl, rfl⟩ := trodVars_none hV
 obtain ⟨g0, A00, c00, A01, c01, A03, c03, rfl, l00, k00, l01, k01, l03, k03, z00, z01, z03, zx0⟩ := OG.open_gz (hval 0 25 v0 rfl rfl) h0 (fun n hn => by simpa using List.all_eq_true.1 hz n (DataW.weights_mem_each (j := 0) (by kernel_rfl) rfl n hn))
 obtain ⟨x1, A1, c1, rfl, l1, k1, m1, z1⟩ := OG.open_iz (hval 1 26 v1 rfl rfl) h1 (fun n hn => by simpa using List.all_eq_true.1 hz n (DataW.weights_mem_each (j := 1) (by kernel_rfl) rfl n hn))
 refine (Sh.LineWrites_calls ad A00 c00 g0.f0 A01 c01 g0.f1 g0.f2 A03 c03 g0.f3 A1 c1 x1 W hs k00 l00 k01 l01 k03 l03 k1 l1 z00 z01 z03 zx0 z1).mono fun e W' ⟨he, bel⟩ => ?_
 subst he
 simp only [List.append_nil] at hW'
 exact ⟨_, rfl, _, _, _, [], _, [], hW', trodAll_mk1 (shut_bool Tryd.underlying4 _), (trodAll_cons_mk (Below.trod laidOut (by kernel_rfl) (of_decide_eq_true (by kernel_rfl)) h0 bel (trod_below h0)) (trodAll_cons_mk (Below.trod laidOut (by kernel_rfl) (of_decide_eq_true (by kernel_rfl)) h1 bel (trod_below h1)) trodAll_mk0)), rfl, bel.frame _, fun h => by cases h⟩

theorem laid_met (os : Os) (args : Array Value) : laidMetH Tryd.prog Rows.lineWritesRow.laid ((laidWorld16 os).forCall (fun _ _ => 0) ⟨#[], args, []⟩).memory := L15.laid_met os args
theorem sents {W : World} (h : laidMetH Tryd.prog Rows.lineWritesRow.laid W) : ∃ ad, SentsK ad W := L15.sents h
theorem reads (os : Os) {H : Type} (enc : TypeId × Value → H) : ∃ places, DataW.whole enc Tryd.prog ((laidWorld16 os).forCall (fun _ _ => 0) ⟨#[], #[Value.agg #[.slice none 0 0, .slice none 0 0, .int .i64 0, .slice none 0 0], Value.slice none 0 0], []⟩).memory Tryd.f3.params.toList Rows.lineWritesSpec.vars false (#[Value.agg #[.slice none 0 0, .slice none 0 0, .int .i64 0, .slice none 0 0], Value.slice none 0 0] : Array Value).toList 8 = some ([.agg [.nil, .nil, .lit (.int .i64 0), .nil], .nil], [], places) :=
 ⟨[], by kernel_rfl⟩

set_option maxRecDepth 100000 in
theorem lifted (os : Os) (started : os.Started) (H : Type) (enc : TypeId × Value → H) (F : Stop.Interp) :
 ReturnsInHanded {} Tryd.checked os 3 .any ((OpenSpec.ofChange Rows.lineWritesSpec).preRow enc Tryd.prog Tryd.f3 Rows.lineWritesRow.domain false Rows.lineWritesRow.laid) (((OpenSpec.ofChange Rows.lineWritesSpec).at F).post enc Tryd.prog Tryd.f3 false true false false) := by
 obtain ⟨places, hx⟩ := reads os enc
 refine returnsInHanded_of_row (C := Tryd.checked) (s := OpenSpec.ofChange Rows.lineWritesSpec) own started (by kernel_rfl) Tryd.func3
  (witness_row_atRef (enc := enc) (C := Tryd.checked) false (laidWorld16 os) #[Value.agg #[.slice none 0 0, .slice none 0 0, .int .i64 0, .slice none 0 0], Value.slice none 0 0] rfl (by kernel_rfl) (by kernel_rfl) (by kernel_rfl)
   (OpenSpec.preRow_of_cond 8 hx (by kernel_rfl) (fun k hk => by cases hk) (by kernel_rfl) (laid_met os _))) ?_
 intro W base args ds gs before hval hW _ hcond hz hL _ _
 obtain ⟨ad, hs⟩ := sents hL
 exact contract H enc W base args ds gs before hval ad hs hz hW

theorem said : Rows.LineWritesSaid :=
 OpenClaim.holds_of_cond 3 Tryd.f3 rfl rfl rfl rfl rfl rfl rfl ⟨rfl, rfl, rfl, rfl, rfl⟩ rfl rfl rfl rfl rfl (by kernel_rfl) Tryd.func3 (by kernel_rfl)
  (of_decide_eq_true (by kernel_rfl)) (by unfold Func.isWrapper; first | (rw [if_pos (by decide +kernel)]; kernel_rfl) | (rw [if_neg (by decide +kernel)]; exact ⟨rfl, rfl⟩))
  (fun os started H enc _ F => by rw [OpenClaim.pre_eq_preRow]; exact lifted os started H enc F)

theorem plain (f : FuncId) (fn : Func) (hf : Tryd.pinned.checked.prog.funcNamed "dovetail/dovetaillaw15.LineWrites" = some f) (hfn : Tryd.pinned.checked.prog.funcs[f]? = some fn) :
 true = Tryd.pinned.checked.prog.looks [] ∧ ∀ (j : Nat) t, fn.params[j]? = some t → Tryd.pinned.checked.prog.wantsStandIn t = false := by
 obtain rfl : f = 3 := Option.some.inj ((show Tryd.prog.funcNamed "dovetail/dovetaillaw15.LineWrites" = some 3 by kernel_rfl).symm.trans hf) |>.symm
 obtain rfl : fn = Tryd.f3 := (Option.some.inj (Tryd.func3.symm.trans hfn)).symm
 refine ⟨by kernel_rfl, fun j t ht => ?_⟩
 rw [Tryd.params3] at ht
 have hm : t = 25 ∨ t = 26 := by simpa using Array.mem_of_getElem? ht
 rcases hm with rfl | rfl
 · exact (show Tryd.prog.wantsStandIn 25 = false by kernel_rfl)
 · exact (show Tryd.prog.wantsStandIn 26 = false by kernel_rfl)

theorem proved : Rows.LineWritesCardSaid :=
 Claim7.holds_tied_plain_at .later [] _ _ _ _ said (fun _ h => by cases h) (by kernel_rfl) (fun _ h => by cases h) lineWrites_row_tie rfl ⟨rfl, rfl⟩ (by kernel_rfl) rfl plain (by kernel_rfl)
#print axioms proved
end Go.Proofs.YthjhaogfpdkhbaaDoor.lineWrites
