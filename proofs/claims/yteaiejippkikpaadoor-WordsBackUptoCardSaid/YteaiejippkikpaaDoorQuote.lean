/- words.Quote: what it answers, for every text that it may quote. -/
import Derived.Test.YteaiejippkikpaaDoorBuilder
import Derived.Test.YteaiejippkikpaaDoorPureW
set_option linter.unusedVariables false
namespace Go.Proofs.YteaiejippkikpaaDoor.H
open Go.RowKit

/-- A builder of the call's own that holds a text. -/
def BU (B b : Nat) (l : List UInt8) (w : World) : Prop := Lib.IsBuilder 133 5 B b (Lib.byteCells l) w
theorem wByte (B b : Nat) (l : List UInt8) (c : UInt8) (w : World) (h : BU B b l w) (hlen : l.length + 1 ≤ 140737488355328) (hBw : B ≤ w.heap.size) :
    Calls Tryd.prog 89 #[.pointer (some ⟨b, 0, none⟩), .int .u8 c.toNat] w fun e w' => e = .returned .nilIface ∧ BU B b (l ++ [c]) w' ∧ Below B w w' ∧ KeptX b w w' := by
  refine (writeByte B b (Lib.byteCells l) c.toNat w h (by rw [Lib.byteCells_length]; exact hlen) hBw).mono ?_
  rintro e w' ⟨rfl, h1, hb, hkx⟩
  refine ⟨rfl, .inr ?_, hb, hkx⟩
  have : Lib.byteCells (l ++ [c]) = Lib.byteCells l ++ [.int .u8 c.toNat] := by simp [Lib.byteCells]
  rw [this]; exact h1
theorem wByteN (B b : Nat) (l : List UInt8) (n : Nat) (hn : n < 256) (w : World) (h : BU B b l w) (hlen : l.length + 1 ≤ 140737488355328) (hBw : B ≤ w.heap.size) :
    Calls Tryd.prog 89 #[.pointer (some ⟨b, 0, none⟩), .int .u8 n] w fun e w' => e = .returned .nilIface ∧ BU B b (l ++ [UInt8.ofNat n]) w' ∧ Below B w w' ∧ KeptX b w w' := by
  have := wByte B b l (UInt8.ofNat n) w h hlen hBw
  rw [UInt8.toNat_ofNat_of_lt' hn] at this
  exact this
theorem wStr (B b : Nat) (l : List UInt8) (s : ByteArray) (w : World) (h : BU B b l w) (hlen : l.length + s.size ≤ 140737488355328) (hBw : B ≤ w.heap.size) :
    Calls Tryd.prog 90 #[.pointer (some ⟨b, 0, none⟩), .string s] w fun e w' => e = .returned (.tuple #[.int .i64 s.size, .nilIface]) ∧ BU B b (l ++ s.data.toList) w' ∧ Below B w w' ∧ KeptX b w w' := by
  refine (writeString B b (Lib.byteCells l) s w h (by rw [Lib.byteCells_length]; exact hlen) hBw).mono ?_
  rintro e w' ⟨rfl, h1, hb, hkx⟩
  refine ⟨rfl, .inr ?_, hb, hkx⟩
  have : Lib.byteCells (l ++ s.data.toList) = Lib.byteCells l ++ Lib.strCells s := by simp [Lib.byteCells, Lib.strCells]
  rw [this]; exact h1
theorem wText (B b : Nat) (l : List UInt8) (w : World) (h : BU B b l w) (hBw : B ≤ w.heap.size) :
    Calls Tryd.prog 91 #[.pointer (some ⟨b, 0, none⟩)] w fun e w' => e = .returned (.string ⟨l.toArray⟩) ∧ Below B w w' := string_any B b l w h hBw
theorem BU_new (w : World) : BU w.heap.size w.heap.size [] (w.alloc (.cells #[.pointer none, .slice none 0 0] 133)) := Lib.fresh_isBuilder _ _ w
theorem BU_drew {B b : Nat} {l : List UInt8} {w : World} (h : BU B b l w) : BU B b l w.drew := by
  rcases h with h | h
  · exact .inl h.drew
  · exact .inr h.drew

theorem BU_lt {B b : Nat} {l : List UInt8} {w : World} (h : BU B b l w) : b < w.heap.size := by
  rcases h with h | h
  · exact h.lt
  · exact h.lt
theorem BA_below {B b : Nat} {p : Value} {l : List Value} {w w' : World} (h : Lib.BuilderAt 133 5 B b p l w) (hb : Below w.heap.size w w') : Lib.BuilderAt 133 5 B b p l w' := by
  have hlt := h.lt
  obtain ⟨h1, v, h2, h3, h4⟩ := h
  exact ⟨h1, v, (hb.block b hlt).trans h2, h3.kept ⟨hb.os, hb.tape, hb.output, hb.size, fun i hi _ => hb.block i hi⟩ (row := none) (by cases v.ownBlock <;> simp), h4⟩
theorem BU_below {B b : Nat} {l : List UInt8} {w w' : World} (h : BU B b l w) (hb : Below w.heap.size w w') : BU B b l w' := by
  rcases h with h | h
  · exact .inl (BA_below h hb)
  · exact .inr (BA_below h hb)
theorem BU_alloc {B b : Nat} {l : List UInt8} {w : World} (h : BU B b l w) (o : Obj) : BU B b l (w.alloc o) := BU_below h ((Below.refl _ w).alloc (Nat.le_refl _) o)
theorem below_drew {B : Nat} {w W : World} (h : Below B w W) : Below B w W.drew := ⟨h.os, h.tape, h.output, h.size, h.block⟩
theorem wrapU8 (x : Int) (h0 : 0 ≤ x) (h1 : x ≤ 255) : IntKind.u8.wrap x = x := by
  simp only [IntKind.wrap, IntKind.bits, IntKind.signed]
  simp
  omega
set_option maxHeartbeats 4000000 in
set_option maxRecDepth 100000 in
theorem Quote_calls (s : ByteArray) (w : World) (hs : 4 * s.size + 2 ≤ 140737488355328) :
    Calls Tryd.prog 88 #[.string s] w fun e w' => e = .returned (.string ⟨(P.quoteL s.data.toList).toArray⟩) ∧ Below w.heap.size w w' := by
  have h1 := BU_new w
  go_enter Tryd.func88, Tryd.ntmps88
  go_wp2_with (go_at_call 89; refine (wByteN w.heap.size w.heap.size [] 34 (by omega) _ h1 (by simp) (by simp)).mono ?_; rintro e w1 ⟨rfl, hb1, hw1, _⟩)
  go_loopw [9] (fun i wr => ∃ k : Nat, k ≤ s.size ∧ i = .int .i64 k ∧ BU w.heap.size w.heap.size (P.quoteTo (s.data.toList.take k)) wr ∧ Below w.heap.size w wr) (fun i _ => s.size - (intOf i).toNat)
  case atStart => exact ⟨0, Nat.zero_le _, rfl, hb1, ((Below.refl _ w).alloc (Nat.le_refl _) _).trans hw1⟩
  case round =>
    clear h1 hb1 hw1
    obtain ⟨k, hk, rfl, hbu, hbe⟩ := hrel
    have hlen := P.quoteTo_length (s.data.toList.take k)
    have htl := P.take_len s k
    have hsz := hbe.size
    by_cases hlt : k < s.size
    · have hsn := P.quoteTo_snoc (s.data.toList.take k) s[k]
      have hts := P.take_snoc s k hlt
      rw [← hts] at hsn
      have HS := Lib.hid hsn
      clear hsn hts
      have hcb := s[k].toNat_lt
      generalize hcc : s[k] = c at *
      have e0 : ∀ (n : Nat) (hn : n < 256), (c = UInt8.ofNat n ↔ c.toNat = n) := fun n hn => ⟨fun h => by rw [h, UInt8.toNat_ofNat_of_lt' hn], fun h => UInt8.toNat_inj.mp (by rw [h, UInt8.toNat_ofNat_of_lt' hn])⟩
      have x34 := e0 34 (by omega)
      have x92 := e0 92 (by omega)
      have x10 := e0 10 (by omega)
      clear e0
      have hext : (s.extract k (k + 1)).data.toList = [c] := by rw [P.extract_one s k hlt, hcc]
      have hex1 := P.size_one s k hlt
      have HC := Lib.hid hcc
      have HX := Lib.hid hext
      have HX1 := Lib.hid hex1
      clear hext hex1
      by_cases hc1 : c.toNat = 34 ∨ c.toNat = 92
      · have hq := P.qb_esc c (by rcases hc1 with h | h; exact .inl (x34.mpr h); exact .inr (x92.mpr h))
        have HQ := Lib.hid hq
        have ee : ((c.toNat : Int) == 34) = true ∨ ((c.toNat : Int) == 34) = false ∧ ((c.toNat : Int) == 92) = true := by
          rcases hc1 with h | h
          · exact .inl (beq_iff_eq.2 (by omega))
          · exact .inr ⟨beq_eq_false_iff_ne.2 (by omega), beq_iff_eq.2 (by omega)⟩
        clear hq x34 x92 x10 hc1
        rcases ee with e1 | ⟨e1, e2⟩
        all_goals
          go_wp2_with fail
          refine (wStr w.heap.size w.heap.size _ _ _ hbu ?_ hsz).mono ?_
          · rw [P.size_append, HX1.out]
            have : (⟨#[92]⟩ : ByteArray).size = 1 := rfl
            omega
          rintro e w2 ⟨rfl, hb2, hw2, _⟩
          go_wp2_with fail
          go_roundw
          case measure => simp [intOf]; omega
          case rel =>
            refine ⟨k + 1, by omega, by go_num, ?_, hbe.trans hw2⟩
            rw [HS.out, HQ.out]
            have hfin : (({ data := #[92] } : ByteArray) ++ s.extract k (k + 1)).data.toList = [92, c] := by rw [P.data_append, HX.out]; rfl
            rw [hfin] at hb2
            exact hb2
      · have f1 : ((c.toNat : Int) == 34) = false := beq_eq_false_iff_ne.2 (by omega)
        have f2 : ((c.toNat : Int) == 92) = false := beq_eq_false_iff_ne.2 (by omega)
        have hn : ¬ (c = 34 ∨ c = 92) := fun h => hc1 (h.imp x34.mp x92.mp)
        by_cases hc2 : c.toNat = 10
        · have f3 : ((c.toNat : Int) == 10) = true := beq_iff_eq.2 (by omega)
          have HQ := Lib.hid (P.qb_nl c hn (x10.mpr hc2))
          clear x34 x92 x10 hc1 hc2 hn
          go_wp2_with fail
          refine (wStr w.heap.size w.heap.size _ _ _ hbu ?_ hsz).mono ?_
          · have : (⟨#[92, 110]⟩ : ByteArray).size = 2 := rfl
            omega
          rintro e w2 ⟨rfl, hb2, hw2, _⟩
          go_wp2_with fail
          go_roundw
          case measure => simp [intOf]; omega
          case rel =>
            refine ⟨k + 1, by omega, by go_num, ?_, hbe.trans hw2⟩
            rw [HS.out, HQ.out]
            exact hb2
        · have f3 : ((c.toNat : Int) == 10) = false := beq_eq_false_iff_ne.2 (by omega)
          have hn2 : ¬ c = 10 := fun h => hc2 (x10.mp h)
          by_cases hc3 : c.toNat < 32 ∨ 126 < c.toNat
          · have HQ := Lib.hid (P.qb_hex c hn hn2 (by rcases hc3 with h | h; exact .inl (UInt8.lt_iff_toNat_lt.mpr h); exact .inr (UInt8.lt_iff_toNat_lt.mpr h)))
            have ee : decide ((c.toNat : Int) < 32) = true ∨ decide ((c.toNat : Int) < 32) = false ∧ decide (126 < (c.toNat : Int)) = true := by
              rcases hc3 with h | h
              · exact .inl (by simp; omega)
              · rcases Nat.lt_or_ge c.toNat 32 with h' | h'
                · exact .inl (by simp; omega)
                · exact .inr ⟨by simp; omega, by simp; omega⟩
            clear x34 x92 x10 hc1 hc2 hn hn2 hc3
            have g1 : IntKind.u8.wrap ((c.toNat : Int) / 16 + 1) = (c.toNat : Int) / 16 + 1 := wrapU8 _ (by omega) (by omega)
            have g2 : (0 : Int) ≤ (c.toNat : Int) / 16 := by omega
            have g3 : (c.toNat : Int) / 16 + 1 ≤ 16 := by omega
            have g4 : (c.toNat : Int) / 16 ≤ (c.toNat : Int) / 16 + 1 := by omega
            have g5 : ((c.toNat : Int) / 16).toNat = c.toNat / 16 := by omega
            have g6 : ((c.toNat : Int) / 16 + 1).toNat = c.toNat / 16 + 1 := by omega
            have g7 : ¬ 9223372036854775807 < 2 + (min (c.toNat / 16 + 1) 16 - c.toNat / 16) := by omega
            have b1 : bits .and .u8 (c.toNat : Int) 15 = (c.toNat : Int) % 16 := u8_and15 _ (by omega) (by omega)
            have b2 : IntKind.u8.wrap ((c.toNat : Int) % 16 + 1) = (c.toNat : Int) % 16 + 1 := wrapU8 _ (by omega) (by omega)
            have b3 : (0 : Int) ≤ (c.toNat : Int) % 16 := by omega
            have b4 : (c.toNat : Int) % 16 + 1 ≤ 16 := by omega
            have b5 : (c.toNat : Int) % 16 ≤ (c.toNat : Int) % 16 + 1 := by omega
            have b6 : ((c.toNat : Int) % 16).toNat = c.toNat % 16 := by omega
            have b7 : ((c.toNat : Int) % 16 + 1).toNat = c.toNat % 16 + 1 := by omega
            have b8 : ¬ 9223372036854775807 < 2 + (min (c.toNat / 16 + 1) 16 - c.toNat / 16) + (min (c.toNat % 16 + 1) 16 - c.toNat % 16) := by omega
            rcases ee with e1 | ⟨e1, e2⟩
            all_goals
              go_wp2_with fail
              go_still_tail 14, (by kernel_rfl)
              change wpList _ _ _ _ _ wr.drew
              go_wp2_with fail
              refine (wStr w.heap.size w.heap.size _ _ _ (BU_drew hbu) ?_ hsz).mono ?_
              · rw [P.size_append, P.size_append]
                have q1 := P.size_one P.digits (c.toNat / 16) (by show c.toNat / 16 < 16; omega)
                have q2 := P.size_one P.digits (c.toNat % 16) (by show c.toNat % 16 < 16; omega)
                unfold P.digits at q1 q2
                have : (⟨#[92, 120]⟩ : ByteArray).size = 2 := rfl
                omega
              rintro e w2 ⟨rfl, hb2, hw2, _⟩
              clear g1 g2 g3 g4 g5 g6 g7 b1 b2 b3 b4 b5 b6 b7 b8
              go_wp2_with fail
              go_roundw
              case measure => simp [intOf]; omega
              case rel =>
                refine ⟨k + 1, by omega, by go_num, ?_, (below_drew hbe).trans hw2⟩
                rw [HS.out, HQ.out]
                rw [P.data_append, P.data_append] at hb2
                have d1 := P.digit_at (c.toNat / 16) (by omega)
                have d2 := P.digit_at (c.toNat % 16) (by omega)
                have d3 : P.quoteTo (s.data.toList.take k) ++ [92, 120, P.hexd (c.toNat / 16), P.hexd (c.toNat % 16)] = P.quoteTo (s.data.toList.take k) ++ ([92, 120] ++ (P.digits.extract (c.toNat / 16) (c.toNat / 16 + 1)).data.toList ++ (P.digits.extract (c.toNat % 16) (c.toNat % 16 + 1)).data.toList) := by rw [d1, d2]; rfl
                rw [d3]
                exact hb2
          · have HQ := Lib.hid (P.qb_one c hn hn2 (fun h => hc3 (h.imp UInt8.lt_iff_toNat_lt.mp UInt8.lt_iff_toNat_lt.mp)))
            have f4 : decide ((c.toNat : Int) < 32) = false := by simp; omega
            have f5 : decide (126 < (c.toNat : Int)) = false := by simp; omega
            clear x34 x92 x10 hc1 hc2 hn hn2 hc3
            go_wp2_with fail
            refine (wByte w.heap.size w.heap.size _ c _ hbu (by omega) hsz).mono ?_
            rintro e w2 ⟨rfl, hb2, hw2, _⟩
            go_wp2_with fail
            go_roundw
            case measure => simp [intOf]; omega
            case rel =>
              refine ⟨k + 1, by omega, by go_num, ?_, hbe.trans hw2⟩
              rw [HS.out, HQ.out]
              exact hb2
    · go_wp2_with fail
      refine (wByteN w.heap.size w.heap.size _ 34 (by omega) _ hbu (by omega) hsz).mono ?_
      rintro e w2 ⟨rfl, hb2, hw2, _⟩
      go_wp2_with fail
      refine (wText w.heap.size w.heap.size _ _ hb2 (by have := hw2.size; omega)).mono ?_
      rintro e w3 ⟨rfl, hw3⟩
      go_wp2
      go_ret
      have hfin : P.quoteTo (s.data.toList.take k) ++ [UInt8.ofNat 34] = P.quoteL s.data.toList := by
        obtain rfl : k = s.size := by omega
        rw [P.take_all]; rfl
      refine ⟨?_, (hbe.trans hw2).trans hw3⟩
      show Ending.returned (.string ⟨(P.quoteTo (s.data.toList.take k) ++ [UInt8.ofNat 34]).toArray⟩) = _
      rw [hfin]
end Go.Proofs.YteaiejippkikpaaDoor.H
