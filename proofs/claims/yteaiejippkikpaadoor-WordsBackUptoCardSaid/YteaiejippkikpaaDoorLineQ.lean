/- words.quoted: a quoted word. -/
import Derived.Test.YteaiejippkikpaaDoorLineE
set_option linter.unusedVariables false
set_option linter.unusedSimpArgs false
namespace Go.Proofs.YteaiejippkikpaaDoor.H
open Go.RowKit Go.Proofs.YteaiejippkikpaaDoorW.PrintWords

theorem drop_at (s : ByteArray) (i : Nat) (h : i < s.size) : s.data.toList.drop i = s[i] :: s.data.toList.drop (i + 1) := by
  rw [List.drop_eq_getElem_cons (by simpa using h)]; rfl
theorem drop_end (s : ByteArray) : s.data.toList.drop s.size = [] := List.drop_eq_nil_of_le (by simp)
theorem extract_end (s : ByteArray) (i : Nat) (h : i ≤ s.size) : (s.extract i s.size).data.toList = s.data.toList.drop i ∧ (s.extract i s.size).size = s.size - i := by
  constructor
  · rw [ByteArray.data_extract, Array.toList_extract]
    simp [List.extract_eq_take_drop, List.take_of_length_le]
  · rw [ByteArray.size_extract]; omega

set_option maxHeartbeats 8000000 in
set_option maxRecDepth 100000 in
theorem Quoted_calls (s : ByteArray) (n : Nat) (w : World) (hs : s.size ≤ 1048576) (hn : n < s.size) :
    Calls Tryd.prog 77 #[.string s, .int .i64 n] w fun e w' => e = .returned (.tuple #[.string ⟨(P.quo (s.data.toList.drop (n + 1)) (n + 1)).1.toArray⟩, .int .i64 ((P.quo (s.data.toList.drop (n + 1)) (n + 1)).2.1 : Int), .bool (P.quo (s.data.toList.drop (n + 1)) (n + 1)).2.2]) ∧ Below w.heap.size w w' := by
  obtain ⟨q, hq⟩ : ∃ q, P.quo (s.data.toList.drop (n + 1)) (n + 1) = q := ⟨_, rfl⟩
  have hq' : P.quoF (s.size - (n + 1) + 1) (s.data.toList.drop (n + 1)) (n + 1) [] = q := by
    rw [← hq, P.quo, List.length_drop]; simp
  rw [hq]
  have h1 := BU_new w
  have HQ := Lib.hid hq'
  clear hq hq'
  go_enter Tryd.func77, Tryd.ntmps77
  go_wp2_with fail
  go_loopw [8, 9, 10, 11] (fun i _ _ _ wr => ∃ (k j : Nat) (acc : List UInt8), j ≤ s.size ∧ i = .int .i64 j ∧ acc.length ≤ j ∧ Aside0 (BU w.heap.size w.heap.size acc wr) ∧ Aside0 (Below w.heap.size w wr) ∧ Hid (s.size - j < k) ∧ Hid (P.quoF k (s.data.toList.drop j) j acc = q)) (fun i _ _ _ _ => s.size - (intOf i).toNat)
  case atStart => exact ⟨_, n + 1, [], by omega, by go_num, by simp, ⟨h1⟩, ⟨(Below.refl _ w).alloc (Nat.le_refl _) _⟩, Lib.hid (by omega), HQ⟩
  case round =>
    clear h1 HQ
    obtain ⟨k, j, acc, hj, rfl, hal, hbu, hbe, hk, HQ⟩ := hrel
    obtain ⟨k, rfl⟩ : ∃ k', k = k' + 1 := ⟨k - 1, by have := hk.out; omega⟩
    by_cases hlt : j < s.size
    · have hd := drop_at s j hlt
      have hcb := s[j].toNat_lt
      have hx := extract_end s (j + 1) (by omega)
      generalize hcc : s[j] = c at *
      have x34 : c = 34 ↔ c.toNat = 34 := u8_iff c 34 (by omega)
      have x92 : c = 92 ↔ c.toNat = 92 := u8_iff c 92 (by omega)
      have x10 : c = 10 ↔ c.toNat = 10 := u8_iff c 10 (by omega)
      have hq := HQ.out
      rw [hd] at hq
      unfold P.quoF at hq
      by_cases c34 : c.toNat = 34
      · have e1 : ((c.toNat : Int) == 34) = true := beq_iff_eq.2 (by omega)
        rw [if_pos (x34.mpr c34)] at hq
        have HE := Lib.hid hq
        have HS := Aside0.mk (string_any w.heap.size w.heap.size acc wr hbu.out (hbe.out.size))
        clear hq x34 x92 x10 hd hx c34 HQ
        go_wp2_with (go_at_call 91; (with_reducible refine HS.out.mono ?_); rintro e w' ⟨rfl, hb'⟩)
        go_ret3
        exact ⟨by rw [← HE.out] <;> first | rfl | simp, hbe.out.trans hb'⟩
      have e1 : ((c.toNat : Int) == 34) = false := beq_eq_false_iff_ne.2 (by omega)
      rw [if_neg (fun h => c34 (x34.mp h))] at hq
      by_cases c10 : c.toNat = 10
      · have e2 : ((c.toNat : Int) == 10) = true := beq_iff_eq.2 (by omega)
        rw [if_pos (x10.mpr c10)] at hq
        have HE := Lib.hid hq
        clear hq x34 x92 x10 hd hx c34 c10 HQ
        go_wp2_with fail
        go_ret3
        exact ⟨by rw [← HE.out]; first | rfl | simp, hbe.out⟩
      have e2 : ((c.toNat : Int) == 10) = false := beq_eq_false_iff_ne.2 (by omega)
      rw [if_neg (fun h => c10 (x10.mp h))] at hq
      by_cases c92 : c.toNat = 92
      · have e3 : ((c.toNat : Int) == 92) = true := beq_iff_eq.2 (by omega)
        rw [if_pos (x92.mpr c92)] at hq
        have hec := Escape_calls (s.extract (j + 1) s.size) wr (by rw [hx.2]; omega)
        rw [hx.1, escV] at hec
        cases hes : P.esc (s.data.toList.drop (j + 1)) with
        | none =>
          rw [hes] at hec hq
          have HE := Lib.hid hq
          have HC := Aside0.mk hec
          clear hq x34 x92 x10 hd hx c34 c10 c92 HQ hec hes
          go_wp2_with (go_at_call 104; (with_reducible refine HC.out.mono ?_); rintro e w' ⟨rfl, hb'⟩)
          go_ret3
          exact ⟨by rw [← HE.out]; first | rfl | simp, hbe.out.trans (hb'.mono hbe.out.size)⟩
        | some xn =>
          obtain ⟨x, m⟩ := xn
          rw [hes] at hec hq
          have hle := P.esc_le hes
          rw [List.length_drop, show s.data.toList.length = s.size by simp] at hle
          dsimp only at hec hq
          rw [List.drop_drop] at hq
          have HE := Lib.hid hq
          have hcall : Calls Tryd.prog 104 #[.string (s.extract (j + 1) s.size)] wr fun e w' => e = .returned (.tuple #[.int .u8 (x.toNat : Int), .int .i64 (m : Int)]) ∧ Aside0 (BU w.heap.size w.heap.size acc w') ∧ Aside0 (Below w.heap.size w w') := hec.mono fun _ _ h => ⟨h.1, ⟨BU_below hbu.out h.2⟩, ⟨hbe.out.trans (h.2.mono hbe.out.size)⟩⟩
          have HC := Aside0.mk hcall
          have en : ((m : Int) == 0) = false := beq_eq_false_iff_ne.2 (by omega)
          have hxb := x.toNat_lt
          clear hq x34 x92 x10 hd hx c34 c10 c92 HQ hec hes hcall
          go_wp2_with (first
            | (go_at_call 104; (with_reducible refine HC.out.mono ?_); rintro e w1 ⟨rfl, bu1, be1⟩)
            | (go_at_call 89; (with_reducible refine (wByte w.heap.size w.heap.size acc x _ bu1.out (by omega) be1.out.size).mono ?_); rintro e w2 ⟨rfl, bu2, be2, _⟩; have BU2 := Aside0.mk bu2; have BE2 := Aside0.mk be2; clear bu2 be2))
          go_roundw
          case measure => simp [intOf]; omega
          case rel => exact ⟨k, j + 1 + m, acc ++ [x], by omega, by go_num, by simp; omega, BU2, ⟨be1.out.trans BE2.out⟩, Lib.hid (by have := hk.out; omega), Lib.hid (by have := HE.out; rw [show j + 1 + m = j + 1 + m from rfl]; first | exact this | (rw [Nat.add_comm m (j + 1)] at this; exact this))⟩
      have e3 : ((c.toNat : Int) == 92) = false := beq_eq_false_iff_ne.2 (by omega)
      rw [if_neg (fun h => c92 (x92.mp h))] at hq
      have HE := Lib.hid hq
      clear hq x34 x92 x10 hd hx c34 c10 c92 HQ
      go_wp2_with (go_at_call 89; (with_reducible refine (wByte w.heap.size w.heap.size acc c _ hbu.out (by omega) hbe.out.size).mono ?_); rintro e w2 ⟨rfl, bu2, be2, _⟩; have BU2 := Aside0.mk bu2; have BE2 := Aside0.mk be2; clear bu2 be2)
      go_roundw
      case measure => simp [intOf]; omega
      case rel => exact ⟨k, j + 1, acc ++ [c], by omega, by go_num, by simp; omega, BU2, ⟨hbe.out.trans BE2.out⟩, Lib.hid (by have := hk.out; omega), HE⟩
    · have hjn : j = s.size := by omega
      subst hjn
      have hq := HQ.out
      rw [drop_end] at hq
      unfold P.quoF at hq
      have HE := Lib.hid hq
      clear hq HQ
      go_wp2_with fail
      go_ret3
      exact ⟨by rw [← HE.out]; first | rfl | simp, hbe.out⟩
end Go.Proofs.YteaiejippkikpaaDoor.H
