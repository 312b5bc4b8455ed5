/- words.escape: what stands behind a backslash. -/
import Derived.Test.YteaiejippkikpaaDoorLineP
import Derived.Test.YteaiejippkikpaaDoorQuote
import Derived.Lib.Bytealg
import Derived.Test.YteaiejippkikpaaDoorWWords
set_option linter.unusedVariables false
set_option linter.unusedSimpArgs false
namespace Go.Proofs.YteaiejippkikpaaDoor.H
open Go.RowKit Go.Proofs.YteaiejippkikpaaDoorW.PrintWords

set_option maxHeartbeats 1000000 in
set_option maxRecDepth 100000 in
theorem sliteIndexByte (s : ByteArray) (c : Int) (w : World) :
    Calls Tryd.prog 121 #[.string s, .int .u8 c] w fun e w' => e = .returned (.int .i64 (Lib.indexByte s.data.toList c.toNat.toUInt8)) ∧ w' = w := by
  go_enter Tryd.func121, Tryd.ntmps121
  go_wp2
  rw [run_callFunc_extern Tryd.func122 (by kernel_rfl) (by kernel_rfl) (by kernel_rfl) (e := Extern.BytealgIndexByte.indexByte) (by kernel_rfl), Lib.run_indexByteString]
  simp only [Result.andThen]
  rw [Oper.upon_value]
  go_wp2
  go_ret
  exact ⟨rfl, rfl⟩
set_option maxHeartbeats 1000000 in
theorem indexByte_calls (s : ByteArray) (c : Int) (w : World) :
    Calls Tryd.prog 117 #[.string s, .int .u8 c] w fun e w' => e = .returned (.int .i64 (Lib.indexByte s.data.toList c.toNat.toUInt8)) ∧ w = w' := by
  go_enter Tryd.func117, Tryd.ntmps117
  go_wp2_with (go_at_call 121; refine (sliteIndexByte _ _ _).mono ?_; rintro e w' ⟨rfl, rfl⟩)
  go_ret
  exact ⟨rfl, rfl⟩
theorem u8_back (c : UInt8) : ((c.toNat : Int)).toNat.toUInt8 = c := by simp
/-- IndexByte in the marks. -/
theorem inMarks (c : UInt8) (w : World) : Calls Tryd.prog 117 #[.string ⟨#[34, 92, 110]⟩, .int .u8 c.toNat] w fun e w' => e = .returned (.int .i64 (if c = 34 then 0 else if c = 92 then 1 else if c = 110 then 2 else -1)) ∧ w = w' := by
  have h := indexByte_calls ⟨#[34, 92, 110]⟩ c.toNat w
  rw [u8_back, show (⟨#[34, 92, 110]⟩ : ByteArray).data.toList = [34, 92, 110] from rfl, P.marks_at] at h
  exact h
/-- IndexByte in the digits. -/
theorem inHex (c : UInt8) (w : World) : Calls Tryd.prog 117 #[.string ⟨#[48, 49, 50, 51, 52, 53, 54, 55, 56, 57, 65, 66, 67, 68, 69, 70]⟩, .int .u8 c.toNat] w fun e w' => e = .returned (.int .i64 (match P.hexv c with | some v => (v : Int) | none => -1)) ∧ w = w' := by
  have h := indexByte_calls ⟨#[48, 49, 50, 51, 52, 53, 54, 55, 56, 57, 65, 66, 67, 68, 69, 70]⟩ c.toNat w
  rw [u8_back, show (⟨#[48, 49, 50, 51, 52, 53, 54, 55, 56, 57, 65, 66, 67, 68, 69, 70]⟩ : ByteArray).data.toList = [48, 49, 50, 51, 52, 53, 54, 55, 56, 57, 65, 66, 67, 68, 69, 70] from rfl, P.hexv_at] at h
  exact h
/-- What escape answers. -/
def escV (l : List UInt8) : Int × Int := match P.esc l with | some (x, n) => ((x.toNat : Int), (n : Int)) | none => (0, 0)
/-- What escape answers of two digits. -/
def hexT : List UInt8 → Int × Int
  | a :: b :: _ => (match P.hexv a, P.hexv b with
    | some x, some y => (((UInt8.ofNat (16 * x + y)).toNat : Int), 3)
    | _, _ => (0, 0))
  | _ => (0, 0)
theorem escV_hex : ∀ t : List UInt8, escV (120 :: t) = hexT t
  | [] => rfl
  | [_] => rfl
  | a :: b :: l => by
    have : P.esc (120 :: a :: b :: l) = (match P.hexv a, P.hexv b with | some x, some y => some (UInt8.ofNat (16 * x + y), 3) | _, _ => none) := rfl
    show (match P.esc (120 :: a :: b :: l) with | some (x, n) => ((x.toNat : Int), (n : Int)) | none => (0, 0)) = (match P.hexv a, P.hexv b with | some x, some y => (((UInt8.ofNat (16 * x + y)).toNat : Int), 3) | _, _ => (0, 0))
    rw [this]
    cases P.hexv a <;> cases P.hexv b <;> rfl
theorem u8_iff (c : UInt8) (n : Nat) (hn : n < 256) : (c = UInt8.ofNat n ↔ c.toNat = n) := ⟨fun h => by rw [h, UInt8.toNat_ofNat_of_lt' hn], fun h => UInt8.toNat_inj.mp (by rw [h, UInt8.toNat_ofNat_of_lt' hn])⟩
theorem s_at (s : ByteArray) (i : Nat) (h : i < s.size) : s.data.toList[i]? = some s[i] := by
  rw [List.getElem?_eq_getElem (by simpa using h)]; rfl

set_option maxHeartbeats 4000000 in
set_option maxRecDepth 100000 in
theorem Escape_calls (s : ByteArray) (w : World) (hs : s.size ≤ 140737488355328) :
    Calls Tryd.prog 104 #[.string s] w fun e w' => e = .returned (.tuple #[.int .u8 (escV s.data.toList).1, .int .i64 (escV s.data.toList).2]) ∧ Below w.heap.size w w' := by
  by_cases h0 : s.size = 0
  · obtain rfl : s = ⟨#[]⟩ := by
      have : s.data.toList = [] := List.eq_nil_of_length_eq_zero (by simpa using h0)
      cases s; simp_all
    go_enter Tryd.func104, Tryd.ntmps104
    go_wp2_with fail
    go_ret2
    exact ⟨rfl, Below.refl _ w⟩
  · have hp : 0 < s.size := by omega
    have he1 : s.toList.isEmpty = false := by
      rw [ByteArray.toList_eq]
      have e : s.data.toList.length = s.size := by simp
      cases h : s.data.toList with
      | nil => rw [h] at e; simp at e; omega
      | cons _ _ => rfl
    have hl0 := s_at s 0 hp
    generalize hcc : s[0] = c at hl0
    obtain ⟨t, ht⟩ : ∃ t, s.data.toList = c :: t := by
      cases h : s.data.toList with
      | nil => rw [h] at hl0; cases hl0
      | cons x t => rw [h] at hl0; exact ⟨t, by simp at hl0; rw [hl0]⟩
    have hM := inMarks c w
    have HV := Lib.hid ht
    have xs : ∀ n : Nat, n < 256 → (c = UInt8.ofNat n ↔ c.toNat = n) := fun n hn => u8_iff c n hn
    have x120 := xs 120 (by omega)
    clear xs
    by_cases c34 : c = 34
    · rw [if_pos c34] at hM
      have HV := Lib.hid (show escV s.data.toList = (34, 1) by rw [ht]; simp only [escV, P.esc]; rw [if_pos c34]; rfl)
      have HM := Aside0.mk hM
      clear hM ht hl0 c34 x120
      go_enter Tryd.func104, Tryd.ntmps104
      go_wp2_with (go_at_call 117; (with_reducible refine HM.out.mono ?_); rintro e w' ⟨rfl, rfl⟩)
      go_ret2
      exact ⟨by rw [HV.out]; rfl, Below.refl _ w⟩
    rw [if_neg c34] at hM
    by_cases c92 : c = 92
    · rw [if_pos c92] at hM
      have HV := Lib.hid (show escV s.data.toList = (92, 1) by rw [ht]; simp only [escV, P.esc]; rw [if_neg c34, if_pos c92]; rfl)
      have HM := Aside0.mk hM
      clear hM ht hl0 c34 c92 x120
      go_enter Tryd.func104, Tryd.ntmps104
      go_wp2_with (go_at_call 117; (with_reducible refine HM.out.mono ?_); rintro e w' ⟨rfl, rfl⟩)
      go_ret2
      exact ⟨by rw [HV.out]; rfl, Below.refl _ w⟩
    rw [if_neg c92] at hM
    by_cases c110 : c = 110
    · rw [if_pos c110] at hM
      have HV := Lib.hid (show escV s.data.toList = (10, 1) by rw [ht]; simp only [escV, P.esc]; rw [if_neg c34, if_neg c92, if_pos c110]; rfl)
      have HM := Aside0.mk hM
      clear hM ht hl0 c34 c92 c110 x120
      go_enter Tryd.func104, Tryd.ntmps104
      go_wp2_with (go_at_call 117; (with_reducible refine HM.out.mono ?_); rintro e w' ⟨rfl, rfl⟩)
      go_ret2
      exact ⟨by rw [HV.out]; rfl, Below.refl _ w⟩
    rw [if_neg c110] at hM
    by_cases c120 : c = 120
    rotate_left
    · have HV := Lib.hid (show escV s.data.toList = (0, 0) by rw [ht]; simp only [escV, P.esc]; rw [if_neg c34, if_neg c92, if_neg c110, if_neg c120])
      have HM := Aside0.mk hM
      have e1 : ((c.toNat : Int) == 120) = false := beq_eq_false_iff_ne.2 (fun h => c120 (x120.2 (by omega)))
      have e2 : ((c.toNat : Int) != 120) = true := by rw [bne, e1]; rfl
      clear hM ht hl0 c34 c92 c110 c120 x120
      go_enter Tryd.func104, Tryd.ntmps104
      go_wp2_with (go_at_call 117; (with_reducible refine HM.out.mono ?_); rintro e w' ⟨rfl, rfl⟩)
      go_ret2
      exact ⟨by rw [HV.out]; rfl, Below.refl _ w⟩
    have e1 : ((c.toNat : Int) == 120) = true := beq_iff_eq.2 (by have := x120.1 c120; omega)
    have e2 : ((c.toNat : Int) != 120) = false := by rw [bne, e1]; rfl
    have hE : escV s.data.toList = hexT t := by rw [ht, c120]; exact escV_hex t
    clear HV
    have hsz : s.size = t.length + 1 := by
      have e : s.data.toList.length = s.size := by simp
      rw [ht] at e; simpa using e.symm
    clear c34 c92 c110 c120 x120
    by_cases h3 : s.size < 3
    · have HV := Lib.hid (show escV s.data.toList = (0, 0) by
        rw [hE]
        match t, hsz with
        | [], _ => rfl
        | [_], _ => rfl
        | _ :: _ :: _, h => simp at h; omega)
      have HM := Aside0.mk hM
      have d3 : decide (s.size < 3) = true := decide_eq_true h3
      have d3' : decide ((s.size : Int) < 3) = true := decide_eq_true (by omega)
      clear hM ht hl0 hE hsz
      go_enter Tryd.func104, Tryd.ntmps104
      go_wp2_with (go_at_call 117; (with_reducible refine HM.out.mono ?_); rintro e w' ⟨rfl, rfl⟩)
      go_ret2
      exact ⟨by rw [HV.out]; rfl, Below.refl _ w⟩
    have d3 : decide (s.size < 3) = false := decide_eq_false h3
    have d3' : decide ((s.size : Int) < 3) = false := decide_eq_false (by omega)
    obtain ⟨a, b, l, rfl⟩ : ∃ a b l, t = a :: b :: l := by
      match t, hsz with
      | [], h => simp at h; omega
      | [_], h => simp at h; omega
      | a :: b :: l, _ => exact ⟨a, b, l, rfl⟩
    have hs3 : 3 ≤ s.size := by omega
    clear hsz
    have h1s := s_at s 1 (by omega)
    have h2s := s_at s 2 (by omega)
    rw [ht] at h1s h2s
    have ha : s[1]'(by omega) = a := by simpa using h1s.symm
    have hb : s[2]'(by omega) = b := by simpa using h2s.symm
    have hA := fun W => inHex a W
    have hB := fun W => inHex b W
    have HM := Aside0.mk hM
    have hE : escV s.data.toList = (match P.hexv a, P.hexv b with | some x, some y => (((UInt8.ofNat (16 * x + y)).toNat : Int), 3) | _, _ => (0, 0)) := hE
    obtain ⟨va, vb, hva, hvb, qa, qb, qa', qb', hV⟩ : ∃ va vb : Int, (match P.hexv a with | some v => (v : Int) | none => -1) = va ∧ (match P.hexv b with | some v => (v : Int) | none => -1) = vb ∧ -1 ≤ va ∧ -1 ≤ vb ∧ va < 16 ∧ vb < 16 ∧ escV s.data.toList = if va < 0 ∨ vb < 0 then (0, 0) else (16 * va + vb, 3) := by
      rw [hE]
      cases hx : P.hexv a with
      | none => exact ⟨-1, _, rfl, rfl, by omega, by cases P.hexv b <;> simp <;> omega, by omega, by cases hy : P.hexv b with | none => simp | some y => have := P.hexv_lt hy; simp; omega, by rw [if_pos (.inl (by omega))]⟩
      | some x =>
        have hx' := P.hexv_lt hx
        cases hy : P.hexv b with
        | none => exact ⟨x, -1, rfl, rfl, by omega, by omega, by omega, by omega, by rw [if_pos (.inr (by omega))]⟩
        | some y =>
          have hy' := P.hexv_lt hy
          refine ⟨x, y, rfl, rfl, by omega, by omega, by omega, by omega, ?_⟩
          rw [if_neg (by omega)]
          have : (UInt8.ofNat (16 * x + y)).toNat = 16 * x + y := UInt8.toNat_ofNat_of_lt' (by show _ < 256; omega)
          dsimp only
          rw [this]; congr 1
    rw [hva] at hA
    rw [hvb] at hB
    have HA := Aside0.mk hA
    have HB := Aside0.mk hB
    clear hM ht hl0 hE h1s h2s hA hB hva hvb
    by_cases na : va < 0
    · have HV := Lib.hid (show escV s.data.toList = (0, 0) by rw [hV, if_pos (.inl na)])
      have dn : decide (va < 0) = true := decide_eq_true na
      clear hV
      go_enter Tryd.func104, Tryd.ntmps104
      go_wp2_with (go_at_call 117; (with_reducible refine HM.out.mono ?_); rintro e w' ⟨rfl, rfl⟩)
      go_quiet (first | (go_at_call 117; exact Calls.quiet_of_same ((HA.out _).mono fun _ _ h => ⟨h.1, h.2.symm⟩)) | (go_at_call 117; exact Calls.quiet_of_same ((HB.out _).mono fun _ _ h => ⟨h.1, h.2.symm⟩)))
      go_wp2_with fail
      go_ret2
      exact ⟨by rw [HV.out]; rfl, pw_below_drewN (Below.refl _ w) _⟩
    have dn : decide (va < 0) = false := decide_eq_false na
    by_cases nb : vb < 0
    · have HV := Lib.hid (show escV s.data.toList = (0, 0) by rw [hV, if_pos (.inr nb)])
      have dm : decide (vb < 0) = true := decide_eq_true nb
      clear hV
      go_enter Tryd.func104, Tryd.ntmps104
      go_wp2_with (go_at_call 117; (with_reducible refine HM.out.mono ?_); rintro e w' ⟨rfl, rfl⟩)
      go_quiet (first | (go_at_call 117; exact Calls.quiet_of_same ((HA.out _).mono fun _ _ h => ⟨h.1, h.2.symm⟩)) | (go_at_call 117; exact Calls.quiet_of_same ((HB.out _).mono fun _ _ h => ⟨h.1, h.2.symm⟩)))
      go_wp2_with fail
      go_ret2
      exact ⟨by rw [HV.out]; rfl, pw_below_drewN (Below.refl _ w) _⟩
    have dm : decide (vb < 0) = false := decide_eq_false nb
    have HV := Lib.hid (show escV s.data.toList = (16 * va + vb, 3) by rw [hV, if_neg (by omega)])
    have hw8 : IntKind.u8.wrap (16 * va + vb) = 16 * va + vb := wrapU8 _ (by omega) (by omega)
    have na' : 0 ≤ va := by omega
    have nb' : 0 ≤ vb := by omega
    clear hV
    go_enter Tryd.func104, Tryd.ntmps104
    go_wp2_with (go_at_call 117; (with_reducible refine HM.out.mono ?_); rintro e w' ⟨rfl, rfl⟩)
    go_quiet (first | (go_at_call 117; exact Calls.quiet_of_same ((HA.out _).mono fun _ _ h => ⟨h.1, h.2.symm⟩)) | (go_at_call 117; exact Calls.quiet_of_same ((HB.out _).mono fun _ _ h => ⟨h.1, h.2.symm⟩)))
    go_wp2_with fail
    go_ret2
    exact ⟨by rw [HV.out]; first | rfl | simp [hw8], pw_below_drewN (Below.refl _ w) _⟩
end Go.Proofs.YteaiejippkikpaaDoor.H
