/- WordsBack, in plain Lean: true. -/
import Derived.Test.YteaiejippkikpaaDoorBwx2
import Derived.Test.YteaiejippkikpaaDoorLineC
set_option linter.unusedVariables false
set_option linter.unusedSimpArgs false
namespace Go.Proofs.YteaiejippkikpaaDoor.P

theorem hexv_hexd (n : Nat) (h : n < 16) : hexv (hexd n) = some n := by
  have h2 : ∀ m : Fin 16, hexv (hexd m.val) = some m.val := by decide
  exact h2 ⟨n, h⟩
theorem hex_back (c : UInt8) : UInt8.ofNat (16 * (c.toNat / 16) + c.toNat % 16) = c := by
  have : 16 * (c.toNat / 16) + c.toNat % 16 = c.toNat := by omega
  rw [this]; simp
/-- A quoted text, read. -/
theorem quoF_qb (r : List UInt8) : ∀ (l : List UInt8) (k pos : Nat) (acc : List UInt8), (l.flatMap qb).length < k → quoF k (l.flatMap qb ++ 34 :: r) pos acc = (acc ++ l, pos + (l.flatMap qb).length + 1, true)
  | [], k, pos, acc, hk => by
    obtain ⟨k, rfl⟩ : ∃ m, k = m + 1 := ⟨k - 1, by simp at hk; omega⟩
    simp [quoF]
  | c :: l, k, pos, acc, hk => by
    obtain ⟨k, rfl⟩ : ∃ m, k = m + 1 := ⟨k - 1, by omega⟩
    rw [List.flatMap_cons, List.length_append] at hk
    rw [List.flatMap_cons, List.append_assoc, List.length_append]
    by_cases h1 : c = 34 ∨ c = 92
    · rw [qb_esc c h1] at hk ⊢
      have he : esc (c :: (l.flatMap qb ++ 34 :: r)) = some (c, 1) := by
        rw [esc_c]
        rcases h1 with rfl | rfl
        · rw [if_pos rfl]
        · rw [if_neg (by decide), if_pos rfl]
      simp only [List.length_cons, List.length_nil] at hk
      simp only [List.cons_append, List.nil_append, List.length_cons, List.length_nil]
      unfold quoF
      rw [if_neg (by decide), if_neg (by decide), if_pos rfl, he]
      show quoF k (l.flatMap qb ++ 34 :: r) _ _ = _
      rw [quoF_qb r l k _ _ (by omega), List.append_assoc]
      simp; omega
    by_cases h2 : c = 10
    · subst h2
      rw [qb_nl 10 h1 rfl] at hk ⊢
      have he : esc (110 :: (l.flatMap qb ++ 34 :: r)) = some (10, 1) := by
        rw [esc_c, if_neg (by decide), if_neg (by decide), if_pos rfl]
      simp only [List.length_cons, List.length_nil] at hk
      simp only [List.cons_append, List.nil_append, List.length_cons, List.length_nil]
      unfold quoF
      rw [if_neg (by decide), if_neg (by decide), if_pos rfl, he]
      show quoF k (l.flatMap qb ++ 34 :: r) _ _ = _
      rw [quoF_qb r l k _ _ (by omega), List.append_assoc]
      simp; omega
    by_cases h3 : c < 32 ∨ 126 < c
    · rw [qb_hex c h1 h2 h3] at hk ⊢
      have hc := c.toNat_lt
      have he : esc (120 :: hexd (c.toNat / 16) :: hexd (c.toNat % 16) :: (l.flatMap qb ++ 34 :: r)) = some (c, 3) := by
        rw [esc_c, if_neg (by decide), if_neg (by decide), if_neg (by decide), if_pos rfl]
        dsimp only
        rw [hexv_hexd _ (by omega), hexv_hexd _ (by omega)]
        dsimp only
        rw [hex_back]
      simp only [List.length_cons, List.length_nil] at hk
      simp only [List.cons_append, List.nil_append, List.length_cons, List.length_nil]
      unfold quoF
      rw [if_neg (by decide), if_neg (by decide), if_pos rfl, he]
      show quoF k (l.flatMap qb ++ 34 :: r) _ _ = _
      rw [quoF_qb r l k _ _ (by omega), List.append_assoc]
      simp; omega
    · rw [qb_one c h1 h2 h3] at hk ⊢
      simp only [List.length_cons, List.length_nil] at hk
      simp only [List.cons_append, List.nil_append, List.length_cons, List.length_nil]
      unfold quoF
      rw [if_neg (fun h => h1 (.inl h)), if_neg h2, if_neg (fun h => h1 (.inr h)), quoF_qb r l k _ _ (by omega), List.append_assoc]
      simp; omega
/-- What follows a word that is written. -/
def tailL (ws : List (List UInt8 × Bool)) : List UInt8 := ws.flatMap fun y => 32 :: pieceL y
theorem tail_cons (y : List UInt8 × Bool) (r : List (List UInt8 × Bool)) : tailL (y :: r) = 32 :: (pieceL y ++ tailL r) := by simp [tailL]
theorem after_tail (ws : List (List UInt8 × Bool)) : after (tailL ws) = true := by
  cases ws with
  | nil => rfl
  | cons y r => rw [tail_cons]; rfl
theorem while_all (t : List UInt8) (ht : after t = true) : ∀ l : List UInt8, l.all plainB = true → (l ++ t).takeWhile plainB = l ∧ (l ++ t).dropWhile plainB = t
  | [], _ => by
    cases t with
    | nil => exact ⟨rfl, rfl⟩
    | cons d t =>
      have hd : plainB d = false := by
        have : ∀ c : UInt8, (blankB c → plainB c = false) := u8_all (by decide +kernel)
        exact this d ht
      rw [List.nil_append, List.takeWhile_cons, List.dropWhile_cons, hd]; exact ⟨rfl, rfl⟩
  | c :: l, h => by
    rw [List.all_cons, Bool.and_eq_true] at h
    obtain ⟨h1, h2⟩ := while_all t ht l h.2
    rw [List.cons_append, List.takeWhile_cons, List.dropWhile_cons, h.1, if_pos rfl, if_pos rfl, h1, h2]
    exact ⟨rfl, rfl⟩
/-- A word that is written, read. -/
def readW (x : List UInt8 × Bool) : Bool := x.2 || !plainL x.1
theorem lineF_piece (x : List UInt8 × Bool) (t : List UInt8) (ht : after t = true) (k pos : Nat) (out : List Wd) :
    ∃ p2, lineF (k + 1) (pieceL x ++ t) pos out = lineF k t p2 (out ++ [(x.1, readW x, pos)]) := by
  obtain ⟨x, q⟩ := x
  unfold pieceL readW
  dsimp only
  by_cases hq : q = true ∨ plainL x = false
  · rw [if_pos hq]
    have hr : (q || !plainL x) = true := by rcases hq with rfl | h <;> simp [*]
    rw [hr]
    have hl : quoteL x ++ t = 34 :: (x.flatMap qb ++ 34 :: t) := by simp [quoteL, quoteTo]
    rw [hl]
    have hquo : quo (x.flatMap qb ++ 34 :: t) (pos + 1) = (x, pos + 1 + (x.flatMap qb).length + 1, true) := by
      unfold quo
      rw [quoF_qb t x _ _ _ (by simp; omega), List.nil_append]
    have hdrop : (34 :: (x.flatMap qb ++ 34 :: t)).drop (pos + 1 + (x.flatMap qb).length + 1 - pos) = t := by
      rw [show pos + 1 + (x.flatMap qb).length + 1 - pos = (x.flatMap qb).length + 1 + 1 by omega, List.drop_succ_cons, show (x.flatMap qb).length + 1 = (x.flatMap qb ++ [34]).length by simp, show x.flatMap qb ++ 34 :: t = (x.flatMap qb ++ [34]) ++ t by simp, List.drop_left]
    refine ⟨pos + 1 + (x.flatMap qb).length + 1, ?_⟩
    conv => lhs; unfold lineF
    rw [if_neg (by decide), if_neg (by decide), if_pos rfl, hquo]
    dsimp only
    rw [if_pos rfl, hdrop, if_pos ht]
  · rw [if_neg hq]
    have hq1 : q = false := by cases q with | true => exact absurd (.inl rfl) hq | false => rfl
    have hp : plainL x = true := by cases h : plainL x with | false => exact absurd (.inr h) hq | true => rfl
    rw [hq1, hp]
    unfold plainL at hp
    rw [Bool.and_eq_true] at hp
    obtain ⟨hall, hh⟩ := hp
    cases x with
    | nil => cases hh
    | cons c u =>
      have hc : plainB c = true := by rw [List.all_cons, Bool.and_eq_true] at hall; exact hall.1
      have hc2 : ∀ c : UInt8, plainB c = true → blankB c = false ∧ c ≠ 34 := u8_all (by decide +kernel)
      obtain ⟨e1, e2⟩ := hc2 c hc
      have e3 : c ≠ 35 := by
        intro h; subst h; cases hh
      obtain ⟨w1, w2⟩ := while_all t ht (c :: u) hall
      rw [List.cons_append] at w1 w2 ⊢
      refine ⟨pos + (c :: u).length, ?_⟩
      conv => lhs; unfold lineF
      rw [if_neg (by rw [e1]; decide), if_neg e3, if_neg e2, w1, w2, if_pos ht, if_neg (by simp)]
      rfl
theorem piece_pos (x : List UInt8 × Bool) : 0 < (pieceL x).length := by
  unfold pieceL
  by_cases h : x.2 = true ∨ plainL x.1 = false
  · rw [if_pos h]; simp [quoteL]
  · rw [if_neg h]
    cases hx : x.1 with
    | nil => exfalso; apply h; right; rw [hx]; rfl
    | cons c t => simp
theorem lineF_tail : ∀ (ws : List (List UInt8 × Bool)) (k pos : Nat) (out : List Wd), (tailL ws).length < k → ∃ v : List Wd, lineF k (tailL ws) pos out = .inr (out ++ v) ∧ v.map (fun x => (x.1, x.2.1)) = ws.map fun x => (x.1, readW x)
  | [], k, pos, out, hk => by
    obtain ⟨k, rfl⟩ : ∃ m, k = m + 1 := ⟨k - 1, by omega⟩
    exact ⟨[], by simp [tailL, lineF], rfl⟩
  | y :: r, k, pos, out, hk => by
    have hp := piece_pos y
    rw [tail_cons, List.length_cons, List.length_append] at hk
    rw [tail_cons]
    obtain ⟨k, rfl⟩ : ∃ m, k = m + 1 + 1 := ⟨k - 2, by omega⟩
    have e : lineF (k + 1 + 1) (32 :: (pieceL y ++ tailL r)) pos out = lineF (k + 1) (pieceL y ++ tailL r) (pos + 1) out := by
      conv => lhs; unfold lineF
      rw [if_pos (by decide)]
    obtain ⟨p2, h2⟩ := lineF_piece y (tailL r) (after_tail r) k (pos + 1) out
    obtain ⟨v, h3, h4⟩ := lineF_tail r k p2 (out ++ [(y.1, readW y, pos + 1)]) (by omega)
    exact ⟨(y.1, readW y, pos + 1) :: v, by rw [e, h2, h3]; simp, by rw [List.map_cons, List.map_cons, h4]⟩
/-- Words that are written are read as they were. -/
theorem lineL_writeL (ws : List (List UInt8 × Bool)) : ∃ v : List Wd, lineL (writeL ws) = .inr v ∧ v.map (fun x => (x.1, x.2.1)) = ws.map fun x => (x.1, readW x) := by
  cases ws with
  | nil => exact ⟨[], rfl, rfl⟩
  | cons x r =>
    have hp := piece_pos x
    have hw : writeL (x :: r) = pieceL x ++ tailL r := rfl
    unfold lineL
    rw [hw, List.length_append]
    obtain ⟨p2, h2⟩ := lineF_piece x (tailL r) (after_tail r) ((pieceL x).length + (tailL r).length) 0 []
    obtain ⟨v, h3, h4⟩ := lineF_tail r ((pieceL x).length + (tailL r).length) p2 ([] ++ [(x.1, readW x, 0)]) (by omega)
    exact ⟨(x.1, readW x, 0) :: v, by rw [h2, h3]; simp, by rw [List.map_cons, List.map_cons, h4]⟩
/-- What was read stands as it would be written. -/
theorem lineF_read : ∀ (k : Nat) (l : List UInt8) (pos : Nat) (out ws : List Wd), lineF k l pos out = .inr ws → (∀ x ∈ out, readW (x.1, x.2.1) = x.2.1) → ∀ x ∈ ws, readW (x.1, x.2.1) = x.2.1
  | 0, l, pos, out, ws, h, ho => by
    unfold lineF at h
    obtain rfl := Sum.inr.inj h
    exact ho
  | k + 1, [], pos, out, ws, h, ho => by
    unfold lineF at h
    obtain rfl := Sum.inr.inj h
    exact ho
  | k + 1, c :: t, pos, out, ws, h, ho => by
    unfold lineF at h
    by_cases hb : blankB c = true
    · rw [if_pos hb] at h; exact lineF_read k _ _ _ _ h ho
    rw [if_neg hb] at h
    by_cases c35 : c = 35
    · rw [if_pos c35] at h
      obtain rfl := Sum.inr.inj h
      exact ho
    rw [if_neg c35] at h
    by_cases c34 : c = 34
    · rw [if_pos c34] at h
      by_cases hq : (quo t (pos + 1)).2.2 = true
      · rw [if_pos hq] at h
        by_cases ha : after ((c :: t).drop ((quo t (pos + 1)).2.1 - pos)) = true
        · rw [if_pos ha] at h
          refine lineF_read k _ _ _ _ h fun x hx => ?_
          rcases List.mem_append.1 hx with hx | hx
          · exact ho x hx
          · obtain rfl := List.mem_singleton.1 hx
            rfl
        · rw [if_neg ha] at h; cases h
      · rw [if_neg hq] at h; cases h
    rw [if_neg c34] at h
    by_cases ha : after ((c :: t).dropWhile plainB) = true
    · rw [if_pos ha] at h
      refine lineF_read k _ _ _ _ h fun x hx => ?_
      by_cases hn : (c :: t).takeWhile plainB = []
      · rw [if_pos hn] at hx; exact ho x hx
      rw [if_neg hn] at hx
      rcases List.mem_append.1 hx with hx | hx
      · exact ho x hx
      · obtain rfl := List.mem_singleton.1 hx
        have hpl : plainL ((c :: t).takeWhile plainB) = true := by
          unfold plainL
          rw [Bool.and_eq_true]
          refine ⟨List.all_takeWhile, ?_⟩
          by_cases hp : plainB c = true
          · rw [List.takeWhile_cons, if_pos hp]
            show (!(c == 35)) = true
            rw [beq_eq_false_iff_ne.2 c35]; rfl
          · rw [List.takeWhile_cons, if_neg hp] at hn; exact absurd rfl hn
        show (false || !plainL _) = false
        rw [hpl]; rfl
    · rw [if_neg ha] at h; cases h
theorem lineL_read {l : List UInt8} {ws : List Wd} (h : lineL l = .inr ws) : ∀ x ∈ ws, readW (x.1, x.2.1) = x.2.1 :=
  lineF_read _ _ _ _ _ h (fun x hx => by cases hx)
/-- A written text hangs on what is read of it alone. -/
theorem writeL_read (ws : List (List UInt8 × Bool)) : writeL (ws.map fun x => (x.1, readW x)) = writeL ws := by
  have hp : ∀ x, pieceL (x.1, readW x) = pieceL x := by
    intro x
    unfold pieceL readW
    dsimp only
    by_cases h : x.2 = true ∨ plainL x.1 = false
    · rw [if_pos h, if_pos]
      rcases h with h | h
      · left; rw [h]; rfl
      · left; rw [h]; simp
    · have h1 : x.2 = false := by cases h1 : x.2 with | true => exact absurd (.inl h1) h | false => rfl
      have h2 : plainL x.1 = true := by cases h2 : plainL x.1 with | false => exact absurd (.inr h2) h | true => rfl
      rw [if_neg h, if_neg]
      rw [h1, h2]; decide
  cases ws with
  | nil => rfl
  | cons x r =>
    show pieceL _ ++ (r.map _).flatMap _ = _
    rw [hp x, List.flatMap_map]
    simp only [hp]
    rfl
end Go.Proofs.YteaiejippkikpaaDoor.P
namespace Go.Proofs.YteaiejippkikpaaDoor.Bw
open Go.RowKit Go.Proofs.YteaiejippkikpaaDoorW.PrintWords Go.Proofs.YteaiejippkikpaaDoorW.PrintLast Go.Proofs.YteaiejippkikpaaDoorW.PrintMore Go.Proofs.YteaiejippkikpaaDoor.H
open Go.Proofs.YteaiejippkikpaaDoor.Lw (S82 z82 k82 rd_T82)
open Go.Proofs.YteaiejippkikpaaDoor.B (SentsK SentsK.below HandleP HandleP.below)

theorem rdn (l : List S82) (i : Nat) (h : i < l.length) : rd_T82 l (i : Int) = l[i] := by
  have : rd_T82 l (i : Int) = l.getD i z82 := by simp [rd_T82]
  rw [this, List.getD_eq_getElem?_getD, List.getElem?_eq_getElem h]; rfl
theorem wrapI (i : Nat) (h : i < 140737488355329) : wrap64 ((i : Int) + 1) = ((i + 1 : Nat) : Int) := by unfold wrap64; omega
theorem bt_plain (s : ByteArray) (k : Nat) (h : k < s.size) : words_plain.f (bt s (k : Int)) = some (P.plainB s[k]) := by
  have hbt : bt s (k : Int) = (s[k].toNat : Int) := by simpa using (bt_at s (k : Int) (by simpa using h)).symm
  rw [hbt]
  unfold words_plain.f P.plainB
  have h1 : (32 < s[k]) ↔ ((s[k].toNat : Int) > 32) := by rw [UInt8.lt_iff_toNat_lt]; simp; omega
  have h2 : (s[k] < 127) ↔ ((s[k].toNat : Int) < 127) := by rw [UInt8.lt_iff_toNat_lt]; simp; omega
  have h3 : (s[k] == 34) = ((s[k].toNat : Int) == 34) := by
    rw [Bool.eq_iff_iff, beq_iff_eq, beq_iff_eq, ← UInt8.toNat_inj]
    simp; omega
  by_cases c1 : (s[k].toNat : Int) > 32
  · by_cases c2 : (s[k].toNat : Int) < 127
    · rw [if_pos c1, if_pos c2, decide_eq_true (h1.mpr c1), decide_eq_true (h2.mpr c2), h3]; simp [bne]
    · rw [if_pos c1, if_neg c2, decide_eq_false (fun h => c2 (h2.mp h))]; simp
  · rw [if_neg c1, decide_eq_false (fun h => c1 (h1.mp h))]; simp
theorem Plain_l (s : ByteArray) (hs : s.size ≤ 140737488355328) (d : Nat) : ∀ i k : Nat, s.size - i = d → i ≤ s.size → d < k → words_Plain.l0 k s (s.size : Int) (i : Int) = some ((s.data.toList.drop i).all P.plainB && P.noHash s.data.toList) := by
  induction d with
  | zero =>
    intro i k hi hle hk
    obtain ⟨k, rfl⟩ : ∃ m, k = m + 1 := ⟨k - 1, by omega⟩
    have : i = s.size := by omega
    subst this
    simp only [words_Plain.l0]
    rw [if_neg (by omega), List.drop_of_length_le (by simp)]
    cases hd : s.data.toList with
    | nil =>
      have : s.toList = [] := (P.toList_data s).trans hd
      rw [if_pos this]; rfl
    | cons c r =>
      have h0 : 0 < s.size := by
        have : s.data.toList.length = s.size := by simp
        rw [hd] at this; simp at this; omega
      have hne : ¬ s.toList = [] := by
        intro h
        rw [P.toList_data, hd] at h; cases h
      rw [if_neg hne, if_pos (by omega)]
      have hb : bt s ((0 : Nat) : Int) = (s[0].toNat : Int) := by simpa using (bt_at s ((0 : Nat) : Int) (by simpa using h0)).symm
      have h00 : s[0] = c := by
        have : s.data.toList[0]? = some c := by rw [hd]; rfl
        have h2 : s.data.toList[0]? = some s[0] := by rw [List.getElem?_eq_getElem (by simpa using h0)]; rfl
        rw [h2] at this; exact Option.some.inj this
      rw [show (0 : Int) = ((0 : Nat) : Int) from rfl, hb, h00]
      have : (c == 35) = ((c.toNat : Int) == 35) := by
        rw [Bool.eq_iff_iff, beq_iff_eq, beq_iff_eq, ← UInt8.toNat_inj]; simp; omega
      simp [P.noHash, bne, this]
  | succ d ih =>
    intro i k hi hle hk
    obtain ⟨k, rfl⟩ : ∃ m, k = m + 1 := ⟨k - 1, by omega⟩
    have hlt : i < s.size := by omega
    rw [words_Plain.l0]
    rw [if_pos (by omega), if_pos (by omega), if_pos (by omega), bt_plain s i hlt]
    simp only [Option.bind_some]
    have hdr : s.data.toList.drop i = s[i] :: s.data.toList.drop (i + 1) := by rw [List.drop_eq_getElem_cons (by simpa using hlt)]; rfl
    rw [hdr, List.all_cons]
    cases hp : P.plainB s[i] with
    | false => simp
    | true =>
      rw [if_pos rfl, wrapI i (by omega), ih (i + 1) k (by omega) (by omega) (by omega)]
      simp
theorem Plain_f (s : ByteArray) (hs : s.size ≤ 140737488355328) (k : Nat) (hk : s.size < k) : words_Plain.f k s = some (P.plainL s.data.toList) := by
  have := Plain_l s hs s.size 0 k (by omega) (by omega) hk
  unfold words_Plain.f P.plainL
  rw [List.drop_zero] at this
  exact this
/-- The words of the arguments. -/
def mkB (l1 : List ByteArray) (l2 : List Bool) (n : Nat) : List S82 := (List.range n).map fun i : Nat => ⟨rdOf ByteArray.empty l1 (i : Int), if i < l2.length then rdOf false l2 (i : Int) else false, 0⟩
theorem mkB_len (l1 : List ByteArray) (l2 : List Bool) (n : Nat) : (mkB l1 l2 n).length = n := by simp [mkB]
theorem wl_toS (v : List P.Wd) : (v.map toS).map wl = v.map fun x => (x.1, x.2.1) := by
  rw [List.map_map]
  exact List.map_congr_left fun x _ => by simp [wl, toS]
theorem lineR_write (l : List (List UInt8 × Bool)) (h : (P.writeL l).length ≤ 1048576) : ∃ v : List P.Wd, lineR ⟨(P.writeL l).toArray⟩ = (v.map toS, 0, -1) ∧ v.map (fun x => (x.1, x.2.1)) = l.map fun x => (x.1, P.readW x) := by
  obtain ⟨v, h1, h2⟩ := P.lineL_writeL l
  refine ⟨v, ?_, h2⟩
  unfold lineR
  rw [if_neg (by rw [P.size_lit]; omega)]
  show lineOf (P.lineL (P.writeL l)) = _
  rw [h1]; rfl
/-- How long the words of a line are. -/
theorem quoF_short : ∀ (k : Nat) (l : List UInt8) (pos : Nat) (acc : List UInt8), (P.quoF k l pos acc).1.length ≤ l.length + acc.length
  | 0, l, pos, acc => by simp [P.quoF]
  | k + 1, [], pos, acc => by simp [P.quoF]
  | k + 1, c :: t, pos, acc => by
    unfold P.quoF
    split
    · simp
    · split
      · simp
      · split
        · split
          · simp
          · rename_i x n he
            have ih := quoF_short k (t.drop n) (pos + 1 + n) (acc ++ [x])
            rw [List.length_drop, List.length_append] at ih
            simp only [List.length_cons, List.length_nil] at ih ⊢
            omega
        · have ih := quoF_short k t (pos + 1) (acc ++ [c])
          rw [List.length_append] at ih
          simp only [List.length_cons, List.length_nil] at ih ⊢
          omega
theorem lineF_short (M : Nat) : ∀ (k : Nat) (l : List UInt8) (pos : Nat) (out ws : List P.Wd), l.length ≤ M → P.lineF k l pos out = .inr ws → (∀ x ∈ out, x.1.length ≤ M) → ∀ x ∈ ws, x.1.length ≤ M
  | 0, l, pos, out, ws, hl, h, ho => by
    unfold P.lineF at h
    obtain rfl := Sum.inr.inj h
    exact ho
  | k + 1, [], pos, out, ws, hl, h, ho => by
    unfold P.lineF at h
    obtain rfl := Sum.inr.inj h
    exact ho
  | k + 1, c :: t, pos, out, ws, hl, h, ho => by
    rw [List.length_cons] at hl
    unfold P.lineF at h
    by_cases hb : P.blankB c = true
    · rw [if_pos hb] at h; exact lineF_short M k _ _ _ _ (by omega) h ho
    rw [if_neg hb] at h
    by_cases c35 : c = 35
    · rw [if_pos c35] at h
      obtain rfl := Sum.inr.inj h
      exact ho
    rw [if_neg c35] at h
    by_cases c34 : c = 34
    · rw [if_pos c34] at h
      by_cases hq : (P.quo t (pos + 1)).2.2 = true
      · rw [if_pos hq] at h
        by_cases ha : P.after ((c :: t).drop ((P.quo t (pos + 1)).2.1 - pos)) = true
        · rw [if_pos ha] at h
          refine lineF_short M k _ _ _ _ (by rw [List.length_drop, List.length_cons]; omega) h fun x hx => ?_
          rcases List.mem_append.1 hx with hx | hx
          · exact ho x hx
          · obtain rfl := List.mem_singleton.1 hx
            have := quoF_short (t.length + 1) t (pos + 1) []
            simp only [List.length_nil] at this
            show (P.quoF (t.length + 1) t (pos + 1) []).1.length ≤ M
            omega
        · rw [if_neg ha] at h; cases h
      · rw [if_neg hq] at h; cases h
    rw [if_neg c34] at h
    have hlt := congrArg List.length (List.takeWhile_append_dropWhile (p := P.plainB) (l := c :: t))
    rw [List.length_append, List.length_cons] at hlt
    by_cases ha : P.after ((c :: t).dropWhile P.plainB) = true
    · rw [if_pos ha] at h
      refine lineF_short M k _ _ _ _ (by omega) h fun x hx => ?_
      by_cases hn : (c :: t).takeWhile P.plainB = []
      · rw [if_pos hn] at hx; exact ho x hx
      rw [if_neg hn] at hx
      rcases List.mem_append.1 hx with hx | hx
      · exact ho x hx
      · obtain rfl := List.mem_singleton.1 hx
        show ((c :: t).takeWhile P.plainB).length ≤ M
        omega
    · rw [if_neg ha] at h; cases h
theorem boundL_le (M : Nat) : ∀ l : List (List UInt8 × Bool), (∀ x ∈ l, x.1.length ≤ M) → P.boundL l ≤ l.length * (4 * M + 3)
  | [], _ => by simp [P.boundL]
  | x :: l, h => by
    have ih := boundL_le M l fun y hy => h y (List.mem_cons_of_mem _ hy)
    have hx := h x (List.mem_cons_self ..)
    simp only [P.boundL, List.map_cons, List.sum_cons, List.length_cons] at ih ⊢
    rw [Nat.add_mul, Nat.one_mul]
    omega
/-- What Line of any text answers. -/
theorem lineR_cases (s : ByteArray) : (∃ c p, c ≠ 0 ∧ lineR s = ([], c, p)) ∨ ∃ v : List P.Wd, lineR s = (v.map toS, 0, -1) ∧ (∀ x ∈ v, P.readW (x.1, x.2.1) = x.2.1) ∧ P.boundL ((v.map toS).map wl) ≤ 140737488355328 ∧ v.length ≤ 1048576 := by
  have hb := line_both s
  unfold lineR at hb ⊢
  by_cases h : 1048576 < s.size
  · rw [if_pos h]; exact .inl ⟨12, -1, by decide, rfl⟩
  rw [if_neg h] at hb ⊢
  cases hl : P.lineL s.data.toList with
  | inl p => exact .inl ⟨2, p, by decide, rfl⟩
  | inr v =>
    rw [hl] at hb
    obtain ⟨l, k, p, q, hl1, hl2, _⟩ := hb
    have hlen : v.length ≤ 1048576 := by
      have := congrArg (fun z => z.1.length) hl2
      simp only [lineOf, List.length_map] at this
      omega
    refine .inr ⟨v, rfl, P.lineL_read hl, ?_, hlen⟩
    have hsh := lineF_short 1048576 _ _ _ _ _ (by simp; omega) hl (fun x hx => by cases hx)
    have := boundL_le 1048576 ((v.map toS).map wl) (fun x hx => by
      rw [wl_toS] at hx
      obtain ⟨y, hy, rfl⟩ := List.mem_map.1 hx
      exact hsh y hy)
    rw [List.length_map, List.length_map] at this
    have h2 : v.length * (4 * 1048576 + 3) ≤ 1048576 * (4 * 1048576 + 3) := Nat.mul_le_mul_right _ hlen
    omega
theorem wl_at {a b : List S82} (h : a.map wl = b.map wl) (i : Nat) (ha : i < a.length) (hb : i < b.length) : a[i].f0.data.toList = b[i].f0.data.toList ∧ a[i].f1 = b[i].f1 := by
  have h1 : (a.map wl)[i]'(by simpa using ha) = (b.map wl)[i]'(by simpa using hb) := by simp only [h]
  rw [List.getElem_map, List.getElem_map] at h1
  exact ⟨congrArg Prod.fst h1, congrArg Prod.snd h1⟩
theorem l2_ev (a b : List S82) (t : ByteArray) (h : a.map wl = b.map wl) (hn : a.length ≤ 1048576) (hb : P.boundL (b.map wl) ≤ 140737488355328) (ht : t = ⟨(P.writeL (a.map wl)).toArray⟩) :
    ∀ d i, a.length - i ≤ d → i ≤ a.length → ∀ K, d + 1 ≤ K → dovetaillaw02_WordsBack.l2 K a t b (i : Int) = some true := by
  have hlen : a.length = b.length := by simpa using congrArg List.length h
  have hend : ∀ K, 1 ≤ K → dovetaillaw02_WordsBack.l2 K a t b (a.length : Int) = some true := by
    intro K hK
    obtain ⟨K, rfl⟩ : ∃ k, K = k + 1 := ⟨K - 1, by omega⟩
    simp only [dovetaillaw02_WordsBack.l2]
    rw [if_neg (by omega)]
    unfold words_Write.f
    rw [if_pos hb, ← h, ht]
    simp
  intro d
  induction d with
  | zero =>
    intro i hd hi K hK
    obtain rfl : i = a.length := by omega
    exact hend K hK
  | succ d ih =>
    intro i hd hi K hK
    by_cases hlt : i < a.length
    rotate_left
    · obtain rfl : i = a.length := by omega
      exact hend K (by omega)
    obtain ⟨K, rfl⟩ : ∃ k, K = k + 1 := ⟨K - 1, by omega⟩
    obtain ⟨e1, e2⟩ := wl_at h i hlt (by omega)
    simp only [dovetaillaw02_WordsBack.l2]
    rw [if_pos (by omega), if_pos (by omega), if_pos (by omega), rdn a i hlt, rdn b i (by omega), if_pos (by rw [P.toList_data, P.toList_data, e1]), if_neg (by rw [e2]; simp), wrapI i (by omega)]
    exact ih (i + 1) (by omega) (by omega) K (by omega)
theorem j3_ev (s : ByteArray) (K : Nat) (hK : 2000000 ≤ K) : dovetaillaw02_WordsBack.j3 K s = some true := by
  obtain ⟨K, rfl⟩ : ∃ k, K = k + 2 := ⟨K - 2, by omega⟩
  simp only [dovetaillaw02_WordsBack.j3]
  rw [show words_Line.f s = some ((lineR s).1, if (lineR s).2.1 = 0 then none else some (lineR s).2.1) from rfl]
  simp only [Option.bind_some]
  rcases lineR_cases s with ⟨c, p, hc, hs⟩ | ⟨v, hs, hr, hb, hv⟩
  · rw [hs]
    dsimp only
    rw [if_neg hc, if_neg (by simp)]
    rfl
  · rw [hs]
    dsimp only
    rw [if_pos (show (if (0 : Int) = 0 then (none : Option Int) else some 0).isNone = true from rfl)]
    have hw : words_Write.f (v.map toS) = some ⟨(P.writeL ((v.map toS).map wl)).toArray⟩ := by unfold words_Write.f; rw [if_pos hb]
    rw [hw]
    simp only [Option.bind_some]
    have hln : ∀ t, words_Line.f t = some ((lineR t).1, if (lineR t).2.1 = 0 then none else some (lineR t).2.1) := fun _ => rfl
    rw [hln]
    simp only [Option.bind_some]
    by_cases hsz : (P.writeL ((v.map toS).map wl)).length ≤ 1048576
    rotate_left
    · rw [if_pos (by rw [P.size_lit]; omega)]
    rw [if_neg (by rw [P.size_lit]; omega)]
    obtain ⟨u, hu, hm⟩ := lineR_write _ hsz
    rw [hu]
    dsimp only
    rw [if_pos (show (if (0 : Int) = 0 then (none : Option Int) else some 0).isNone = true from rfl)]
    have huv : (v.map toS).map wl = (u.map toS).map wl := by
      rw [wl_toS u, hm, wl_toS v, List.map_map]
      exact List.map_congr_left fun x hx => by
        show (x.1, x.2.1) = (x.1, P.readW (x.1, x.2.1))
        rw [hr x hx]
    have hl : (v.map toS).length = (u.map toS).length := by simpa using congrArg List.length huv
    rw [show (((v.map toS).length : Int) != ((u.map toS).length : Int)) = false by rw [hl]; simp]
    simp only [dovetaillaw02_WordsBack.j4]
    rw [if_neg (by simp)]
    exact l2_ev _ _ _ huv (by simpa using hv) (by rw [← huv]; exact hb) rfl v.length 0 (by simp) (by omega) K (by omega)
theorem l1_ev (s : ByteArray) (a b : List S82) (hn : a.length ≤ 1048576) (hsz : ∀ x ∈ a, x.f0.size ≤ 1048576) (h : b.map wl = a.map fun x => (x.f0.data.toList, P.readW (wl x))) :
    ∀ d i, a.length - i ≤ d → i ≤ a.length → ∀ K, d + 2000001 ≤ K → dovetaillaw02_WordsBack.l1 K s a b (i : Int) = some true := by
  have hlen : b.length = a.length := by simpa using congrArg List.length h
  have hend : ∀ K, 2000001 ≤ K → dovetaillaw02_WordsBack.l1 K s a b (a.length : Int) = some true := by
    intro K hK
    obtain ⟨K, rfl⟩ : ∃ k, K = k + 1 := ⟨K - 1, by omega⟩
    simp only [dovetaillaw02_WordsBack.l1]
    rw [if_neg (by omega)]
    exact j3_ev s K (by omega)
  intro d
  induction d with
  | zero =>
    intro i hd hi K hK
    obtain rfl : i = a.length := by omega
    exact hend K (by omega)
  | succ d ih =>
    intro i hd hi K hK
    by_cases hlt : i < a.length
    rotate_left
    · obtain rfl : i = a.length := by omega
      exact hend K (by omega)
    obtain ⟨K, rfl⟩ : ∃ k, K = k + 1 := ⟨K - 1, by omega⟩
    have hx : b[i].f0.data.toList = a[i].f0.data.toList ∧ b[i].f1 = P.readW (wl a[i]) := by
      have h1 : (b.map wl)[i]'(by simp; omega) = (a.map fun x => (x.f0.data.toList, P.readW (wl x)))[i]'(by simpa using hlt) := by simp only [h]
      rw [List.getElem_map, List.getElem_map] at h1
      exact ⟨congrArg Prod.fst h1, congrArg Prod.snd h1⟩
    have hz := hsz a[i] (List.getElem_mem hlt)
    simp only [dovetaillaw02_WordsBack.l1]
    rw [if_pos (by omega), if_pos (by omega), if_pos (by omega), rdn a i hlt, rdn b i (by omega), if_pos (by rw [P.toList_data, P.toList_data, hx.1]), wrapI i (by omega)]
    have hrw : b[i].f1 = (a[i].f1 || !P.plainL a[i].f0.data.toList) := hx.2
    by_cases hq : a[i].f1 = true
    · rw [if_pos hq, if_neg (by rw [hrw, hq]; simp)]
      exact ih (i + 1) (by omega) (by omega) K (by omega)
    · rw [if_neg hq, Plain_f _ (by omega) K (by omega)]
      simp only [Option.bind_some]
      have hq0 : a[i].f1 = false := by cases h : a[i].f1 with | true => exact absurd h hq | false => rfl
      rw [if_neg (by rw [hrw, hq0]; simp)]
      exact ih (i + 1) (by omega) (by omega) K (by omega)
theorem l0_ev (l1 : List ByteArray) (l2 : List Bool) (s : ByteArray) (hn : l1.length ≤ 1048576) (hsz : ∀ x ∈ l1, x.size ≤ 1048576) (hb : P.boundL ((mkB l1 l2 l1.length).map wl) ≤ 140737488355328) :
    ∀ d i, l1.length - i ≤ d → i ≤ l1.length → ∀ K, d + 4000000 ≤ K → dovetaillaw02_WordsBack.l0 K l1 l2 s (mkB l1 l2 i) (i : Int) = some true := by
  have hend : ∀ K, 4000000 ≤ K → dovetaillaw02_WordsBack.l0 K l1 l2 s (mkB l1 l2 l1.length) (l1.length : Int) = some true := by
    intro K hK
    obtain ⟨K, rfl⟩ : ∃ k, K = k + 2 := ⟨K - 2, by omega⟩
    have hln := mkB_len l1 l2 l1.length
    have hel : ∀ x ∈ mkB l1 l2 l1.length, x.f0.size ≤ 1048576 := by
      intro x hx
      obtain ⟨i, hi, rfl⟩ := List.mem_map.1 hx
      have hi' : i < l1.length := List.mem_range.1 hi
      show (rdOf ByteArray.empty l1 (i : Int)).size ≤ _
      have : rdOf ByteArray.empty l1 (i : Int) = l1[i] := by simp [rdOf, List.getD_eq_getElem?_getD, List.getElem?_eq_getElem hi']
      rw [this]; exact hsz _ (List.getElem_mem hi')
    generalize mkB l1 l2 l1.length = a at hb hln hel
    simp only [dovetaillaw02_WordsBack.l0]
    rw [if_neg (by omega)]
    have hw : words_Write.f a = some ⟨(P.writeL (a.map wl)).toArray⟩ := by unfold words_Write.f; rw [if_pos hb]
    have hl : ∀ t, words_Line.f t = some ((lineR t).1, if (lineR t).2.1 = 0 then none else some (lineR t).2.1) := fun _ => rfl
    rw [hw]
    simp only [Option.bind_some]
    rw [hl]
    simp only [Option.bind_some]
    by_cases hz : (P.writeL (a.map wl)).length ≤ 1048576
    rotate_left
    · rw [if_neg (by rw [P.size_lit]; omega)]
      exact j3_ev s _ (by omega)
    rw [if_pos (by rw [P.size_lit]; omega)]
    obtain ⟨u, hu, hm⟩ := lineR_write _ hz
    rw [hu]
    dsimp only
    rw [if_pos (show (if (0 : Int) = 0 then (none : Option Int) else some 0).isNone = true from rfl)]
    have hul : (u.map toS).length = a.length := by
      have := congrArg List.length hm
      simpa using this
    rw [show (((u.map toS).length : Int) != (a.length : Int)) = false by rw [hul]; simp]
    simp only [dovetaillaw02_WordsBack.j1]
    rw [if_neg (by simp)]
    exact l1_ev s a (u.map toS) (by omega) hel (by rw [wl_toS, hm, List.map_map]; rfl) a.length 0 (by omega) (by omega) K (by omega)
  intro d
  induction d with
  | zero =>
    intro i hd hi K hK
    obtain rfl : i = l1.length := by omega
    exact hend K (by omega)
  | succ d ih =>
    intro i hd hi K hK
    by_cases hlt : i < l1.length
    rotate_left
    · obtain rfl : i = l1.length := by omega
      exact hend K (by omega)
    obtain ⟨K, rfl⟩ : ∃ k, K = k + 1 := ⟨K - 1, by omega⟩
    have hln := mkB_len l1 l2 i
    have hB : mkB l1 l2 (i + 1) = mkB l1 l2 i ++ [⟨rdOf ByteArray.empty l1 (i : Int), if i < l2.length then rdOf false l2 (i : Int) else false, 0⟩] := by simp [mkB, List.range_succ]
    have ihk := ih (i + 1) (by omega) (by omega) K (by omega)
    rw [hB] at ihk
    simp only [dovetaillaw02_WordsBack.l0]
    rw [if_pos (by omega), if_pos (by omega)]
    by_cases h2 : i < l2.length
    · rw [if_pos (by omega), hln, if_pos (by omega), wrapI i (by omega)]
      rw [if_pos h2] at ihk
      exact ihk
    · rw [if_neg (by omega), hln, if_pos (by omega), wrapI i (by omega)]
      rw [if_neg h2] at ihk
      exact ihk
theorem back_ev (l1 : List ByteArray) (l2 : List Bool) (s : ByteArray) (hn : l1.length ≤ 1048576) (hsz : ∀ x ∈ l1, x.size ≤ 1048576) (hb : P.boundL ((mkB l1 l2 l1.length).map wl) ≤ 140737488355328) :
    dovetaillaw02_WordsBack.f 10000000 l1 l2 s = some true := by
  unfold dovetaillaw02_WordsBack.f dovetaillaw02_known.f
  simp only [Option.bind_some]
  rw [if_pos trivial]
  exact l0_ev l1 l2 s hn hsz hb l1.length 0 (by omega) (by omega) _ (by omega)
theorem mkB_bound (l : List ByteArray) (l2 : List Bool) : ∀ n, n ≤ l.length → P.boundL ((mkB l l2 n).map wl) ≤ 4 * ((l.take n).map fun s => s.size + 1).sum := by
  intro n
  induction n with
  | zero => intro _; simp [mkB, P.boundL]
  | succ n ih =>
    intro h
    have h1 := ih (by omega)
    have hR : mkB l l2 (n + 1) = mkB l l2 n ++ [⟨rdOf ByteArray.empty l (n : Int), if n < l2.length then rdOf false l2 (n : Int) else false, 0⟩] := by simp [mkB, List.range_succ]
    rw [hR, List.map_append, List.map_singleton, P.boundL_snoc, List.take_succ_eq_append_getElem (by omega), List.map_append, List.sum_append]
    have : rdOf ByteArray.empty l (n : Int) = l[n] := by simp [rdOf, List.getD_eq_getElem?_getD, List.getElem?_eq_getElem (show n < l.length by omega)]
    simp only [wl, this, List.map_singleton, List.sum_cons, List.sum_nil]
    have hz : l[n].data.toList.length = l[n].size := by simp
    omega
theorem len_sum (l : List ByteArray) : l.length ≤ (l.map fun s : ByteArray => s.size + 1).sum := by
  induction l with
  | nil => simp
  | cons x r ih => simp only [List.length_cons, List.map_cons, List.sum_cons]; omega
theorem mem_sum (l : List ByteArray) : ∀ x ∈ l, x.size ≤ (l.map fun s : ByteArray => s.size + 1).sum := by
  induction l with
  | nil => intro x hx; cases hx
  | cons y r ih =>
    intro x hx
    simp only [List.map_cons, List.sum_cons]
    rcases List.mem_cons.1 hx with rfl | hx
    · omega
    · have := ih x hx; omega
end Go.Proofs.YteaiejippkikpaaDoor.Bw
