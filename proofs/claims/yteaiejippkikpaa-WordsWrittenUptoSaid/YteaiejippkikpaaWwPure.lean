/- The reference of layer 2 in plain Lean: its printed functions answer what the definitions say. -/
import Derived.Test.YteaiejippkikpaaWWx3
import Derived.Lib.LazyBuf
set_option linter.unusedVariables false
namespace Go.Proofs.Yteaiejippkikpaa.WW
open Go.RowKit Go.Proofs.YteaiejippkikpaaW.PrintWords Go.Proofs.YteaiejippkikpaaW.PrintLast Go.Proofs.YteaiejippkikpaaW.PrintMore
open Go.Proofs.Yteaiejippkikpaa.H

def nb (l : List UInt8) : List Int := l.map fun b => (b.toNat : Int)
theorem nb_length (l : List UInt8) : (nb l).length = l.length := by simp [nb]
theorem nb_append (a b : List UInt8) : nb (a ++ b) = nb a ++ nb b := by simp [nb]
theorem nb_str (l : List UInt8) : strOfNums (nb l) = ⟨l.toArray⟩ := Go.Lib.Lz.strOfNums_map l
theorem nb_bytes (s : ByteArray) : bytesOf s = nb s.data.toList := rfl
theorem wrapI (i : Nat) (h : i < 140737488355329) : wrap64 ((i : Int) + 1) = ((i + 1 : Nat) : Int) := by unfold wrap64; omega

theorem rplain_f (s : ByteArray) (k : Nat) (h : k < s.size) : dovetailref02_plain.f (bt s (k : Int)) = some (P.plainB s[k]) := by
  rw [← plain_f s k h, bt_eq s k h]
  unfold dovetailref02_plain.f words_plain.f
  by_cases c1 : (s[k].toNat : Int) > 32
  · rw [if_pos (show (s[k].toNat : Int) ≥ 33 by omega), if_pos c1]
    by_cases c2 : (s[k].toNat : Int) < 127
    · rw [if_pos (show (s[k].toNat : Int) ≤ 126 by omega), if_pos c2]
    · rw [if_neg (show ¬ (s[k].toNat : Int) ≤ 126 by omega), if_neg c2]
  · rw [if_neg (show ¬ (s[k].toNat : Int) ≥ 33 by omega), if_neg c1]
theorem first_hash (s : ByteArray) (h0 : 0 < s.size) : (bt s 0 != 35) = P.noHash s.data.toList := by
  have hb := bt_eq s 0 h0
  cases hd : s.data.toList with
  | nil => have : s.data.toList.length = s.size := by simp
           rw [hd] at this; simp at this; omega
  | cons c r =>
    have h00 : s[0] = c := by
      have : s.data.toList[0]? = some c := by rw [hd]; rfl
      have h2 : s.data.toList[0]? = some s[0] := by rw [List.getElem?_eq_getElem (by simpa using h0)]; rfl
      rw [h2] at this; exact Option.some.inj this
    rw [show (0 : Int) = ((0 : Nat) : Int) from rfl, hb, h00]
    have : (c == 35) = ((c.toNat : Int) == 35) := by
      rw [Bool.eq_iff_iff, beq_iff_eq, beq_iff_eq, ← UInt8.toNat_inj]; simp; omega
    simp [P.noHash, bne, this]
theorem rPlain_l (s : ByteArray) (hs : s.size ≤ 140737488355328) (d : Nat) : ∀ (k i : Nat), s.size - i = d → i ≤ s.size → d < k → dovetailref02_Plain.l0 k s (i : Int) = some ((s.data.toList.drop i).all P.plainB && P.noHash s.data.toList) := by
  induction d with
  | zero =>
    intro k i hi hle hk
    obtain ⟨k, rfl⟩ : ∃ m, k = m + 1 := ⟨k - 1, by omega⟩
    have : i = s.size := by omega
    subst this
    simp only [dovetailref02_Plain.l0]
    rw [if_neg (by omega), List.drop_of_length_le (by simp)]
    by_cases h0 : 0 < s.size
    · rw [if_pos (show (s.size : Int) > 0 by omega), if_pos (show 0 < (s.size : Int) by omega), first_hash s h0]; rfl
    · rw [if_neg (show ¬ (s.size : Int) > 0 by omega)]
      have : s.data.toList = [] := List.eq_nil_of_length_eq_zero (by rw [Array.length_toList]; show s.size = 0; omega)
      rw [this]; rfl
  | succ d ih =>
    intro k i hi hle hk
    obtain ⟨k, rfl⟩ : ∃ m, k = m + 1 := ⟨k - 1, by omega⟩
    have hlt : i < s.size := by omega
    simp only [dovetailref02_Plain.l0]
    rw [if_pos (by omega), if_pos (by omega), rplain_f s i hlt]
    simp only [Option.bind_some]
    have hdr : s.data.toList.drop i = s[i] :: s.data.toList.drop (i + 1) := by rw [List.drop_eq_getElem_cons (by simpa using hlt)]; rfl
    rw [hdr, List.all_cons]
    cases hp : P.plainB s[i] with
    | false => simp
    | true =>
      rw [if_pos rfl, wrapI i (by omega), ih k (i + 1) (by omega) (by omega) (by omega)]
      simp
theorem rPlain_f (s : ByteArray) (hs : s.size ≤ 140737488355328) (k : Nat) (hk : s.size < k) : dovetailref02_Plain.f k s = some (P.plainL s.data.toList) := by
  have := rPlain_l s hs s.size k 0 (by omega) (by omega) hk
  unfold dovetailref02_Plain.f P.plainL
  rw [List.drop_zero] at this
  exact this
theorem wPlain_f (s : ByteArray) (hs : s.size ≤ 140737488355328) (k : Nat) (hk : s.size < k) : words_Plain.f k s = some (P.plainL s.data.toList) :=
  at_rounds (g := fun k => words_Plain.f k s) (fun k => words_Plain.mono s k) (show s.size + 1 ≤ k from hk) (Plain_f s hs)

theorem figure_f (n : Nat) (h : n < 16) : dovetailref02_figure.f (n : Int) = some ((P.hexd n).toNat : Int) := by
  have h2 : ∀ m : Fin 16, dovetailref02_figure.f ((m.val : Nat) : Int) = some ((P.hexd m.val).toNat : Int) := by decide +kernel
  exact h2 ⟨n, h⟩
theorem byteNe (c : UInt8) (n : Nat) (hn : n < 256) : (c = UInt8.ofNat n ↔ (c.toNat : Int) = n) := by
  rw [← UInt8.toNat_inj, UInt8.toNat_ofNat_of_lt' hn]; omega
theorem rQuote_l (s : ByteArray) (hs : s.size ≤ 35184372088831) (d : Nat) : ∀ (k i : Nat) (pre : List UInt8), s.size - i = d → i ≤ s.size → 3 * d < k → pre.length + 4 * d + 1 ≤ 140737488355328 →
    dovetailref02_Quote.l0 k s (nb pre) (i : Int) = some ⟨(pre ++ (s.data.toList.drop i).flatMap P.qb ++ [34]).toArray⟩ := by
  induction d with
  | zero =>
    intro k i pre hi hle hk hp
    obtain ⟨k, rfl⟩ : ∃ m, k = m + 1 := ⟨k - 1, by omega⟩
    have : i = s.size := by omega
    subst this
    simp only [dovetailref02_Quote.l0]
    rw [if_neg (by omega), List.drop_of_length_le (by simp), nb_length, if_pos (by omega)]
    have : nb pre ++ [34] = nb (pre ++ [34]) := by rw [nb_append]; rfl
    rw [this, nb_str]
    simp
  | succ d ih =>
    intro k i pre hi hle hk hp
    obtain ⟨k, rfl⟩ : ∃ m, k = m + 3 := ⟨k - 3, by omega⟩
    have hlt : i < s.size := by omega
    have hdr : s.data.toList.drop i = s[i] :: s.data.toList.drop (i + 1) := by rw [List.drop_eq_getElem_cons (by simpa using hlt)]; rfl
    rw [hdr, List.flatMap_cons, ← List.append_assoc]
    have hb := bt_eq s i hlt
    generalize s[i] = c at *
    have hc := c.toNat_lt
    have key : ∀ (k' : Nat), 3 * d < k' → dovetailref02_Quote.l0 k' s (nb pre ++ nb (P.qb c)) (wrap64 ((i : Int) + 1)) = some ⟨(pre ++ P.qb c ++ (s.data.toList.drop (i + 1)).flatMap P.qb ++ [34]).toArray⟩ := by
      intro k' hk'
      rw [← nb_append, wrapI i (by omega)]
      have := P.qb_length c
      exact ih k' (i + 1) (pre ++ P.qb c) (by omega) (by omega) hk' (by rw [List.length_append]; omega)
    simp only [dovetailref02_Quote.l0]
    rw [if_pos (by omega), if_pos (by omega), hb]
    have e34 := byteNe c 34 (by omega)
    have e92 := byteNe c 92 (by omega)
    have e10 := byteNe c 10 (by omega)
    have l32 : c < 32 ↔ (c.toNat : Int) < 32 := by rw [UInt8.lt_iff_toNat_lt]; simp; omega
    have l126 : 126 < c ↔ (c.toNat : Int) > 126 := by rw [UInt8.lt_iff_toNat_lt]; simp; omega
    have hesc : ∀ (x : Bool), ((x = true) ↔ (c = 34 ∨ c = 92)) → dovetailref02_Quote.j1 (k + 2) s (nb pre) (i : Int) (c.toNat : Int) x = some ⟨(pre ++ P.qb c ++ (s.data.toList.drop (i + 1)).flatMap P.qb ++ [34]).toArray⟩ := by
      intro x hx
      simp only [dovetailref02_Quote.j1, Option.bind_some]
      by_cases hxe : x = true
      · rw [if_pos hxe, nb_length]
        have hq := P.qb_esc c (hx.mp hxe)
        have : ([92, (c.toNat : Int)] : List Int) = nb (P.qb c) := by rw [hq]; rfl
        rw [this, if_pos (by rw [nb_length, hq]; simp; omega)]
        exact key _ (by omega)
      · rw [if_neg hxe]
        have hne : ¬ (c = 34 ∨ c = 92) := fun h => hxe (hx.mpr h)
        by_cases h10 : (c.toNat : Int) = 10
        · rw [if_pos h10, nb_length]
          have hq := P.qb_nl c hne (e10.mpr h10)
          have : ([92, 110] : List Int) = nb (P.qb c) := by rw [hq]; rfl
          rw [this, if_pos (by rw [nb_length, hq]; simp; omega)]
          exact key _ (by omega)
        · rw [if_neg h10]
          have hn10 : ¬ c = 10 := fun h => h10 (e10.mp h)
          have hj2 : ∀ (y : Bool), ((y = true) ↔ (c < 32 ∨ 126 < c)) → dovetailref02_Quote.j2 (k + 1) s (nb pre) (i : Int) (c.toNat : Int) y = some ⟨(pre ++ P.qb c ++ (s.data.toList.drop (i + 1)).flatMap P.qb ++ [34]).toArray⟩ := by
            intro y hy
            simp only [dovetailref02_Quote.j2]
            by_cases hye : y = true
            · rw [if_pos hye]
              have w1 : wrap64 (c.toNat : Int) = (c.toNat : Int) := by unfold wrap64; omega
              rw [w1]
              have t1 : wrap64 (Int.tdiv (c.toNat : Int) 16) = ((c.toNat / 16 : Nat) : Int) := by
                rw [Int.tdiv_eq_ediv_of_nonneg (by omega)]; unfold wrap64; omega
              have t2 : Int.tmod (c.toNat : Int) 16 = ((c.toNat % 16 : Nat) : Int) := by
                rw [Int.tmod_eq_emod_of_nonneg (by omega)]; omega
              rw [t1, t2, figure_f _ (by omega), figure_f _ (by omega)]
              simp only [Option.bind_some]
              have hq := P.qb_hex c hne hn10 (hy.mp hye)
              have : ([92, 120, ((P.hexd (c.toNat / 16)).toNat : Int), ((P.hexd (c.toNat % 16)).toNat : Int)] : List Int) = nb (P.qb c) := by rw [hq]; rfl
              rw [this, nb_length, if_pos (by rw [nb_length, hq]; simp; omega)]
              exact key _ (by omega)
            · rw [if_neg hye, nb_length, if_pos (by omega)]
              have hq := P.qb_one c hne hn10 (fun h => hye (hy.mpr h))
              have : ([(c.toNat : Int)] : List Int) = nb (P.qb c) := by rw [hq]; rfl
              rw [this]
              exact key _ (by omega)
          by_cases h32 : (c.toNat : Int) < 32
          · rw [if_pos h32]; exact hj2 true ⟨fun _ => .inl (l32.mpr h32), fun _ => rfl⟩
          · rw [if_neg h32]
            refine hj2 _ ?_
            rw [decide_eq_true_iff, l32, l126]
            omega
    by_cases h34 : (c.toNat : Int) = 34
    · rw [if_pos h34]; exact hesc true ⟨fun _ => .inl (e34.mpr h34), fun _ => rfl⟩
    · rw [if_neg h34]
      refine hesc _ ?_
      rw [beq_iff_eq]
      constructor
      · intro h; exact .inr (e92.mpr h)
      · rintro (h | h)
        · exact absurd (e34.mp h) h34
        · exact e92.mp h
theorem rQuote_f (s : ByteArray) (hs : s.size ≤ 35184372088831) (k : Nat) (hk : 3 * s.size < k) : dovetailref02_Quote.f k s = some ⟨(P.quoteL s.data.toList).toArray⟩ := by
  have := rQuote_l s hs s.size k 0 [34] (by omega) (by omega) hk (by simp; omega)
  unfold dovetailref02_Quote.f
  rw [List.drop_zero] at this
  simpa [P.quoteL, P.quoteTo, nb] using this
/-- A word of the reference, as it is written. -/
def wr (x : S33) : List UInt8 × Bool := (x.f0.data.toList, x.f1)
theorem rdR (l : List S33) (i : Nat) (h : i < l.length) : rd_T33 l (i : Int) = l[i] := by
  simp [rd_T33, List.getD_eq_getElem?_getD, List.getElem?_eq_getElem h]
theorem rdW (l : List S32) (i : Nat) (h : i < l.length) : rd_T32 l (i : Int) = l[i] := by
  simp [rd_T32, List.getD_eq_getElem?_getD, List.getElem?_eq_getElem h]
theorem boundL_cut (l : List (List UInt8 × Bool)) (i : Nat) : P.boundL (l.take i) + P.boundL (l.drop i) = P.boundL l := by
  have h : ∀ a b : List (List UInt8 × Bool), P.boundL (a ++ b) = P.boundL a + P.boundL b := fun a b => by simp [P.boundL]
  rw [← h, List.take_append_drop]
theorem bound_at (l : List (List UInt8 × Bool)) (i : Nat) (h : i < l.length) : 4 * l[i].1.length + 3 ≤ P.boundL l := by
  have h1 := boundL_cut l (i + 1)
  have h2 := P.boundL_snoc (l.take i) l[i]
  rw [List.take_succ_eq_append_getElem h] at h1
  omega
theorem rWrite_l (l : List S33) (hb : P.boundL (l.map wr) ≤ 35184372088831) (d : Nat) : ∀ (k i : Nat), l.length - i = d → i ≤ l.length → 2 * d + 3 * P.boundL (l.map wr) + 1 < k →
    dovetailref02_Write.l0 k l (nb (P.writeL ((l.map wr).take i))) (i : Int) = some ⟨(P.writeL (l.map wr)).toArray⟩ := by
  have hge := P.boundL_ge (l.map wr)
  rw [List.length_map] at hge
  induction d with
  | zero =>
    intro k i hi hle hk
    obtain ⟨k, rfl⟩ : ∃ m, k = m + 1 := ⟨k - 1, by omega⟩
    have : i = l.length := by omega
    subst this
    simp only [dovetailref02_Write.l0]
    rw [if_neg (by omega), List.take_of_length_le (by simp), nb_str]
  | succ d ih =>
    intro k i hi hle hk
    obtain ⟨k, rfl⟩ : ∃ m, k = m + 2 := ⟨k - 2, by omega⟩
    have hlt : i < l.length := by omega
    have hlm : i < (l.map wr).length := by simpa using hlt
    have hba := bound_at (l.map wr) i hlm
    have hwn := P.writeL_snoc ((l.map wr).take i) (l.map wr)[i]
    rw [← List.take_succ_eq_append_getElem hlm] at hwn
    have hwl := P.writeL_length ((l.map wr).take i)
    have hbt := P.boundL_take (l.map wr) (i + 1)
    have hbn := P.boundL_snoc ((l.map wr).take i) (l.map wr)[i]
    rw [← List.take_succ_eq_append_getElem hlm] at hbn
    have hx : (l.map wr)[i] = wr l[i] := by simp
    rw [hx] at hba hwn hbn
    have hz : l[i].f0.data.toList.length = l[i].f0.size := by simp
    simp only [wr] at hba hbn
    rw [hz] at hba hbn
    have key : ∀ (k' : Nat) (pre : List UInt8), 2 * d + 3 * P.boundL (l.map wr) + 1 < k' → pre = P.writeL ((l.map wr).take (i + 1)) → dovetailref02_Write.l0 k' l (nb pre) (wrap64 ((i : Int) + 1)) = some ⟨(P.writeL (l.map wr)).toArray⟩ := by
      intro k' pre hk' hp
      rw [hp, wrapI i (by omega)]
      exact ih k' (i + 1) (by omega) (by omega) hk'
    have hj : ∀ (pre : List UInt8), pre = P.writeL ((l.map wr).take i) ++ (if (l.map wr).take i = [] then [] else [32]) → dovetailref02_Write.j1 (k + 1) l (nb pre) (i : Int) = some ⟨(P.writeL (l.map wr)).toArray⟩ := by
      intro pre hp
      have hpl : pre.length ≤ (P.writeL ((l.map wr).take i)).length + 1 := by
        rw [hp, List.length_append]
        split <;> simp
      simp only [dovetailref02_Write.j1]
      rw [if_pos (by omega), if_pos (by omega), rdR l i hlt]
      have hql := P.quoteL_length l[i].f0.data.toList
      rw [hz] at hql
      have hquote : P.pieceL (wr l[i]) = P.quoteL l[i].f0.data.toList → (dovetailref02_Quote.f k l[i].f0).bind (fun t => if (nb pre).length + t.size < 140737488355328 then dovetailref02_Write.l0 k l (nb pre ++ bytesOf t) (wrap64 ((i : Int) + 1)) else none) = some ⟨(P.writeL (l.map wr)).toArray⟩ := by
        intro hpc
        rw [rQuote_f l[i].f0 (by omega) k (by omega)]
        simp only [Option.bind_some]
        rw [nb_length, P.size_lit, if_pos (by omega), nb_bytes, ← nb_append]
        refine key k _ (by omega) ?_
        rw [hwn, hpc, hp]
      by_cases hq : l[i].f1 = true
      · rw [if_pos hq]
        exact hquote (by simp [P.pieceL, wr, hq])
      · rw [if_neg hq, rPlain_f l[i].f0 (by omega) k (by omega)]
        simp only [Option.bind_some]
        by_cases hpl2 : P.plainL l[i].f0.data.toList = true
        · rw [if_pos hpl2, nb_length, if_pos (by omega), nb_bytes, ← nb_append]
          refine key k _ (by omega) ?_
          rw [hwn, hp]
          simp [P.pieceL, wr, hq, hpl2]
        · rw [if_neg hpl2]
          exact hquote (by simp [P.pieceL, wr, hpl2])
    simp only [dovetailref02_Write.l0]
    rw [if_pos (by omega)]
    have hnil : (l.map wr).take i = [] ↔ i = 0 := by
      constructor
      · intro h
        have := congrArg List.length h
        rw [List.length_take, List.length_map, List.length_nil] at this
        omega
      · rintro rfl; rfl
    by_cases h0 : i = 0
    · rw [if_neg (by omega)]
      refine hj _ ?_
      rw [if_pos (hnil.mpr h0), List.append_nil]
    · rw [if_pos (by omega), nb_length, if_pos (by omega)]
      have : nb (P.writeL ((l.map wr).take i)) ++ [32] = nb (P.writeL ((l.map wr).take i) ++ [32]) := by rw [nb_append]; rfl
      rw [this]
      refine hj _ ?_
      rw [if_neg (fun h => h0 (hnil.mp h))]
theorem rWrite_f (l : List S33) (hb : P.boundL (l.map wr) ≤ 35184372088831) (k : Nat) (hk : 5 * P.boundL (l.map wr) + 1 < k) : dovetailref02_Write.f k l = some ⟨(P.writeL (l.map wr)).toArray⟩ := by
  have hge := P.boundL_ge (l.map wr)
  rw [List.length_map] at hge
  exact rWrite_l l hb l.length k 0 (by omega) (by omega) (by omega)

theorem same_l (a : List S32) (b : List S33) (hl : a.length = b.length) (hb : a.length ≤ 140737488355328) (hs : ∀ (i : Nat) (h : i < a.length) (h' : i < b.length), a[i].f0 = b[i].f0 ∧ a[i].f1 = b[i].f1 ∧ a[i].f2 = b[i].f2) (d : Nat) :
    ∀ (k i : Nat), a.length - i = d → i ≤ a.length → d < k → dovetaillaw02_same.l0 k a b (i : Int) = some true := by
  induction d with
  | zero =>
    intro k i hi hle hk
    obtain ⟨k, rfl⟩ : ∃ m, k = m + 1 := ⟨k - 1, by omega⟩
    simp only [dovetaillaw02_same.l0]
    rw [if_neg (by omega)]
  | succ d ih =>
    intro k i hi hle hk
    obtain ⟨k, rfl⟩ : ∃ m, k = m + 1 := ⟨k - 1, by omega⟩
    obtain ⟨h1, h2, h3⟩ := hs i (by omega) (by omega)
    simp only [dovetaillaw02_same.l0]
    rw [if_pos (by omega), if_pos (by omega), if_pos (by omega), rdW a i (by omega), rdR b i (by omega), if_pos (by rw [h1]), if_neg (by rw [h2]; simp), if_pos h3, wrapI i (by omega)]
    exact ih k (i + 1) (by omega) (by omega) (by omega)

/-- What the law makes of its arguments: the words of both. -/
def tq (l1 : List ByteArray) (l2 : List Bool) (i : Nat) : ByteArray × Bool := (rdOf ByteArray.empty l1 (i : Int), if i < l2.length then rdOf false l2 (i : Int) else false)
def mkW (l1 : List ByteArray) (l2 : List Bool) (n : Nat) : List S32 := (List.range n).map fun i => ⟨(tq l1 l2 i).1, (tq l1 l2 i).2, wrap64 (7 * (i : Int))⟩
def mkR (l1 : List ByteArray) (l2 : List Bool) (n : Nat) : List S33 := (List.range n).map fun i => ⟨(tq l1 l2 i).1, (tq l1 l2 i).2, wrap64 (7 * (i : Int))⟩
theorem mkW_len (l1 : List ByteArray) (l2 : List Bool) (n : Nat) : (mkW l1 l2 n).length = n := by simp [mkW]
theorem mkR_len (l1 : List ByteArray) (l2 : List Bool) (n : Nat) : (mkR l1 l2 n).length = n := by simp [mkR]
theorem mkWR (l1 : List ByteArray) (l2 : List Bool) (n : Nat) : (mkW l1 l2 n).map wl = (mkR l1 l2 n).map wr := by simp [mkW, mkR, wl, wr]
theorem law_l (s : ByteArray) (l1 : List ByteArray) (l2 : List Bool) (hs : s.size ≤ 1048576) (h1 : l1.length ≤ 1048576) (hb : P.boundL ((mkR l1 l2 l1.length).map wr) ≤ 16777216) (d : Nat) :
    ∀ (k i : Nat), l1.length - i = d → i ≤ l1.length → d + 100000000 < k → dovetaillaw02_WordsWritten.l0 k s l1 l2 (mkW l1 l2 i) (mkR l1 l2 i) (i : Int) = some true := by
  induction d with
  | zero =>
    intro k i hi hle hk
    obtain ⟨k, rfl⟩ : ∃ m, k = m + 1 := ⟨k - 1, by omega⟩
    have : i = l1.length := by omega
    subst this
    have hln := mkW_len l1 l2 l1.length
    have hlr := mkR_len l1 l2 l1.length
    simp only [dovetaillaw02_WordsWritten.l0]
    rw [if_neg (by omega), hln, if_pos (by omega)]
    simp only [Option.bind_some]
    rw [wPlain_f s (by omega) k (by omega), rPlain_f s (by omega) k (by omega)]
    simp only [Option.bind_some]
    rw [if_neg (by simp)]
    unfold words_Quote.f
    rw [if_pos (by omega), rQuote_f s (by omega) k (by omega)]
    simp only [Option.bind_some]
    have htk : ∀ z, (mkW l1 l2 l1.length ++ [z]).take ((l1.length : Int) : Int).toNat = mkW l1 l2 l1.length := by
      intro z
      rw [Int.toNat_natCast, List.take_append_of_le_length (by omega), List.take_of_length_le (by omega)]
    rw [if_pos trivial, if_pos (by omega), if_pos (by rw [List.length_append, hln]; simp; omega), htk]
    unfold words_Write.f
    rw [mkWR, if_pos (by omega), rWrite_f _ (by omega) k (by omega)]
    simp only [Option.bind_some]
    rw [if_pos trivial]
    have hsm : dovetaillaw02_same.f k (mkW l1 l2 l1.length) (mkR l1 l2 l1.length) = some true := by
      unfold dovetaillaw02_same.f
      rw [if_pos (by rw [hln, hlr])]
      exact same_l _ _ (by rw [hln, hlr]) (by omega) (fun i h h' => by simp [mkW, mkR]) l1.length k 0 (by omega) (by omega) (by omega)
    rw [hsm]
    simp only [Option.bind_some]
    rw [if_pos trivial, if_pos (by rw [List.length_append, hln]; simp; omega)]
    rw [rdW _ _ (by rw [List.length_append, hln]; simp), List.getElem_append_right (by omega)]
    simp [hln, P.toList_data]
  | succ d ih =>
    intro k i hi hle hk
    obtain ⟨k, rfl⟩ : ∃ m, k = m + 1 := ⟨k - 1, by omega⟩
    have hln := mkW_len l1 l2 i
    have hlr := mkR_len l1 l2 i
    have hW : mkW l1 l2 (i + 1) = mkW l1 l2 i ++ [⟨(tq l1 l2 i).1, (tq l1 l2 i).2, wrap64 (7 * (i : Int))⟩] := by simp [mkW, List.range_succ]
    have hR : mkR l1 l2 (i + 1) = mkR l1 l2 i ++ [⟨(tq l1 l2 i).1, (tq l1 l2 i).2, wrap64 (7 * (i : Int))⟩] := by simp [mkR, List.range_succ]
    have ihk := ih k (i + 1) (by omega) (by omega) (by omega)
    rw [hW, hR] at ihk
    simp only [dovetaillaw02_WordsWritten.l0]
    rw [if_pos (by omega)]
    by_cases h2 : i < l2.length
    · rw [if_pos (by omega), if_pos (by omega), hln, if_pos (by omega), hlr, if_pos (by omega), wrapI i (by omega)]
      simp only [tq, if_pos h2] at ihk
      exact ihk
    · rw [if_neg (by omega), if_pos (by omega), hln, if_pos (by omega), hlr, if_pos (by omega), wrapI i (by omega)]
      simp only [tq, if_neg h2] at ihk
      exact ihk
theorem law_f (s : ByteArray) (l1 : List ByteArray) (l2 : List Bool) (hs : s.size ≤ 1048576) (h1 : l1.length ≤ 1048576) (hb : P.boundL ((mkR l1 l2 l1.length).map wr) ≤ 16777216) :
    dovetaillaw02_WordsWritten.f 200000000 s l1 l2 = some true := law_l s l1 l2 hs h1 hb l1.length 200000000 0 (by omega) (by omega) (by omega)
end Go.Proofs.Yteaiejippkikpaa.WW
