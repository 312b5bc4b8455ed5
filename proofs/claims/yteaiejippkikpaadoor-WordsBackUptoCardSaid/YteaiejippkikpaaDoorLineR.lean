/- The document's Line, in plain Lean: the same words. -/
import Derived.Test.YteaiejippkikpaaDoorLineQ
import Derived.Test.YteaiejippkikpaaDoorLwx2
set_option linter.unusedVariables false
set_option linter.unusedSimpArgs false
namespace Go.Proofs.YteaiejippkikpaaDoor.H
open Go.RowKit Go.Proofs.YteaiejippkikpaaDoorW.PrintWords Go.Proofs.YteaiejippkikpaaDoorW.PrintLast Go.Proofs.YteaiejippkikpaaDoorW.PrintMore Go.Proofs.YteaiejippkikpaaDoor.Lw

def lb (l : List UInt8) : List Int := l.map fun c => (c.toNat : Int)
theorem lb_str (l : List UInt8) : strOfNums (lb l) = ⟨l.toArray⟩ := by
  simp [strOfNums, lb, List.map_map, Function.comp_def]
theorem lb_snoc (l : List UInt8) (c : UInt8) : lb (l ++ [c]) = lb l ++ [(c.toNat : Int)] := by simp [lb]
theorem lb_length (l : List UInt8) : (lb l).length = l.length := by simp [lb]
theorem bt_n (s : ByteArray) (j : Nat) (h : j < s.size) : bt s (j : Int) = (s[j].toNat : Int) := by simp [bt, h]
theorem wj (i k : Nat) (h : i + k < 9223372036854775807) : wrap64 ((i : Int) + (k : Int)) = ((i + k : Nat) : Int) := by unfold wrap64; omega
theorem blank_ev (c : UInt8) : dovetailref02_blank.f (c.toNat : Int) = some (P.blankB c) := by
  revert c
  exact P.u8_all (by decide +kernel)
theorem plain_ev (c : UInt8) : dovetailref02_plain.f (c.toNat : Int) = some (P.plainB c) := by
  revert c
  exact P.u8_all (by decide +kernel)
/-- A digit's value, or -1. -/
def hexI (o : Option UInt8) : Int := match o.bind P.hexv with | some v => (v : Int) | none => -1
theorem six0_ev (k : Nat) (c : UInt8) : (if (c.toNat : Int) ≥ 48 then (dovetailref02_six.j0 (k + 1) (c.toNat : Int) (decide ((c.toNat : Int) ≤ 57))) else (dovetailref02_six.j0 (k + 1) (c.toNat : Int) false)) = some (hexI (some c)) := by
  simp only [dovetailref02_six.j0]
  revert c
  exact P.u8_all (by decide +kernel)
theorem six_ev (k : Nat) (s : ByteArray) (i : Nat) : dovetailref02_six.f (k + 1) s (i : Int) = some (hexI s.data.toList[i]?) := by
  unfold dovetailref02_six.f
  by_cases h : i < s.size
  · rw [if_neg (by omega), if_pos (by omega), if_pos (by omega), bt_n s i h, s_at s i h]
    exact six0_ev k _
  · rw [if_pos (by omega), List.getElem?_eq_none (by simp; omega)]
    rfl
/-- A piece of a quoted word. -/
def pieceV : List UInt8 → Int × Int
  | [] => (0, 0)
  | c :: t => if c = 92 then (match P.esc t with | some (x, n) => ((x.toNat : Int), ((n + 1 : Nat) : Int)) | none => (0, 0)) else if c = 10 then (0, 0) else if c = 34 then (0, 0) else ((c.toNat : Int), 1)
theorem pieceV_cons (c : UInt8) (t : List UInt8) : pieceV (c :: t) = if c = 92 then (match P.esc t with | some (x, n) => ((x.toNat : Int), ((n + 1 : Nat) : Int)) | none => (0, 0)) else if c = 10 then (0, 0) else if c = 34 then (0, 0) else ((c.toNat : Int), 1) := rfl
theorem esc_cons (c : UInt8) (t : List UInt8) : P.esc (c :: t) = if c = 34 then some (34, 1) else if c = 92 then some (92, 1) else if c = 110 then some (10, 1) else if c = 120 then (match t with | a :: b :: _ => (match P.hexv a, P.hexv b with | some x, some y => some (UInt8.ofNat (16 * x + y), 3) | _, _ => none) | _ => none) else none := rfl
theorem piece_ev (k : Nat) (s : ByteArray) (j : Nat) (h : j < s.size) (hs : s.size ≤ 1048576) : dovetailref02_piece.f (k + 3) s (j : Int) = some (pieceV (s.data.toList.drop j)) := by
  unfold dovetailref02_piece.f
  rw [if_pos (by omega), if_pos (by omega), bt_n s j h, drop_at s j h]
  generalize s[j] = c
  have x92 : c = 92 ↔ c.toNat = 92 := u8_iff c 92 (by omega)
  have x10 : c = 10 ↔ c.toNat = 10 := u8_iff c 10 (by omega)
  have x34 : c = 34 ↔ c.toNat = 34 := u8_iff c 34 (by omega)
  rw [pieceV_cons]
  by_cases c92 : c = 92
  rotate_left
  · rw [if_neg (fun e => c92 (x92.2 (by omega))), if_neg c92]
    by_cases c10 : c = 10
    · rw [if_pos (by have := x10.1 c10; omega), if_pos c10]
    rw [if_neg (fun e => c10 (x10.2 (by omega))), if_neg c10]
    by_cases c34 : c = 34
    · rw [if_pos (by have := x34.1 c34; omega), if_pos c34]
    rw [if_neg (fun e => c34 (x34.2 (by omega))), if_neg c34]
  rw [if_pos (by have := x92.1 c92; omega), if_pos c92, show ((j : Int) + 1) = ((j : Int) + ((1 : Nat) : Int)) from rfl, wj j 1 (by omega)]
  clear x92 x10 x34 c92 c
  by_cases h1 : j + 1 < s.size
  rotate_left
  · rw [if_pos (by omega), List.drop_eq_nil_of_le (by simp; omega)]
    rfl
  rw [if_neg (by omega), if_pos (by omega), if_pos (by omega), bt_n s (j + 1) h1, drop_at s (j + 1) h1]
  have e2 : s.data.toList[j + 2]? = (s.data.toList.drop (j + 1 + 1))[0]? := by rw [List.getElem?_drop]
  have e3 : s.data.toList[j + 3]? = (s.data.toList.drop (j + 1 + 1))[1]? := by rw [List.getElem?_drop]
  have hb1 := bt_n s (j + 1) h1
  generalize s[j + 1] = d at hb1
  have x92 : d = 92 ↔ d.toNat = 92 := u8_iff d 92 (by omega)
  have x34 : d = 34 ↔ d.toNat = 34 := u8_iff d 34 (by omega)
  have x110 : d = 110 ↔ d.toNat = 110 := u8_iff d 110 (by omega)
  have x120 : d = 120 ↔ d.toNat = 120 := u8_iff d 120 (by omega)
  have hw : wrap64 ((j : Int) + 1) = ((j + 1 : Nat) : Int) := wj j 1 (by omega)
  have hw2 : wrap64 ((j : Int) + 2) = ((j + 2 : Nat) : Int) := wj j 2 (by omega)
  have hw3 : wrap64 ((j : Int) + 3) = ((j + 3 : Nat) : Int) := wj j 3 (by omega)
  rw [esc_cons]
  by_cases d34 : d = 34
  · rw [if_pos (by have := x34.1 d34; omega), if_pos d34, beq_iff_eq.2 (by have := x34.1 d34; omega : (d.toNat : Int) = 34)]
    simp only [dovetailref02_piece.j0]
    rw [if_pos trivial, hw, if_pos (by omega), if_pos (by omega), hb1, x34.1 d34]
    rfl
  rw [if_neg (fun e => d34 (x34.2 (by omega))), if_neg d34]
  by_cases d92 : d = 92
  · rw [if_pos d92, beq_iff_eq.2 (by have := x92.1 d92; omega : (d.toNat : Int) = 92)]
    simp only [dovetailref02_piece.j0]
    rw [if_pos trivial, hw, if_pos (by omega), if_pos (by omega), hb1, x92.1 d92]
    rfl
  rw [if_neg d92, beq_eq_false_iff_ne.2 (fun e => d92 (x92.2 (by omega)) : (d.toNat : Int) ≠ 92)]
  simp only [dovetailref02_piece.j0]
  rw [if_neg (by decide)]
  by_cases d110 : d = 110
  · rw [if_pos (by have := x110.1 d110; omega), if_pos d110]; rfl
  rw [if_neg (fun e => d110 (x110.2 (by omega))), if_neg d110]
  by_cases d120 : d = 120
  rotate_left
  · rw [if_neg (fun e => d120 (x120.2 (by omega))), if_neg d120]
  rw [if_pos (by have := x120.1 d120; omega), if_pos d120, hw2, hw3, six_ev, six_ev, e2, e3]
  clear e2 e3 hb1 x92 x34 x110 x120 d34 d92 d110 d120
  simp only [Option.bind_some, dovetailref02_piece.j1, hw2, hw3]
  generalize hu2 : (s.data.toList.drop (j + 1 + 1)) = u
  have g2 : ∀ k', dovetailref02_six.f (k' + 1) s ((j + 2 : Nat) : Int) = some (hexI u[0]?) := fun k' => by rw [six_ev, ← hu2, List.getElem?_drop]
  have g3 : ∀ k', dovetailref02_six.f (k' + 1) s ((j + 3 : Nat) : Int) = some (hexI u[1]?) := fun k' => by rw [six_ev, ← hu2, List.getElem?_drop]
  simp only [g2, g3, Option.bind_some]
  match u with
  | [] => rfl
  | [a] =>
    simp only [List.getElem?_cons_zero, List.getElem?_cons_succ, List.getElem?_nil]
    cases ha : P.hexv a with
    | none => simp [hexI, ha]
    | some v => simp [hexI, ha]
  | a :: b :: l =>
    simp only [List.getElem?_cons_zero, List.getElem?_cons_succ]
    cases ha : P.hexv a with
    | none => simp [hexI, ha]
    | some v =>
      cases hb : P.hexv b with
      | none => simp [hexI, ha, hb]
      | some z =>
        have hv := P.hexv_lt ha
        have hz := P.hexv_lt hb
        have h1 : (UInt8.ofNat (16 * v + z)).toNat = 16 * v + z := UInt8.toNat_ofNat_of_lt' (by show _ < 256; omega)
        have h2 : wrap64 (wrap64 (16 * (v : Int)) + (z : Int)) % 256 = ((16 * v + z : Nat) : Int) := by
          rw [show wrap64 (16 * (v : Int)) = 16 * (v : Int) by unfold wrap64; omega, show wrap64 (16 * (v : Int) + (z : Int)) = 16 * (v : Int) + (z : Int) by unfold wrap64; omega, Int.emod_eq_of_lt (by omega) (by omega)]
          omega
        simp only [hexI, Option.bind_some, ha, hb, h1, h2]
        rw [if_pos (by omega), if_pos (by exact decide_eq_true (by omega))]
        rfl

theorem piece_ev' (k : Nat) (hk : 3 ≤ k) (s : ByteArray) (j : Nat) (h : j < s.size) (hs : s.size ≤ 1048576) : dovetailref02_piece.f k s (j : Int) = some (pieceV (s.data.toList.drop j)) := by
  obtain ⟨k, rfl⟩ : ∃ k', k = k' + 3 := ⟨k - 3, by omega⟩
  exact piece_ev k s j h hs
def refT (x : P.Wd) : S116 := ⟨⟨x.1.toArray⟩, x.2.1, (x.2.2 : Int)⟩
def refOf : Nat ⊕ List P.Wd → List S116 × Int × Int
  | .inl p => ([], (p : Int), 2)
  | .inr l => (l.map refT, 0, 0)
/-- Behind a word. -/
def tailV (s : ByteArray) (F p : Nat) (out : List P.Wd) : List S116 × Int × Int := if P.after (s.data.toList.drop p) = true then refOf (P.lineF F (s.data.toList.drop p) p out) else ([], (p : Int), 2)
def qK (s : ByteArray) (F j : Nat) (out : List P.Wd) (r : List UInt8 × Nat × Bool) : List S116 × Int × Int := if r.2.2 = true then tailV s F r.2.1 (out ++ [(r.1, true, j)]) else ([], (r.2.1 : Int), 2)
theorem after_n (s : ByteArray) (i : Nat) (h : i < s.size) : P.after (s.data.toList.drop i) = P.blankB s[i] := by rw [drop_at s i h]; rfl

/-- What holds of the places behind. -/
def Behind (s : ByteArray) (F j : Nat) : Prop := ∀ p, j < p → p ≤ s.size → ∀ out : List P.Wd, out.length ≤ p → ∀ K, 3 * (s.size - p) + 8 ≤ K → dovetailref02_Line.l0 K s (out.map refT) (p : Int) = some (refOf (P.lineF F (s.data.toList.drop p) p out))
theorem l1_ev (s : ByteArray) (hs : s.size ≤ 1048576) (F j : Nat) (out : List P.Wd) (ho : out.length ≤ j) (IH : Behind s F j) : ∀ d i, s.size - i ≤ d → j < i → i ≤ s.size → ∀ (acc : List UInt8) (G K : Nat), acc.length ≤ i → s.size - i < G → 3 * (s.size - i) + 8 ≤ K →
    dovetailref02_Line.l1 K s (out.map refT) (i : Int) (lb acc) ⟨#[]⟩ true (j : Int) = some (qK s F j out (P.quoF G (s.data.toList.drop i) i acc)) := by
  intro d
  induction d with
  | zero =>
    intro i hd hij hi acc G K hal hG hK
    obtain rfl : i = s.size := by omega
    obtain ⟨K, rfl⟩ : ∃ k, K = k + 1 := ⟨K - 1, by omega⟩
    obtain ⟨G, rfl⟩ : ∃ k, G = k + 1 := ⟨G - 1, by omega⟩
    simp only [dovetailref02_Line.l1]
    rw [if_neg (by omega)]
    obtain ⟨K, rfl⟩ : ∃ k, K = k + 1 := ⟨K - 1, by omega⟩
    simp only [dovetailref02_Line.j2]
    rw [if_neg (by decide), if_pos (by omega), drop_end]
    rfl
  | succ d ih =>
    intro i hd hij hi acc G K hal hG hK
    by_cases hlt : i < s.size
    rotate_left
    · exact ih i (by omega) hij hi acc G K hal hG hK
    obtain ⟨K, rfl⟩ : ∃ k, K = k + 1 := ⟨K - 1, by omega⟩
    obtain ⟨G, rfl⟩ : ∃ k, G = k + 1 := ⟨G - 1, by omega⟩
    simp only [dovetailref02_Line.l1]
    rw [if_pos (by omega), if_pos (by omega), bt_n s i hlt]
    obtain ⟨K, rfl⟩ : ∃ k, K = k + 1 := ⟨K - 1, by omega⟩
    have hp := piece_ev' K (by omega) s i hlt hs
    simp only [dovetailref02_Line.j2]
    rw [drop_at s i hlt] at hp ⊢
    generalize s[i] = c at hp
    have x34 : c = 34 ↔ c.toNat = 34 := u8_iff c 34 (by omega)
    have hw1 : wrap64 ((i : Int) + 1) = ((i + 1 : Nat) : Int) := wj i 1 (by omega)
    unfold P.quoF
    by_cases c34 : c = 34
    · rw [if_neg (by simp [x34.1 c34]), if_neg (by omega), hw1, if_pos c34]
      have key := IH (i + 1) (by omega) (by omega) (out ++ [(acc, true, j)]) (by simp; omega) K (by omega)
      rw [List.map_append, show List.map refT [(acc, true, j)] = [⟨strOfNums (lb acc), true, (j : Int)⟩] by rw [lb_str]; rfl] at key
      by_cases h1 : i + 1 < s.size
      · rw [if_pos (by omega), if_pos (by omega), bt_n s (i + 1) h1, blank_ev, Option.bind_some]
        show _ = some (tailV s F (i + 1) (out ++ [(acc, true, j)]))
        unfold tailV
        rw [after_n s (i + 1) h1]
        cases P.blankB s[i + 1] with
        | true => rw [if_pos rfl, if_pos rfl, if_pos (by simp; omega)]; exact key
        | false => rw [if_neg (by decide), if_neg (by decide)]
      · rw [if_neg (by omega), if_pos (by simp; omega), key]
        show _ = some (tailV s F (i + 1) (out ++ [(acc, true, j)]))
        unfold tailV
        rw [show i + 1 = s.size by omega, drop_end, if_pos (show P.after [] = true from rfl)]
    have b34 : ((c.toNat : Int) != 34) = true := bne_iff_ne.2 (fun e => c34 (x34.2 (by omega)))
    rw [b34, if_pos rfl, hp, Option.bind_some, if_neg c34]
    rw [pieceV_cons]
    by_cases c92 : c = 92
    · rw [if_pos c92, if_neg (show ¬ (c = 10) by rw [c92]; decide), if_pos c92]
      cases he : P.esc (s.data.toList.drop (i + 1)) with
      | none => rw [if_pos rfl]; rfl
      | some xn =>
        obtain ⟨x, n⟩ := xn
        have hle := P.esc_le he
        rw [List.length_drop, show s.data.toList.length = s.size by simp] at hle
        dsimp only
        rw [if_neg (by omega), if_pos (by rw [lb_length]; omega), wj i (n + 1) (by omega), ← lb_snoc, List.drop_drop]
        have key := ih (i + 1 + n) (by omega) (by omega) (by omega) (acc ++ [x]) G K (by simp; omega) (by omega) (by omega)
        rw [show i + (n + 1) = i + 1 + n by omega]
        exact key
    rw [if_neg c92]
    by_cases c10 : c = 10
    · rw [if_pos c10, if_pos rfl, if_pos c10]; rfl
    rw [if_neg c10, if_neg c34, if_neg c10, if_neg c92]
    dsimp only
    rw [if_neg (by decide), if_pos (by rw [lb_length]; omega), hw1, ← lb_snoc]
    exact ih (i + 1) (by omega) (by omega) (by omega) (acc ++ [c]) G K (by simp; omega) (by omega) (by omega)
/-- A plain word's end. -/
def pK (s : ByteArray) (F j i : Nat) (out : List P.Wd) (acc : List UInt8) : List S116 × Int × Int := if P.after ((s.data.toList.drop i).dropWhile P.plainB) = true then refOf (P.lineF F ((s.data.toList.drop i).dropWhile P.plainB) (i + ((s.data.toList.drop i).takeWhile P.plainB).length) (out ++ [(acc ++ (s.data.toList.drop i).takeWhile P.plainB, false, j)])) else ([], ((i + ((s.data.toList.drop i).takeWhile P.plainB).length : Nat) : Int), 2)
theorem l2_ev (s : ByteArray) (hs : s.size ≤ 1048576) (F j : Nat) (hj : j < s.size) (hb : P.blankB s[j] = false) (out : List P.Wd) (ho : out.length ≤ j) (IH : Behind s F j) : ∀ d i, s.size - i ≤ d → j ≤ i → i ≤ s.size → ∀ (acc : List UInt8) (K : Nat), acc.length ≤ i → 3 * (s.size - i) + (if i = j then 7 else 9) ≤ K →
    dovetailref02_Line.l2 K s (out.map refT) (i : Int) (lb acc) ⟨#[]⟩ false (j : Int) = some (pK s F j i out acc) := by
  intro d
  induction d with
  | zero =>
    intro i hd hij hi acc K hal hK
    obtain rfl : i = s.size := by omega
    rw [if_neg (by omega)] at hK
    obtain ⟨K, rfl⟩ : ∃ k, K = k + 1 := ⟨K - 1, by omega⟩
    simp only [dovetailref02_Line.l2]
    have key := IH s.size (by omega) (by omega) (out ++ [(acc, false, j)]) (by simp; omega) K (by omega)
    rw [List.map_append, show List.map refT [(acc, false, j)] = [⟨strOfNums (lb acc), false, (j : Int)⟩] by rw [lb_str]; rfl] at key
    rw [if_neg (by omega), if_pos (by simp; omega), key]
    unfold pK
    rw [drop_end]
    simp [P.after]
  | succ d ih =>
    intro i hd hij hi acc K hal hK
    by_cases hlt : i < s.size
    rotate_left
    · exact ih i (by omega) hij hi acc K hal hK
    obtain ⟨K, rfl⟩ : ∃ k, K = k + 1 := ⟨K - 1, by split at hK <;> omega⟩
    simp only [dovetailref02_Line.l2]
    rw [if_pos (by omega), if_pos (by omega), bt_n s i hlt, plain_ev, Option.bind_some]
    unfold pK
    have hw1 : wrap64 ((i : Int) + 1) = ((i + 1 : Nat) : Int) := wj i 1 (by omega)
    cases hp : P.plainB s[i] with
    | true =>
      have e1 : (s.data.toList.drop i).dropWhile P.plainB = (s.data.toList.drop (i + 1)).dropWhile P.plainB := by rw [drop_at s i hlt, List.dropWhile_cons, if_pos hp]
      have e2 : (s.data.toList.drop i).takeWhile P.plainB = s[i] :: (s.data.toList.drop (i + 1)).takeWhile P.plainB := by rw [drop_at s i hlt, List.takeWhile_cons, if_pos hp]
      rw [if_pos rfl, if_pos (by rw [lb_length]; omega), hw1, ← lb_snoc, ih (i + 1) (by omega) (by omega) (by omega) (acc ++ [s[i]]) K (by simp; omega) (by rw [if_neg (by omega)]; split at hK <;> omega)]
      unfold pK
      rw [e1, e2, List.length_cons, List.append_assoc, List.singleton_append, show i + 1 + ((s.data.toList.drop (i + 1)).takeWhile P.plainB).length = i + (((s.data.toList.drop (i + 1)).takeWhile P.plainB).length + 1) by omega]
    | false =>
      have e1 : (s.data.toList.drop i).dropWhile P.plainB = s.data.toList.drop i := by rw [drop_at s i hlt, List.dropWhile_cons, if_neg (by rw [hp]; decide)]
      have e2 : (s.data.toList.drop i).takeWhile P.plainB = [] := by rw [drop_at s i hlt, List.takeWhile_cons, if_neg (by rw [hp]; decide)]
      rw [if_neg (by decide), blank_ev, Option.bind_some, e1, e2, after_n s i hlt]
      cases hbi : P.blankB s[i] with
      | false => rw [if_neg (by decide), if_neg (by decide)]; rfl
      | true =>
        have hij' : i ≠ j := by rintro rfl; rw [hb] at hbi; cases hbi
        rw [if_neg hij'] at hK
        rw [if_pos rfl, if_pos rfl, if_pos (by simp; omega), List.append_nil]
        have key := IH i (by omega) (by omega) (out ++ [(acc, false, j)]) (by simp; omega) K (by omega)
        rw [List.map_append, show List.map refT [(acc, false, j)] = [⟨strOfNums (lb acc), false, (j : Int)⟩] by rw [lb_str]; rfl] at key
        exact key
theorem l0_ev (s : ByteArray) (hs : s.size ≤ 1048576) : ∀ m j, s.size - j ≤ m → j ≤ s.size → ∀ out : List P.Wd, out.length ≤ j → ∀ F K, s.size - j < F → 3 * (s.size - j) + 8 ≤ K → dovetailref02_Line.l0 K s (out.map refT) (j : Int) = some (refOf (P.lineF F (s.data.toList.drop j) j out)) := by
  intro m
  induction m with
  | zero =>
    intro j hm hj out ho F K hF hK
    obtain rfl : j = s.size := by omega
    obtain ⟨K, rfl⟩ : ∃ k, K = k + 1 := ⟨K - 1, by omega⟩
    obtain ⟨F, rfl⟩ : ∃ k, F = k + 1 := ⟨F - 1, by omega⟩
    simp only [dovetailref02_Line.l0]
    rw [if_neg (by omega), drop_end]
    rfl
  | succ m ih =>
    intro j hm hj out ho F K hF hK
    by_cases hlt : j < s.size
    rotate_left
    · exact ih j (by omega) hj out ho F K hF hK
    obtain ⟨K, rfl⟩ : ∃ k, K = k + 1 := ⟨K - 1, by omega⟩
    obtain ⟨F, rfl⟩ : ∃ k, F = k + 1 := ⟨F - 1, by omega⟩
    have IH : Behind s F j := fun p h1 h2 out' ho' K' hK' => ih p (by omega) h2 out' ho' F K' (by omega) hK'
    have hw1 : wrap64 ((j : Int) + 1) = ((j + 1 : Nat) : Int) := wj j 1 (by omega)
    simp only [dovetailref02_Line.l0]
    rw [if_pos (by omega), if_pos (by omega), bt_n s j hlt, blank_ev, Option.bind_some, hw1]
    have hdj := drop_at s j hlt
    have L2 := l2_ev s hs F j hlt
    have hcc : s[j] = s[j] := rfl
    generalize s[j] = c at hdj L2
    have x34 : c = 34 ↔ c.toNat = 34 := u8_iff c 34 (by omega)
    have x35 : c = 35 ↔ c.toNat = 35 := u8_iff c 35 (by omega)
    rw [hdj]
    unfold P.lineF
    cases hb : P.blankB c with
    | true =>
      rw [if_pos rfl, if_pos rfl]
      exact IH (j + 1) (by omega) (by omega) out (by omega) K (by omega)
    | false =>
    rw [if_neg Bool.false_ne_true, if_neg Bool.false_ne_true]
    by_cases c35 : c = 35
    · rw [if_pos (by have := x35.1 c35; omega), if_pos c35]; rfl
    rw [if_neg (fun e => c35 (x35.2 (by omega))), if_neg c35]
    by_cases c34 : c = 34
    · rw [if_pos (by have := x34.1 c34; omega), if_pos c34]
      have l1 := l1_ev s hs F j out ho IH (s.size - (j + 1)) (j + 1) (by omega) (by omega) (by omega) [] ((s.data.toList.drop (j + 1)).length + 1) K (by simp) (by rw [List.length_drop]; simp) (by omega)
      rw [show (lb [] : List Int) = [] from rfl] at l1
      rw [l1]
      have hqe := P.quoF_end ((s.data.toList.drop (j + 1)).length + 1) (s.data.toList.drop (j + 1)) (j + 1) []
      rw [show P.quoF ((s.data.toList.drop (j + 1)).length + 1) (s.data.toList.drop (j + 1)) (j + 1) [] = P.quo (s.data.toList.drop (j + 1)) (j + 1) from rfl] at hqe ⊢
      generalize P.quo (s.data.toList.drop (j + 1)) (j + 1) = r at hqe ⊢
      rw [← hdj, List.drop_drop, show j + (r.2.1 - j) = r.2.1 by omega]
      unfold qK tailV
      by_cases h1 : r.2.2 = true
      · rw [if_pos h1, if_pos h1]
        by_cases h2 : P.after (s.data.toList.drop r.2.1) = true
        · rw [if_pos h2, if_pos h2]
        · rw [if_neg h2, if_neg h2]; rfl
      · rw [if_neg h1, if_neg h1]; rfl
    rw [if_neg (fun e => c34 (x34.2 (by omega))), if_neg c34]
    have l2 := L2 hb out ho IH (s.size - j) j (by omega) (Nat.le_refl _) (by omega) [] K (by simp) (by rw [if_pos rfl]; omega)
    rw [show (lb [] : List Int) = [] from rfl] at l2
    rw [l2, ← hdj]
    unfold pK
    rw [List.nil_append]
    by_cases h2 : P.after ((s.data.toList.drop j).dropWhile P.plainB) = true
    · rw [if_pos h2, if_pos h2]
      by_cases h3 : (s.data.toList.drop j).takeWhile P.plainB = []
      · exfalso
        have : (s.data.toList.drop j).dropWhile P.plainB = s.data.toList.drop j := by
          have := List.takeWhile_append_dropWhile (p := P.plainB) (l := s.data.toList.drop j)
          rw [h3, List.nil_append] at this; exact this
        rw [this, hdj] at h2
        rw [show P.after (c :: s.data.toList.drop (j + 1)) = P.blankB c from rfl, hb] at h2
        cases h2
      · rw [if_neg h3]
    · rw [if_neg h2, if_neg h2]; rfl
/-- What the document's Line answers. -/
theorem ref_ev (s : ByteArray) (K : Nat) (hK : 3 * s.size + 8 ≤ K) : dovetailref02_Line.f K s = some (if 1048576 < s.size then ([], 0, 12) else refOf (P.lineL s.data.toList)) := by
  unfold dovetailref02_Line.f
  by_cases h : 1048576 < s.size
  · rw [if_pos (by omega), if_pos h]
  · rw [if_neg (by omega), if_neg h]
    have := l0_ev s (by omega) s.size 0 (by omega) (by omega) [] (by simp) (s.size + 1) K (by omega) (by omega)
    rw [show P.lineL s.data.toList = P.lineF (s.size + 1) (s.data.toList.drop 0) 0 [] by rw [P.lineL]; simp]
    exact this
end Go.Proofs.YteaiejippkikpaaDoor.H
