/- Words of a line, in plain Lean: quoting and plain bytes. -/
import Derived.Test.YteaiejippkikpaaDoorKit
namespace Go.Proofs.YteaiejippkikpaaDoor.P

/-- A digit of the sixteen. -/
def hexd (n : Nat) : UInt8 := if n < 10 then UInt8.ofNat (48 + n) else UInt8.ofNat (55 + n)
/-- A byte within quotes. -/
def qb (c : UInt8) : List UInt8 :=
  if c = 34 ∨ c = 92 then [92, c] else if c = 10 then [92, 110] else if c < 32 ∨ 126 < c then [92, 120, hexd (c.toNat / 16), hexd (c.toNat % 16)] else [c]
def quoteTo (l : List UInt8) : List UInt8 := 34 :: l.flatMap qb
def quoteL (l : List UInt8) : List UInt8 := quoteTo l ++ [34]
theorem qb_length (c : UInt8) : (qb c).length ≤ 4 := by
  unfold qb
  split
  · simp
  · split
    · simp
    · split <;> simp
theorem quoteTo_length (l : List UInt8) : (quoteTo l).length ≤ 4 * l.length + 1 := by
  unfold quoteTo
  induction l with
  | nil => simp
  | cons c l ih =>
    have := qb_length c
    simp only [List.flatMap_cons, List.length_cons, List.length_append] at *
    omega
theorem quoteTo_snoc (l : List UInt8) (c : UInt8) : quoteTo (l ++ [c]) = quoteTo l ++ qb c := by
  simp [quoteTo]
theorem take_snoc (s : ByteArray) (k : Nat) (h : k < s.size) : s.data.toList.take (k + 1) = s.data.toList.take k ++ [s[k]] := by
  rw [List.take_succ_eq_append_getElem (by simpa using h)]; rfl
theorem take_all (s : ByteArray) : s.data.toList.take s.size = s.data.toList := List.take_of_length_le (by simp)
theorem take_len (s : ByteArray) (k : Nat) : (s.data.toList.take k).length ≤ k := List.length_take_le _ _
theorem size_append (a b : ByteArray) : (a ++ b).size = a.size + b.size := by simp
theorem size_lit (l : List UInt8) : (⟨l.toArray⟩ : ByteArray).size = l.length := by simp [ByteArray.size]
theorem data_append (a b : ByteArray) : (a ++ b).data.toList = a.data.toList ++ b.data.toList := by simp
theorem extract_one (s : ByteArray) (k : Nat) (h : k < s.size) : (s.extract k (k + 1)).data.toList = [s[k]] := by
  have hk : k < s.data.toList.length := by simpa using h
  rw [ByteArray.data_extract, Array.toList_extract, List.extract_eq_take_drop]
  rw [show k + 1 - k = 1 from by omega, List.drop_eq_getElem_cons hk]
  rfl
theorem size_one (s : ByteArray) (k : Nat) (h : k < s.size) : (s.extract k (k + 1)).size = 1 := by
  simp only [ByteArray.size_extract]; omega
/-- The sixteen digits. -/
def digits : ByteArray := ⟨#[48, 49, 50, 51, 52, 53, 54, 55, 56, 57, 65, 66, 67, 68, 69, 70]⟩
theorem digit_at (n : Nat) (h : n < 16) : (digits.extract n (n + 1)).data.toList = [hexd n] := by
  have h2 : ∀ m : Fin 16, (digits.extract m.val (m.val + 1)).data.toList = [hexd m.val] := by decide
  exact h2 ⟨n, h⟩
theorem qb_esc (c : UInt8) (h : c = 34 ∨ c = 92) : qb c = [92, c] := if_pos h
theorem qb_nl (c : UInt8) (h : ¬ (c = 34 ∨ c = 92)) (h1 : c = 10) : qb c = [92, 110] := by rw [qb, if_neg h, if_pos h1]
theorem qb_hex (c : UInt8) (h : ¬ (c = 34 ∨ c = 92)) (h1 : ¬ c = 10) (h2 : c < 32 ∨ 126 < c) : qb c = [92, 120, hexd (c.toNat / 16), hexd (c.toNat % 16)] := by rw [qb, if_neg h, if_neg h1, if_pos h2]
theorem qb_one (c : UInt8) (h : ¬ (c = 34 ∨ c = 92)) (h1 : ¬ c = 10) (h2 : ¬ (c < 32 ∨ 126 < c)) : qb c = [c] := by rw [qb, if_neg h, if_neg h1, if_neg h2]
/-- Is a byte plain? -/
def plainB (c : UInt8) : Bool := decide (32 < c) && decide (c < 127) && !(c == 34)
/-- May a text stand unquoted? -/
def noHash : List UInt8 → Bool
  | [] => false
  | c :: _ => !(c == 35)
def plainL (l : List UInt8) : Bool := l.all plainB && noHash l
theorem toList_data (s : ByteArray) : s.toList = s.data.toList := ByteArray.toList_eq s
/-- A word as it is written: its text, whether it is quoted in any case. -/
def pieceL (x : List UInt8 × Bool) : List UInt8 := if x.2 = true ∨ plainL x.1 = false then quoteL x.1 else x.1
/-- Words as they are written. -/
def writeL : List (List UInt8 × Bool) → List UInt8
  | [] => []
  | x :: r => pieceL x ++ r.flatMap fun y => 32 :: pieceL y
/-- How much they may take. -/
def boundL (l : List (List UInt8 × Bool)) : Nat := (l.map fun x => 4 * x.1.length + 3).sum
theorem quoteL_length (l : List UInt8) : (quoteL l).length ≤ 4 * l.length + 2 := by
  have := quoteTo_length l
  simp only [quoteL, List.length_append, List.length_singleton]
  omega
theorem pieceL_length (x : List UInt8 × Bool) : (pieceL x).length ≤ 4 * x.1.length + 2 := by
  unfold pieceL
  split
  · exact quoteL_length _
  · omega
theorem writeL_snoc (l : List (List UInt8 × Bool)) (x : List UInt8 × Bool) : writeL (l ++ [x]) = writeL l ++ (if l = [] then [] else [32]) ++ pieceL x := by
  cases l with
  | nil => simp [writeL]
  | cons y r => simp [writeL]
theorem boundL_snoc (l : List (List UInt8 × Bool)) (x : List UInt8 × Bool) : boundL (l ++ [x]) = boundL l + (4 * x.1.length + 3) := by simp [boundL]
theorem writeL_length (l : List (List UInt8 × Bool)) : (writeL l).length ≤ boundL l := by
  cases l with
  | nil => simp [writeL]
  | cons y r =>
    have h : ∀ q : List (List UInt8 × Bool), (q.flatMap fun y => 32 :: pieceL y).length ≤ boundL q := by
      intro q
      induction q with
      | nil => simp
      | cons z q ih =>
        have := pieceL_length z
        simp only [List.flatMap_cons, List.length_append, List.length_cons, boundL, List.map_cons, List.sum_cons] at *
        omega
    have := h r
    have := pieceL_length y
    simp only [writeL, List.length_append, boundL, List.map_cons, List.sum_cons] at *
    omega
theorem boundL_ge (l : List (List UInt8 × Bool)) : l.length ≤ boundL l := by
  induction l with
  | nil => simp [boundL]
  | cons y r ih =>
    simp only [boundL, List.map_cons, List.sum_cons, List.length_cons] at *
    omega
theorem boundL_take (l : List (List UInt8 × Bool)) (k : Nat) : boundL (l.take k) ≤ boundL l := by
  have h : ∀ a b : List (List UInt8 × Bool), boundL (a ++ b) = boundL a + boundL b := fun a b => by simp [boundL]
  have h2 := h (l.take k) (l.drop k)
  rw [List.take_append_drop] at h2
  omega
end Go.Proofs.YteaiejippkikpaaDoor.P
