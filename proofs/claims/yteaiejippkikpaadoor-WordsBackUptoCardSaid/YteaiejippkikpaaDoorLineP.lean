/- Reading the words of a line, in plain Lean. -/
import Derived.Test.YteaiejippkikpaaDoorPureW
import Derived.Lib.Bytealg
set_option linter.unusedVariables false
set_option linter.unusedSimpArgs false
namespace Go.Proofs.YteaiejippkikpaaDoor.P

def blankB (c : UInt8) : Bool := c == 32 || c == 9
/-- A digit's value. -/
def hexv (c : UInt8) : Option Nat := if 48 ≤ c ∧ c ≤ 57 then some (c.toNat - 48) else if 65 ≤ c ∧ c ≤ 70 then some (c.toNat - 55) else none
/-- What stands behind a backslash. -/
def esc : List UInt8 → Option (UInt8 × Nat)
  | [] => none
  | c :: t => if c = 34 then some (34, 1) else if c = 92 then some (92, 1) else if c = 110 then some (10, 1) else if c = 120 then
      match t with
      | a :: b :: _ => match hexv a, hexv b with
        | some x, some y => some (UInt8.ofNat (16 * x + y), 3)
        | _, _ => none
      | _ => none
    else none
theorem esc_le {l : List UInt8} {x : UInt8} {n : Nat} (h : esc l = some (x, n)) : 1 ≤ n ∧ n ≤ l.length := by
  unfold esc at h
  split at h
  · cases h
  · split at h
    · obtain ⟨rfl, rfl⟩ := Prod.mk.inj (Option.some.inj h); simp
    · split at h
      · obtain ⟨rfl, rfl⟩ := Prod.mk.inj (Option.some.inj h); simp
      · split at h
        · obtain ⟨rfl, rfl⟩ := Prod.mk.inj (Option.some.inj h); simp
        · split at h
          · split at h
            · split at h
              · obtain ⟨rfl, rfl⟩ := Prod.mk.inj (Option.some.inj h); simp
              · cases h
            · cases h
          · cases h
/-- A quoted word behind its first quote: its bytes, where it ends or goes wrong, whether it is one. -/
def quoF : Nat → List UInt8 → Nat → List UInt8 → List UInt8 × Nat × Bool
  | 0, _, pos, _ => ([], pos, false)
  | _ + 1, [], pos, _ => ([], pos, false)
  | k + 1, c :: t, pos, acc =>
    if c = 34 then (acc, pos + 1, true)
    else if c = 10 then ([], pos, false)
    else if c = 92 then
      match esc t with
      | none => ([], pos, false)
      | some (x, n) => quoF k (t.drop n) (pos + 1 + n) (acc ++ [x])
    else quoF k t (pos + 1) (acc ++ [c])
def quo (l : List UInt8) (pos : Nat) : List UInt8 × Nat × Bool := quoF (l.length + 1) l pos []
/-- Where a quoted word ends. -/
theorem quoF_end : ∀ (k : Nat) (l : List UInt8) (pos : Nat) (acc : List UInt8), pos ≤ (quoF k l pos acc).2.1 ∧ (quoF k l pos acc).2.1 ≤ pos + l.length ∧ ((quoF k l pos acc).2.2 = true → pos < (quoF k l pos acc).2.1)
  | 0, l, pos, acc => by simp [quoF]
  | k + 1, [], pos, acc => by simp [quoF]
  | k + 1, c :: t, pos, acc => by
    unfold quoF
    split
    · first | (simp; done) | (simp; omega)
    · split
      · first | (simp; done) | (simp; omega)
      · split
        · split
          · first | (simp; done) | (simp; omega)
          · rename_i x n he
            have := esc_le he
            have ih := quoF_end k (t.drop n) (pos + 1 + n) (acc ++ [x])
            rw [List.length_drop] at ih
            refine ⟨by omega, by simp only [List.length_cons]; omega, fun h => ?_⟩
            have := ih.2.2 h
            omega
        · have ih := quoF_end k t (pos + 1) (acc ++ [c])
          refine ⟨by omega, by simp only [List.length_cons]; omega, fun h => ?_⟩
          have := ih.2.2 h
          omega
/-- May a word end here? -/
def after : List UInt8 → Bool
  | [] => true
  | d :: _ => blankB d
abbrev Wd := List UInt8 × Bool × Nat
/-- A line's words, or where it goes wrong. -/
def lineF : Nat → List UInt8 → Nat → List Wd → Nat ⊕ List Wd
  | 0, _, _, out => .inr out
  | _ + 1, [], _, out => .inr out
  | k + 1, c :: t, pos, out =>
    if blankB c = true then lineF k t (pos + 1) out
    else if c = 35 then .inr out
    else if c = 34 then
      if (quo t (pos + 1)).2.2 = true then
        if after ((c :: t).drop ((quo t (pos + 1)).2.1 - pos)) = true then lineF k ((c :: t).drop ((quo t (pos + 1)).2.1 - pos)) (quo t (pos + 1)).2.1 (out ++ [((quo t (pos + 1)).1, true, pos)])
        else .inl (quo t (pos + 1)).2.1
      else .inl (quo t (pos + 1)).2.1
    else
      if after ((c :: t).dropWhile plainB) = true then lineF k ((c :: t).dropWhile plainB) (pos + ((c :: t).takeWhile plainB).length) (if (c :: t).takeWhile plainB = [] then out else out ++ [((c :: t).takeWhile plainB, false, pos)])
      else .inl (pos + ((c :: t).takeWhile plainB).length)
def lineL (l : List UInt8) : Nat ⊕ List Wd := lineF (l.length + 1) l 0 []

/-- The digits' places. -/
theorem u8_all {p : UInt8 → Prop} (h : ∀ n : Fin 256, p (UInt8.ofNat n)) (c : UInt8) : p c := by
  have := h ⟨c.toNat, c.toNat_lt⟩
  simpa using this
theorem hexv_at (c : UInt8) : Lib.indexByte [48, 49, 50, 51, 52, 53, 54, 55, 56, 57, 65, 66, 67, 68, 69, 70] c = match hexv c with | some v => (v : Int) | none => -1 := by
  revert c
  exact u8_all (by decide +kernel)
theorem hexv_lt {c : UInt8} {v : Nat} (h : hexv c = some v) : v < 16 := by
  have : ∀ c : UInt8, (match hexv c with | some v => decide (v < 16) | none => true) = true := u8_all (by decide +kernel)
  have := this c
  rw [h] at this
  simpa using this
theorem marks_at (c : UInt8) : Lib.indexByte [34, 92, 110] c = if c = 34 then 0 else if c = 92 then 1 else if c = 110 then 2 else -1 := by
  revert c
  exact u8_all (by decide +kernel)
end Go.Proofs.YteaiejippkikpaaDoor.P
