/- Reading a line and what follows it, in plain Lean. -/
import Derived.Test.YteaiejippkikpaaDoorLineP
set_option linter.unusedVariables false
set_option linter.unusedSimpArgs false
namespace Go.Proofs.YteaiejippkikpaaDoor.P

theorem esc_c (c : UInt8) (t : List UInt8) : esc (c :: t) = if c = 34 then some (34, 1) else if c = 92 then some (92, 1) else if c = 110 then some (10, 1) else if c = 120 then (match t with | a :: b :: _ => (match hexv a, hexv b with | some x, some y => some (UInt8.ofNat (16 * x + y), 3) | _, _ => none) | _ => none) else none := rfl
theorem esc_app {l : List UInt8} {x : UInt8} {n : Nat} (h : esc l = some (x, n)) (r : List UInt8) : esc (l ++ r) = some (x, n) ∧ n ≤ l.length := by
  refine ⟨?_, (esc_le h).2⟩
  match l, h with
  | [], h => cases h
  | c :: t, h =>
    rw [List.cons_append]
    rw [esc_c] at h ⊢
    by_cases c34 : c = 34
    · rw [if_pos c34] at h ⊢; exact h
    rw [if_neg c34] at h ⊢
    by_cases c92 : c = 92
    · rw [if_pos c92] at h ⊢; exact h
    rw [if_neg c92] at h ⊢
    by_cases c110 : c = 110
    · rw [if_pos c110] at h ⊢; exact h
    rw [if_neg c110] at h ⊢
    by_cases c120 : c = 120
    · rw [if_pos c120] at h ⊢
      match t, h with
      | [], h => cases h
      | [_], h => cases h
      | a :: b :: u, h => exact h
    · rw [if_neg c120] at h; cases h
theorem quoF_app (r : List UInt8) (m : Nat) : ∀ (k : Nat) (l : List UInt8) (pos : Nat) (acc : List UInt8), (quoF k l pos acc).2.2 = true → quoF (k + m) (l ++ r) pos acc = quoF k l pos acc
  | 0, l, pos, acc, h => by simp [quoF] at h
  | k + 1, [], pos, acc, h => by simp [quoF] at h
  | k + 1, c :: t, pos, acc, h => by
    rw [show k + 1 + m = (k + m) + 1 by omega, List.cons_append]
    unfold quoF at h ⊢
    by_cases c34 : c = 34
    · rw [if_pos c34, if_pos c34]
    rw [if_neg c34] at h
    rw [if_neg c34, if_neg c34]
    by_cases c10 : c = 10
    · rw [if_pos c10] at h; cases h
    rw [if_neg c10] at h
    rw [if_neg c10, if_neg c10]
    by_cases c92 : c = 92
    · rw [if_pos c92] at h
      rw [if_pos c92, if_pos c92]
      cases he : esc t with
      | none => rw [he] at h; cases h
      | some xn =>
        obtain ⟨x, n⟩ := xn
        rw [he] at h
        obtain ⟨e1, e2⟩ := esc_app he r
        rw [e1]
        dsimp only at h ⊢
        rw [List.drop_append_of_le_length e2]
        exact quoF_app r m k _ _ _ h
    rw [if_neg c92] at h
    rw [if_neg c92, if_neg c92]
    exact quoF_app r m k _ _ _ h
theorem quo_app (l r : List UInt8) (pos : Nat) (h : (quo l pos).2.2 = true) : quo (l ++ r) pos = quo l pos := by
  unfold quo at h ⊢
  rw [List.length_append, show l.length + r.length + 1 = (l.length + 1) + r.length by omega]
  exact quoF_app r r.length _ _ _ _ h
theorem after_app (l r : List UInt8) (h : after l = true) : after (l ++ 32 :: r) = true := by
  cases l with
  | nil => rfl
  | cons c t => exact h
theorem plain_blank : plainB 32 = false := by decide
theorem while_app (r : List UInt8) : ∀ l : List UInt8, (l ++ 32 :: r).takeWhile plainB = l.takeWhile plainB ∧ (l ++ 32 :: r).dropWhile plainB = l.dropWhile plainB ++ 32 :: r
  | [] => ⟨by rw [List.nil_append, List.takeWhile_cons, if_neg (by rw [plain_blank]; decide)]; rfl, by rw [List.nil_append, List.dropWhile_cons, if_neg (by rw [plain_blank]; decide)]; rfl⟩
  | c :: t => by
    obtain ⟨h1, h2⟩ := while_app r t
    rw [List.cons_append, List.takeWhile_cons, List.dropWhile_cons, List.takeWhile_cons, List.dropWhile_cons]
    by_cases h : plainB c = true
    · rw [if_pos h, if_pos h, if_pos h, if_pos h, h1, h2]; exact ⟨rfl, rfl⟩
    · rw [if_neg h, if_neg h, if_neg h, if_neg h]; exact ⟨rfl, rfl⟩
/-- A line that is read, and what stands behind a blank. -/
theorem lineF_app (r : List UInt8) : ∀ (k : Nat) (l : List UInt8) (pos : Nat) (out ws : List Wd), l.length < k → lineF k l pos out = .inr ws → ∀ m, r.length < m → lineF (k + m) (l ++ 32 :: r) pos out = .inr ws ∨ ∃ k2, r.length < k2 ∧ lineF (k + m) (l ++ 32 :: r) pos out = lineF k2 r (pos + l.length + 1) ws
  | 0, l, pos, out, ws, hk, h, m, hm => by omega
  | k + 1, [], pos, out, ws, hk, h, m, hm => by
    obtain rfl := Sum.inr.inj h
    refine .inr ⟨k + m, by omega, ?_⟩
    rw [show k + 1 + m = (k + m) + 1 by omega, List.nil_append]
    conv => lhs; unfold lineF
    rw [if_pos (show blankB 32 = true by decide)]
    rfl
  | k + 1, c :: t, pos, out, ws, hk, h, m, hm => by
    rw [show k + 1 + m = (k + m) + 1 by omega, List.cons_append]
    rw [List.length_cons] at hk
    unfold lineF at h
    conv => lhs; lhs; unfold lineF
    conv => rhs; rhs; ext k2; rhs; lhs; unfold lineF
    by_cases hb : blankB c = true
    · rw [if_pos hb] at h
      simp only [if_pos hb]
      rcases lineF_app r k t _ _ _ (by omega) h m hm with e | ⟨k2, e1, e2⟩
      · exact .inl e
      · exact .inr ⟨k2, e1, by rw [e2, List.length_cons, show pos + 1 + t.length + 1 = pos + (t.length + 1) + 1 by omega]⟩
    rw [if_neg hb] at h
    simp only [if_neg hb]
    by_cases c35 : c = 35
    · rw [if_pos c35] at h
      simp only [if_pos c35]
      exact .inl h
    rw [if_neg c35] at h
    simp only [if_neg c35]
    by_cases c34 : c = 34
    · rw [if_pos c34] at h
      simp only [if_pos c34]
      by_cases hq : (quo t (pos + 1)).2.2 = true
      rotate_left
      · rw [if_neg hq] at h; cases h
      rw [if_pos hq] at h
      rw [quo_app t (32 :: r) (pos + 1) hq]
      simp only [if_pos hq]
      have hqe := quoF_end (t.length + 1) t (pos + 1) []
      rw [show quoF (t.length + 1) t (pos + 1) [] = quo t (pos + 1) from rfl] at hqe
      have e0 : (c :: (t ++ 32 :: r)).drop ((quo t (pos + 1)).2.1 - pos) = (c :: t).drop ((quo t (pos + 1)).2.1 - pos) ++ 32 :: r := by
        rw [← List.cons_append, List.drop_append_of_le_length (by rw [List.length_cons]; omega)]
      rw [e0]
      by_cases ha : after ((c :: t).drop ((quo t (pos + 1)).2.1 - pos)) = true
      rotate_left
      · rw [if_neg ha] at h; cases h
      rw [if_pos ha] at h
      simp only [if_pos (after_app _ r ha)]
      rcases lineF_app r k _ _ _ _ (by rw [List.length_drop, List.length_cons]; omega) h m hm with e | ⟨k2, e1, e2⟩
      · exact .inl e
      · refine .inr ⟨k2, e1, ?_⟩
        rw [e2, List.length_drop, List.length_cons]
        congr 1
        omega
    rw [if_neg c34] at h
    simp only [if_neg c34]
    obtain ⟨w1, w2⟩ := while_app r (c :: t)
    rw [List.cons_append] at w1 w2
    rw [w1, w2]
    by_cases ha : after ((c :: t).dropWhile plainB) = true
    rotate_left
    · rw [if_neg ha] at h; cases h
    rw [if_pos ha] at h
    simp only [if_pos (after_app _ r ha)]
    have hl := congrArg List.length (List.takeWhile_append_dropWhile (p := plainB) (l := c :: t))
    rw [List.length_append, List.length_cons] at hl
    have hpos : 0 < ((c :: t).takeWhile plainB).length := by
      rw [List.takeWhile_cons]
      by_cases hp : plainB c = true
      · rw [if_pos hp]; simp
      · exfalso
        rw [List.dropWhile_cons, if_neg hp] at ha
        exact hb ha
    rcases lineF_app r k _ _ _ _ (by omega) h m hm with e | ⟨k2, e1, e2⟩
    · exact .inl e
    · refine .inr ⟨k2, e1, ?_⟩
      rw [e2, List.length_cons]
      congr 1
      omega
/-- What is read keeps what was read, its places rise; a fault lies behind. -/
def Asc (pos : Nat) : List Wd → Prop
  | [] => True
  | x :: l => pos ≤ x.2.2 ∧ Asc (x.2.2 + 1) l
theorem Asc.mono {p q : Nat} (h : q ≤ p) : ∀ {l : List Wd}, Asc p l → Asc q l
  | [], _ => trivial
  | x :: l, hl => ⟨by have := hl.1; omega, hl.2⟩
theorem lineF_all : ∀ (k : Nat) (l : List UInt8) (pos : Nat) (out : List Wd), l.length < k →
    match lineF k l pos out with
    | .inl p => pos ≤ p ∧ p ≤ pos + l.length
    | .inr ws => ∃ v, ws = out ++ v ∧ Asc pos v ∧ ∀ x ∈ v, x.2.2 < pos + l.length
  | 0, l, pos, out, hk => by omega
  | k + 1, [], pos, out, hk => ⟨[], by simp, trivial, fun x hx => by cases hx⟩
  | k + 1, c :: t, pos, out, hk => by
    rw [List.length_cons] at hk ⊢
    unfold lineF
    by_cases hb : blankB c = true
    · simp only [if_pos hb]
      have ih := lineF_all k t (pos + 1) out (by omega)
      revert ih
      cases lineF k t (pos + 1) out with
      | inl p => rintro ⟨h1, h2⟩; exact ⟨by omega, by omega⟩
      | inr ws => rintro ⟨v, rfl, h1, h2⟩; exact ⟨v, rfl, h1.mono (by omega), fun x hx => by have := h2 x hx; omega⟩
    simp only [if_neg hb]
    by_cases c35 : c = 35
    · simp only [if_pos c35]; exact ⟨[], by simp, trivial, fun x hx => by cases hx⟩
    simp only [if_neg c35]
    by_cases c34 : c = 34
    · simp only [if_pos c34]
      have hqe := quoF_end (t.length + 1) t (pos + 1) []
      rw [show quoF (t.length + 1) t (pos + 1) [] = quo t (pos + 1) from rfl] at hqe
      generalize quo t (pos + 1) = q at hqe
      by_cases hq : q.2.2 = true
      rotate_left
      · simp only [if_neg hq]; exact ⟨by omega, by omega⟩
      simp only [if_pos hq]
      by_cases ha : after ((c :: t).drop (q.2.1 - pos)) = true
      rotate_left
      · simp only [if_neg ha]; exact ⟨by omega, by omega⟩
      simp only [if_pos ha]
      have hlen : ((c :: t).drop (q.2.1 - pos)).length = t.length + 1 - (q.2.1 - pos) := by rw [List.length_drop, List.length_cons]
      have ih := lineF_all k ((c :: t).drop (q.2.1 - pos)) q.2.1 (out ++ [(q.1, true, pos)]) (by omega)
      rw [hlen] at ih
      revert ih
      cases lineF k ((c :: t).drop (q.2.1 - pos)) q.2.1 (out ++ [(q.1, true, pos)]) with
      | inl p => rintro ⟨h1, h2⟩; exact ⟨by omega, by omega⟩
      | inr ws =>
        rintro ⟨v, rfl, h1, h2⟩
        refine ⟨(q.1, true, pos) :: v, by simp, ⟨Nat.le_refl _, h1.mono (by show pos + 1 ≤ _; omega)⟩, fun x hx => ?_⟩
        rcases List.mem_cons.1 hx with rfl | hx
        · show pos < _; omega
        · have := h2 x hx; omega
    simp only [if_neg c34]
    have hl := congrArg List.length (List.takeWhile_append_dropWhile (p := plainB) (l := c :: t))
    rw [List.length_append, List.length_cons] at hl
    by_cases ha : after ((c :: t).dropWhile plainB) = true
    rotate_left
    · simp only [if_neg ha]; exact ⟨by omega, by omega⟩
    simp only [if_pos ha]
    have hpos : 0 < ((c :: t).takeWhile plainB).length := by
      rw [List.takeWhile_cons]
      by_cases hp : plainB c = true
      · rw [if_pos hp]; simp
      · exfalso
        rw [List.dropWhile_cons, if_neg hp] at ha
        exact hb ha
    rw [if_neg (fun e => by rw [e] at hpos; simp at hpos)]
    have ih := lineF_all k ((c :: t).dropWhile plainB) (pos + ((c :: t).takeWhile plainB).length) (out ++ [((c :: t).takeWhile plainB, false, pos)]) (by omega)
    revert ih
    cases lineF k ((c :: t).dropWhile plainB) (pos + ((c :: t).takeWhile plainB).length) (out ++ [((c :: t).takeWhile plainB, false, pos)]) with
    | inl p => rintro ⟨h1, h2⟩; exact ⟨by omega, by omega⟩
    | inr ws =>
      rintro ⟨v, rfl, h1, h2⟩
      refine ⟨((c :: t).takeWhile plainB, false, pos) :: v, by simp, ⟨Nat.le_refl _, h1.mono (by show pos + 1 ≤ _; omega)⟩, fun x hx => ?_⟩
      rcases List.mem_cons.1 hx with rfl | hx
      · show pos < _; omega
      · have := h2 x hx; omega
end Go.Proofs.YteaiejippkikpaaDoor.P
