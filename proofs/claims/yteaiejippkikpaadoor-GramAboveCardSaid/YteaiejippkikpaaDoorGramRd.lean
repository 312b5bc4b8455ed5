/- Reading lists at a natural number; renamings, and to which nonterminals one comes by them. -/
import Derived.Test.YteaiejippkikpaaDoorSets
import Derived.Test.YteaiejippkikpaaDoorGramCo
set_option linter.unusedVariables false
set_option linter.unusedSimpArgs false
namespace Go.Proofs.YteaiejippkikpaaDoor.B
open Go.RowKit Go.Proofs.YteaiejippkikpaaDoorW.PrintWords Go.Proofs.YteaiejippkikpaaDoorW.PrintLast Go.Proofs.YteaiejippkikpaaDoorW.PrintMore

theorem rd_D (l : List Int) (i : Nat) : rd l (i : Int) = l.getD i 0 := by simp [rd]
theorem rdS_D (l : List ByteArray) (i : Nat) : rdOf ByteArray.empty l (i : Int) = l.getD i ByteArray.empty := by simp [rdOf]
theorem rdR_D (l : List S35) (i : Nat) : rd_T35 l (i : Int) = l.getD i z35 := by simp [rd_T35]
theorem getD_lt {α : Type} (l : List α) (i : Nat) (d : α) (h : i < l.length) : l.getD i d = l[i] := by simp [List.getD_eq_getElem?_getD, List.getElem?_eq_getElem h]
theorem getD_set {α : Type} (l : List α) (m i : Nat) (v d : α) : (l.set m v).getD i d = if m = i ∧ i < l.length then v else l.getD i d := by
  simp only [List.getD_eq_getElem?_getD, List.getElem?_set]
  by_cases h : m = i
  · subst h
    by_cases h2 : m < l.length
    · simp [h2]
    · simp [h2, List.getElem?_eq_none (show l.length ≤ m by omega)]
  · simp [h]
theorem sum_set : ∀ (l : List Int) (m : Nat) (v : Int), m < l.length → (l.set m v).sum = l.sum - l.getD m 0 + v
  | [], m, v, h => by simp at h
  | x :: l, 0, v, _ => by simp [List.sum_cons]; omega
  | x :: l, m + 1, v, h => by
    have := sum_set l m v (by simpa using h)
    simp only [List.set_cons_succ, List.sum_cons, List.getD_cons_succ]
    omega
theorem sum_le : ∀ (l l' : List Int), l.length = l'.length → (∀ i, i < l.length → l.getD i 0 ≤ l'.getD i 0) → l.sum ≤ l'.sum
  | [], [], _, _ => by simp
  | [], _ :: _, h, _ => by simp at h
  | _ :: _, [], h, _ => by simp at h
  | x :: l, y :: l', h, hi => by
    have h1 := sum_le l l' (by simpa using h) (fun i hl => by simpa using hi (i + 1) (by simpa using hl))
    have h0 := hi 0 (by simp)
    simp only [List.getD_cons_zero] at h0
    simp only [List.sum_cons]
    omega
theorem sum_bound : ∀ (l : List Int), (∀ i, i < l.length → l.getD i 0 < 2 ^ 64) → l.sum ≤ l.length * 2 ^ 64
  | [], _ => by simp
  | x :: l, hi => by
    have h1 := sum_bound l (fun i hl => by simpa using hi (i + 1) (by simpa using hl))
    have h0 := hi 0 (by simp)
    simp only [List.getD_cons_zero] at h0
    simp only [List.sum_cons, List.length_cons]
    push_cast
    omega
theorem w64 (i : Nat) (h : i < 9223372036854775807) : wrap64 ((i : Int) + 1) = ((i + 1 : Nat) : Int) := by unfold wrap64; omega

/-- The nonterminal that a rule renames. -/
def ren (x : S35) : Option Nat := match x.f1 with
  | [s] => if s < 0 then some (-1 - s).toNat else none
  | _ => none
theorem okR_sides {t n : Nat} {x : S35} (h : okR t n x = true) : x.f1.length ≤ 32 ∧ 0 ≤ x.f0 ∧ x.f0 < n ∧ ∀ s ∈ x.f1, s < t ∧ -(n : Int) ≤ s := by
  simp only [okR, Bool.and_eq_true, decide_eq_true_eq, Bool.not_eq_true', List.any_eq_false, outS, Bool.or_eq_true, not_or, Int.not_le, Int.not_lt] at h
  exact ⟨h.1.1.1, h.1.1.2, h.1.2, fun s hs => by simpa using h.2 s hs⟩
theorem ren_lt {t n : Nat} {x : S35} (h : okR t n x = true) {m : Nat} (hm : ren x = some m) : m < n := by
  have hs := (okR_sides h).2.2.2
  unfold ren at hm
  split at hm
  · rename_i s he
    split at hm
    · have := hs s (by rw [he]; simp)
      have := Option.some.inj hm
      omega
    · cases hm
  · cases hm
theorem ren_f {t n : Nat} {x : S35} (h : okR t n x = true) (hn : n ≤ 60) : gram_Renaming.f x.f0 x.f1 = some (match ren x with | some m => ((m : Int), true) | none => (0, false)) := by
  have hs := (okR_sides h).2.2.2
  unfold gram_Renaming.f ren
  generalize x.f1 = l at hs
  match l with
  | [] => simp
  | [s] =>
    have := hs s (by simp)
    have h0 : rd [s] 0 = s := by simp [rd]
    simp only [List.length_singleton, h0]
    by_cases c : s < 0
    · have h1 : wrap64 (-1 - s) = ((-1 - s).toNat : Int) := by unfold wrap64; omega
      rw [if_pos (by rfl), if_pos (by decide), if_neg (by omega), if_pos c, h1]
    · rw [if_pos (by rfl), if_pos (by decide), if_pos (by omega), if_neg c]
  | a :: b :: l => simp; omega
/-- A renaming of m by a. -/
def Edge (R : List S35) (a m : Nat) : Prop := ∃ x ∈ R, x.f0 = (a : Int) ∧ ren x = some m
/-- a comes to b. -/
inductive Reach (R : List S35) : Nat → Nat → Prop
  | refl (a : Nat) : Reach R a a
  | step {a m b : Nat} : Edge R a m → Reach R m b → Reach R a b
theorem Reach.snoc {R : List S35} {a m b : Nat} (h : Reach R a m) (e : Edge R m b) : Reach R a b := by
  induction h with
  | refl a => exact .step e (.refl _)
  | step e' _ ih => exact .step e' (ih e)
theorem Reach.trans {R : List S35} {a m b : Nat} (h : Reach R a m) (h' : Reach R m b) : Reach R a b := by
  induction h with
  | refl a => exact h'
  | step e _ ih => exact .step e (ih h')
theorem Edge.lt {R : List S35} {t n a m : Nat} (hR : ∀ x ∈ R, okR t n x = true) (e : Edge R a m) : a < n ∧ m < n := by
  obtain ⟨x, hx, ha, hm⟩ := e
  have := okR_sides (hR x hx)
  exact ⟨by omega, ren_lt (hR x hx) hm⟩
theorem Reach.lt {R : List S35} {t n a b : Nat} (hR : ∀ x ∈ R, okR t n x = true) (h : Reach R a b) (hb : b < n) : a < n := by
  cases h with
  | refl => exact hb
  | step e _ => exact (e.lt hR).1
end Go.Proofs.YteaiejippkikpaaDoor.B
