/- dovetaillaw03.GramSame: the plain law. -/
import Derived.Test.YteaiejippkikpaaDoorSx2
set_option linter.unusedVariables false
namespace Go.Proofs.YteaiejippkikpaaDoor.B
open Go.RowKit Go.Proofs.YteaiejippkikpaaDoorW.PrintWords Go.Proofs.YteaiejippkikpaaDoorW.PrintLast Go.Proofs.YteaiejippkikpaaDoorW.PrintMore

theorem rd_nat (l : List Int) (i : Nat) (h : i < l.length) : rd l (i : Int) = l[i] := by simp [rd, List.getD_eq_getElem?_getD, List.getElem?_eq_getElem h]
theorem rdS_nat (l : List ByteArray) (i : Nat) (h : i < l.length) : rdOf ByteArray.empty l (i : Int) = l[i] := by simp [rdOf, List.getD_eq_getElem?_getD, List.getElem?_eq_getElem h]
theorem rdR_nat (l : List S35) (i : Nat) (h : i < l.length) : rd_T35 l (i : Int) = l[i] := by simp [rd_T35, List.getD_eq_getElem?_getD, List.getElem?_eq_getElem h]

theorem KInts_l (l0 l1 : List Int) (hl : l0.length = l1.length) (hm : l0.length ≤ 9223372036854775807) : ∀ (d i k : Nat), l0.length - i = d → i ≤ l0.length → d < k → dovetailkit_Ints.l0 k l0 l1 (i : Int) = some (decide (l0.drop i = l1.drop i)) := by
  intro d
  induction d with
  | zero =>
    intro i k hi hle hk
    obtain ⟨k, rfl⟩ : ∃ j, k = j + 1 := ⟨k - 1, by omega⟩
    have : i = l0.length := by omega
    subst this
    rw [dovetailkit_Ints.l0, if_neg (by omega), List.drop_length, hl, List.drop_length]
    simp
  | succ d ih =>
    intro i k hi hle hk
    obtain ⟨k, rfl⟩ : ∃ j, k = j + 1 := ⟨k - 1, by omega⟩
    have hlt : i < l0.length := by omega
    have hlt1 : i < l1.length := by omega
    rw [dovetailkit_Ints.l0, if_pos (by omega), if_pos (by omega), if_pos (by omega), List.drop_eq_getElem_cons hlt, List.drop_eq_getElem_cons hlt1, rd_nat l0 i hlt, rd_nat l1 i hlt1]
    by_cases he : l0[i] = l1[i]
    · rw [if_pos he, wrap_succ i (by omega), ih (i + 1) k (by omega) (by omega) (by omega)]
      rw [he]; congr 1; rw [decide_eq_decide]; simp only [List.cons.injEq, true_and]
    · rw [if_neg he]; congr 1; symm; rw [decide_eq_false_iff_not]; intro h; exact he (List.cons.inj h).1
theorem KInts_f (l0 l1 : List Int) (k : Nat) (hm : l0.length ≤ 9223372036854775807) (hk : l0.length < k) : dovetailkit_Ints.f k l0 l1 = some (decide (l0 = l1)) := by
  unfold dovetailkit_Ints.f
  by_cases h : l0.length = l1.length
  · rw [if_pos (by omega)]
    have := KInts_l l0 l1 h hm l0.length 0 k (by omega) (by omega) hk
    simpa using this
  · rw [if_neg (by omega)]
    have : l0 ≠ l1 := fun e => h (by rw [e])
    simp [this]
theorem KStrings_l (l0 l1 : List ByteArray) (hl : l0.length = l1.length) (hm : l0.length ≤ 9223372036854775807) : ∀ (d i k : Nat), l0.length - i = d → i ≤ l0.length → d < k → dovetailkit_Strings.l0 k l0 l1 (i : Int) = some (decide (l0.drop i = l1.drop i)) := by
  intro d
  induction d with
  | zero =>
    intro i k hi hle hk
    obtain ⟨k, rfl⟩ : ∃ j, k = j + 1 := ⟨k - 1, by omega⟩
    have : i = l0.length := by omega
    subst this
    rw [dovetailkit_Strings.l0, if_neg (by omega), List.drop_length, hl, List.drop_length]
    simp
  | succ d ih =>
    intro i k hi hle hk
    obtain ⟨k, rfl⟩ : ∃ j, k = j + 1 := ⟨k - 1, by omega⟩
    have hlt : i < l0.length := by omega
    have hlt1 : i < l1.length := by omega
    rw [dovetailkit_Strings.l0, if_pos (by omega), if_pos (by omega), if_pos (by omega), List.drop_eq_getElem_cons hlt, List.drop_eq_getElem_cons hlt1, rdS_nat l0 i hlt, rdS_nat l1 i hlt1]
    by_cases he : l0[i] = l1[i]
    · rw [if_pos ((toList_eq _ _).2 he), wrap_succ i (by omega), ih (i + 1) k (by omega) (by omega) (by omega)]
      rw [he]; congr 1; rw [decide_eq_decide]; simp only [List.cons.injEq, true_and]
    · rw [if_neg (fun h => he ((toList_eq _ _).1 h))]; congr 1; symm; rw [decide_eq_false_iff_not]; intro h; exact he (List.cons.inj h).1
theorem KStrings_f (l0 l1 : List ByteArray) (k : Nat) (hm : l0.length ≤ 9223372036854775807) (hk : l0.length < k) : dovetailkit_Strings.f k l0 l1 = some (decide (l0 = l1)) := by
  unfold dovetailkit_Strings.f
  by_cases h : l0.length = l1.length
  · rw [if_pos (by omega)]
    have := KStrings_l l0 l1 h hm l0.length 0 k (by omega) (by omega) hk
    simpa using this
  · rw [if_neg (by omega)]
    have : l0 ≠ l1 := fun e => h (by rw [e])
    simp [this]
theorem KRules_l (l0 l1 : List S35) (M : Nat) (hl : l0.length = l1.length) (hm : l0.length ≤ 9223372036854775807) (hM : M ≤ 9223372036854775807) (hx : ∀ x ∈ l0, x.f1.length ≤ M) : ∀ (d i k : Nat), l0.length - i = d → i ≤ l0.length → d + M + 1 < k → dovetailkit_Rules.l0 k l0 l1 (i : Int) = some (decide ((l0.drop i).map prR = (l1.drop i).map prR)) := by
  intro d
  induction d with
  | zero =>
    intro i k hi hle hk
    obtain ⟨k, rfl⟩ : ∃ j, k = j + 1 := ⟨k - 1, by omega⟩
    have : i = l0.length := by omega
    subst this
    rw [dovetailkit_Rules.l0, if_neg (by omega), List.drop_length, hl, List.drop_length]
    simp
  | succ d ih =>
    intro i k hi hle hk
    obtain ⟨k, rfl⟩ : ∃ j, k = j + 1 := ⟨k - 1, by omega⟩
    have hlt : i < l0.length := by omega
    have hlt1 : i < l1.length := by omega
    have hxi := hx l0[i] (List.getElem_mem hlt)
    rw [dovetailkit_Rules.l0, if_pos (by omega), if_pos (by omega), if_pos (by omega), List.drop_eq_getElem_cons hlt, List.drop_eq_getElem_cons hlt1, rdR_nat l0 i hlt, rdR_nat l1 i hlt1, List.map_cons, List.map_cons]
    by_cases he : l0[i].f0 = l1[i].f0
    · rw [if_pos he, KInts_f _ _ k (by omega) (by omega), Option.bind_some]
      by_cases hf : l0[i].f1 = l1[i].f1
      · rw [if_pos (decide_eq_true hf), wrap_succ i (by omega), ih (i + 1) k (by omega) (by omega) (by omega)]
        have hp : prR l0[i] = prR l1[i] := by simp [prR, he, hf]
        rw [hp]; congr 1; rw [decide_eq_decide]; simp only [List.cons.injEq, true_and]
      · rw [if_neg (by simpa using hf)]; congr 1; symm; rw [decide_eq_false_iff_not]; intro h; exact hf (Prod.mk.inj (List.cons.inj h).1).2
    · rw [if_neg he]; congr 1; symm; rw [decide_eq_false_iff_not]; intro h; exact he (Prod.mk.inj (List.cons.inj h).1).1
theorem KRules_f (l0 l1 : List S35) (M k : Nat) (hm : l0.length ≤ 9223372036854775807) (hM : M ≤ 9223372036854775807) (hx : ∀ x ∈ l0, x.f1.length ≤ M) (hk : l0.length + M + 1 < k) : dovetailkit_Rules.f k l0 l1 = some (decide (l0.map prR = l1.map prR)) := by
  unfold dovetailkit_Rules.f
  by_cases h : l0.length = l1.length
  · rw [if_pos (by omega)]
    have := KRules_l l0 l1 M h hm hM hx l0.length 0 k (by omega) (by omega) hk
    simpa using this
  · rw [if_neg (by omega)]
    have : l0.map prR ≠ l1.map prR := fun e => h (by simpa using congrArg List.length e)
    simp [this]
theorem KGrammar_f (k : Nat) (l0_0 l0_1 : List ByteArray) (a0_2 : Int) (l0_3 : List S35) (l1_0 l1_1 : List ByteArray) (a1_2 : Int) (l1_3 : List S35) (M : Nat) (h0 : l0_0.length ≤ M) (h1 : l0_1.length ≤ M) (h3 : l0_3.length ≤ M) (hM : M ≤ 9223372036854775807) (hx : ∀ x ∈ l0_3, x.f1.length ≤ M) (hk : M + M + 1 < k) :
    dovetailkit_Grammar.f k l0_0 l0_1 a0_2 l0_3 l1_0 l1_1 a1_2 l1_3 = some (decide (l0_0 = l1_0 ∧ l0_1 = l1_1 ∧ a0_2 = a1_2 ∧ l0_3.map prR = l1_3.map prR)) := by
  unfold dovetailkit_Grammar.f
  rw [KStrings_f _ _ k (by omega) (by omega), KStrings_f _ _ k (by omega) (by omega), KRules_f _ _ M k (by omega) hM hx (by omega)]
  by_cases c0 : l0_0 = l1_0 <;> by_cases c1 : l0_1 = l1_1 <;> by_cases c2 : a0_2 = a1_2 <;> simp [c0, c1, c2]
theorem GramSame_f (k : Nat) (l0_0 l0_1 : List ByteArray) (a0_2 : Int) (l0_3 : List S35) (l1_0 l1_1 : List ByteArray) (a1_2 : Int) (l1_3 : List S35) (M : Nat) (h0 : l0_0.length ≤ M) (h1 : l0_1.length ≤ M) (h3 : l0_3.length ≤ M) (hM : M ≤ 9223372036854775807) (hx : ∀ x ∈ l0_3, x.f1.length ≤ M) (hk : M + M + 1 < k) :
    dovetaillaw03_GramSame.f k l0_0 l0_1 a0_2 l0_3 l1_0 l1_1 a1_2 l1_3 = some true := by
  unfold dovetaillaw03_GramSame.f
  rw [KGrammar_f k l0_0 l0_1 a0_2 l0_3 l1_0 l1_1 a1_2 l1_3 M h0 h1 h3 hM hx hk]
  have e1 : gram_Same.f l0_0 l0_1 a0_2 l0_3 l1_0 l1_1 a1_2 l1_3 = some (decide (l0_0 = l1_0 ∧ l0_1 = l1_1 ∧ a0_2 = a1_2 ∧ l0_3.map prR = l1_3.map prR)) := rfl
  have e2 : gram_Same.f l1_0 l1_1 a1_2 l1_3 l0_0 l0_1 a0_2 l0_3 = some (decide (l0_0 = l1_0 ∧ l0_1 = l1_1 ∧ a0_2 = a1_2 ∧ l0_3.map prR = l1_3.map prR)) := by
    unfold gram_Same.f
    congr 1
    rw [decide_eq_decide]
    constructor <;> (rintro ⟨a, b, c, d⟩; exact ⟨a.symm, b.symm, c.symm, d.symm⟩)
  have e3 : gram_Same.f l0_0 l0_1 a0_2 l0_3 l0_0 l0_1 a0_2 l0_3 = some true := by unfold gram_Same.f; simp
  have e4 : dovetaillaw03_awake.f = some true := rfl
  rw [e1, e2, e3, e4]
  simp
end Go.Proofs.YteaiejippkikpaaDoor.B
