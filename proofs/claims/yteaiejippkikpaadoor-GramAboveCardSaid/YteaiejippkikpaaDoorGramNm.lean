/- Names: their places, and which lists of names are right. -/
import Derived.Test.YteaiejippkikpaaDoorGramRd
set_option linter.unusedVariables false
set_option linter.unusedSimpArgs false
namespace Go.Proofs.YteaiejippkikpaaDoor.B
open Go.RowKit Go.Proofs.YteaiejippkikpaaDoorW.PrintWords Go.Proofs.YteaiejippkikpaaDoorW.PrintLast Go.Proofs.YteaiejippkikpaaDoorW.PrintMore

theorem toL_eq (a b : ByteArray) : a.toList = b.toList ↔ a = b := by
  constructor
  · intro h
    rw [ByteArray.toList_eq, ByteArray.toList_eq] at h
    have := Array.ext' h
    cases a; cases b; simp_all
  · rintro rfl; rfl

/-- The place of a name from a place on; -1: none. -/
def place (l : List ByteArray) (s : ByteArray) (i : Nat) : Int := if (l.drop i).findIdx (fun x => decide (s = x)) < (l.drop i).length then ((i + (l.drop i).findIdx (fun x => decide (s = x)) : Nat) : Int) else -1
theorem place_end (l : List ByteArray) (s : ByteArray) : place l s l.length = -1 := by simp [place]
theorem place_step (l : List ByteArray) (s : ByteArray) (i : Nat) (h : i < l.length) : place l s i = if s = l[i] then (i : Int) else place l s (i + 1) := by
  unfold place
  rw [List.drop_eq_getElem_cons h, List.findIdx_cons, List.length_cons]
  by_cases c : s = l[i]
  · rw [if_pos c, decide_eq_true c, cond_true, if_pos (by omega)]; rfl
  · rw [if_neg c, decide_eq_false c, cond_false]
    by_cases c2 : (l.drop (i + 1)).findIdx (fun x => decide (s = x)) < (l.drop (i + 1)).length
    · rw [if_pos (by omega), if_pos c2]; congr 1; omega
    · rw [if_neg (by omega), if_neg c2]
theorem place_nonneg (l : List ByteArray) (s : ByteArray) : 0 ≤ place l s 0 ↔ s ∈ l := by
  have : (l.findIdx (fun x => decide (s = x)) < l.length) ↔ s ∈ l := by
    rw [List.findIdx_lt_length]; simp
  unfold place
  rw [List.drop_zero, ← this]
  split <;> omega
theorem place_of (l : List ByteArray) (i : Nat) (h : i < l.length) (hd : l[i] ∉ l.take i) : place l l[i] 0 = (i : Int) := by
  have : ∀ d j, i - j = d → j ≤ i → place l l[i] j = (i : Int) := by
    intro d
    induction d with
    | zero =>
      intro j hj hle
      have : j = i := by omega
      subst this
      rw [place_step l _ j h, if_pos rfl]
    | succ d ih =>
      intro j hj hle
      rw [place_step l _ j (by omega), if_neg, ih (j + 1) (by omega) (by omega)]
      intro e
      exact hd (e ▸ List.mem_take_iff_getElem.2 ⟨j, by omega, rfl⟩)
  exact this i 0 (by omega) (by omega)

theorem Index_l (l : List ByteArray) (s : ByteArray) (hm : l.length ≤ 9223372036854775807) : ∀ (d i k : Nat), l.length - i = d → i ≤ l.length → d < k → slices_Index_string_string.l0 k l s (l.length : Int) (i : Int) = some (place l s i) := by
  intro d
  induction d with
  | zero =>
    intro i k hi hle hk
    obtain ⟨k, rfl⟩ : ∃ j, k = j + 1 := ⟨k - 1, by omega⟩
    have : i = l.length := by omega
    subst this
    rw [slices_Index_string_string.l0, if_neg (by omega), place_end]
  | succ d ih =>
    intro i k hi hle hk
    obtain ⟨k, rfl⟩ : ∃ j, k = j + 1 := ⟨k - 1, by omega⟩
    have hlt : i < l.length := by omega
    rw [slices_Index_string_string.l0, if_pos (by omega), if_pos (by omega), if_pos (by omega), rdS_D, getD_lt _ _ _ hlt, place_step l s i hlt]
    by_cases c : s = l[i]
    · rw [if_pos ((toL_eq _ _).2 c), if_pos c]
    · rw [if_neg (fun h => c ((toL_eq _ _).1 h)), if_neg c, w64 i (by omega), ih (i + 1) k (by omega) (by omega) (by omega)]
theorem Index_f (l : List ByteArray) (s : ByteArray) (k : Nat) (hm : l.length ≤ 9223372036854775807) (hk : l.length < k) : slices_Index_string_string.f k l s = some (place l s 0) := by
  unfold slices_Index_string_string.f
  have := Index_l l s hm l.length 0 k (by omega) (by omega) hk
  simpa using this
theorem Find_f (l : List ByteArray) (s : ByteArray) (k : Nat) (hm : l.length ≤ 9223372036854775807) (hk : l.length < k) : gram_find.f k l s = some (mx (place l s 0) 0, decide (0 ≤ place l s 0)) := by
  unfold gram_find.f
  rw [Index_f l s k hm hk, Option.bind_some]

/-- Is a name of a list wrong? -/
def faultAt (l : List ByteArray) (i : Nat) : Bool := decide ((l.getD i ByteArray.empty).size = 0) || decide (32 < (l.getD i ByteArray.empty).size) || (l.take i).any (fun x => decide (l.getD i ByteArray.empty = x))
/-- Are all names right? -/
def namesOK (l : List ByteArray) : Bool := (List.range l.length).all fun i => !faultAt l i
def namesFrom (l : List ByteArray) (i : Nat) : Bool := (List.range' i (l.length - i)).all fun i => !faultAt l i
theorem namesFrom_zero (l : List ByteArray) : namesFrom l 0 = namesOK l := by simp [namesFrom, namesOK, List.range_eq_range']
theorem namesFrom_step (l : List ByteArray) (i : Nat) (h : i < l.length) : namesFrom l i = (!faultAt l i && namesFrom l (i + 1)) := by
  unfold namesFrom
  rw [show l.length - i = (l.length - (i + 1)) + 1 from by omega, List.range'_succ, List.all_cons]
theorem namesFrom_end (l : List ByteArray) : namesFrom l l.length = true := by simp [namesFrom]

theorem NameFault_f (l : List ByteArray) (i k : Nat) (h : i < l.length) (hm : l.length ≤ 9223372036854775807) (hk : l.length < k) : gram_nameFault.f k l (i : Int) = some (faultAt l i) := by
  unfold gram_nameFault.f faultAt slices_Contains_string_string.f
  rw [if_pos (by omega), if_pos (by omega), rdS_D, Int.toNat_natCast]
  generalize l.getD i ByteArray.empty = s
  by_cases c1 : s.size = 0
  · rw [if_pos (by omega)]; simp [c1]
  · rw [if_neg (by omega)]
    by_cases c2 : 32 < s.size
    · rw [if_pos (by omega)]; simp [c2]
    · rw [if_neg (by omega), if_pos (by omega), Index_f _ s k (by rw [List.length_take]; omega) (by rw [List.length_take]; omega), Option.bind_some, Option.bind_some]
      cases c3 : (l.take i).any (fun x => decide (s = x)) with
      | true =>
        have : s ∈ l.take i := by
          obtain ⟨x, hx, he⟩ := List.any_eq_true.1 c3
          rw [of_decide_eq_true he]; exact hx
        rw [if_pos (decide_eq_true ((place_nonneg (l.take i) s).2 this)), Bool.or_true]
      | false =>
        have : ¬ s ∈ l.take i := fun hs => by
          have := List.any_eq_false.1 c3 s hs
          simp at this
        rw [if_neg (by rw [decide_eq_true_eq]; exact fun h => this ((place_nonneg (l.take i) s).1 h)), decide_eq_false c1, decide_eq_false c2]; rfl
theorem Names_l (l : List ByteArray) (hm : l.length ≤ 9223372036854775807) : ∀ (d i k : Nat), l.length - i = d → i ≤ l.length → d + l.length + 1 < k → gram_names.l0 k l (l.length : Int) (i : Int) = some (namesFrom l i) := by
  intro d
  induction d with
  | zero =>
    intro i k hi hle hk
    obtain ⟨k, rfl⟩ : ∃ j, k = j + 1 := ⟨k - 1, by omega⟩
    have : i = l.length := by omega
    subst this
    rw [gram_names.l0, if_neg (by omega), namesFrom_end]
  | succ d ih =>
    intro i k hi hle hk
    obtain ⟨k, rfl⟩ : ∃ j, k = j + 1 := ⟨k - 1, by omega⟩
    have hlt : i < l.length := by omega
    rw [gram_names.l0, if_pos (by omega), NameFault_f l i k hlt hm (by omega), Option.bind_some, namesFrom_step l i hlt]
    cases hf : faultAt l i with
    | true => rw [if_pos rfl]; rfl
    | false => rw [if_neg (by decide), w64 i (by omega), ih (i + 1) k (by omega) (by omega) (by omega)]; rfl
theorem Names_f (l : List ByteArray) (k : Nat) (hm : l.length ≤ 9223372036854775807) (hk : l.length + l.length + 1 < k) : gram_names.f k l = some (namesOK l) := by
  unfold gram_names.f
  have := Names_l l hm l.length 0 k (by omega) (by omega) hk
  rw [namesFrom_zero] at this
  simpa using this
theorem namesOK_nodup {l : List ByteArray} (h : namesOK l = true) (i : Nat) (hi : i < l.length) : l[i] ∉ l.take i := by
  unfold namesOK at h
  have := List.all_eq_true.1 h i (by simpa using hi)
  simp only [faultAt, Bool.not_eq_true', Bool.or_eq_false_iff, getD_lt _ _ _ hi] at this
  intro hm
  have := List.any_eq_false.1 this.2 _ hm
  simp at this
theorem place_name {l : List ByteArray} (h : namesOK l = true) (i : Nat) (hi : i < l.length) : place l l[i] 0 = (i : Int) := place_of l i hi (namesOK_nodup h i hi)
theorem okG_names {K : Nat} {l0 l1 : List ByteArray} {a2 : Int} {R : List S35} (h : okG K l0 l1 a2 R) : namesOK l0 = true ∧ namesOK l1 = true := by
  obtain ⟨h60, _, hn0, hn1, _⟩ := h
  have e0 : Ev (fun k => gram_names.f k l0) true := Ev.of (gram_names.mono l0) hn0
  have e1 : Ev (fun k => gram_names.f k l1) true := Ev.of (gram_names.mono l1) hn1
  obtain ⟨K0, e0⟩ := e0
  obtain ⟨K1, e1⟩ := e1
  have a0 : gram_names.f (K0 + K1 + 200) l0 = some true := e0 (K0 + K1 + 200) (by omega)
  have a1 : gram_names.f (K0 + K1 + 200) l1 = some true := e1 (K0 + K1 + 200) (by omega)
  rw [Names_f l0 _ (by omega) (by omega)] at a0
  rw [Names_f l1 _ (by omega) (by omega)] at a1
  exact ⟨Option.some.inj a0, Option.some.inj a1⟩
end Go.Proofs.YteaiejippkikpaaDoor.B
