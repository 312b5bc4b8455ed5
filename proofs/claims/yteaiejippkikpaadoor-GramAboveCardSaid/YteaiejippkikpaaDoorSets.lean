/- Sets of small numbers as whole numbers of 64 bits: membership. -/
import Derived.Test.YteaiejippkikpaaDoorKit
import Derived.Test.YteaiejippkikpaaDoorWMore
set_option linter.unusedVariables false
set_option linter.unusedSimpArgs false
namespace Go.Proofs.YteaiejippkikpaaDoor.B
open Go.RowKit Go.Proofs.YteaiejippkikpaaDoorW.PrintWords Go.Proofs.YteaiejippkikpaaDoorW.PrintLast Go.Proofs.YteaiejippkikpaaDoorW.PrintMore

/-- A whole number of 64 bits. -/
def U (s : Int) : Prop := 0 ≤ s ∧ s < 2 ^ 64
/-- Is a number in a set? -/
def mem (s : Int) (i : Nat) : Bool := s.toNat.testBit i
theorem U.nat {s : Int} (h : U s) : ∃ n : Nat, s = n ∧ n < 2 ^ 64 := ⟨s.toNat, by have := h.1; omega, by have := h.1; have := h.2; omega⟩
theorem U.of {n : Nat} (h : n < 2 ^ 64) : U (n : Int) := ⟨by omega, by exact_mod_cast h⟩
theorem wraps_u64 (n : Int) (h₀ : 0 ≤ n) (h₁ : n < 2 ^ 64) : IntKind.u64.wrap n = n := by
  simp [IntKind.wrap, IntKind.bits, IntKind.signed]; omega
theorem or_nat (a b : Nat) (ha : a < 2 ^ 64) (hb : b < 2 ^ 64) : Go.bits .or .u64 (a : Int) (b : Int) = ((a ||| b : Nat) : Int) := (Go.bits_nat .u64 64 (by decide) wraps_u64 a b ha hb).2
theorem and_nat (a b : Nat) (ha : a < 2 ^ 64) (hb : b < 2 ^ 64) : Go.bits .and .u64 (a : Int) (b : Int) = ((a &&& b : Nat) : Int) := (Go.bits_nat .u64 64 (by decide) wraps_u64 a b ha hb).1
theorem andNot_nat (a b : Nat) (ha : a < 2 ^ 64) (hb : b < 2 ^ 64) : ∃ n : Nat, Go.bits .andNot .u64 (a : Int) (b : Int) = (n : Int) ∧ n < 2 ^ 64 ∧ ∀ i, n.testBit i = (a.testBit i && !b.testBit i) := by
  refine ⟨(BitVec.ofNat 64 a &&& ~~~ BitVec.ofNat 64 b).toNat, ?_, BitVec.isLt _, fun i => ?_⟩
  · simp only [Go.bits, BitVec.ofInt_natCast]
    refine wraps_u64 _ (Int.natCast_nonneg _) ?_
    exact_mod_cast BitVec.isLt (BitVec.ofNat 64 a &&& ~~~ BitVec.ofNat 64 b)
  · rw [BitVec.testBit_toNat, BitVec.getLsbD_and, BitVec.getLsbD_not, BitVec.getLsbD_ofNat, BitVec.getLsbD_ofNat]
    by_cases h : i < 64
    · simp [h]
    · have := Nat.testBit_lt_two_pow (Nat.lt_of_lt_of_le ha (Nat.pow_le_pow_right (by decide) (show 64 ≤ i by omega)))
      simp [this]
theorem mem_nat (n i : Nat) : mem (n : Int) i = n.testBit i := by simp [mem]
theorem mem_zero (i : Nat) : mem 0 i = false := by simp [mem]
theorem U_zero : U 0 := ⟨by omega, by decide⟩
theorem U_or {a b : Int} (ha : U a) (hb : U b) : U (Go.bits .or .u64 a b) := by
  obtain ⟨a, rfl, ha'⟩ := ha.nat
  obtain ⟨b, rfl, hb'⟩ := hb.nat
  rw [or_nat a b ha' hb']
  exact U.of (Nat.or_lt_two_pow ha' hb')
theorem mem_or {a b : Int} (ha : U a) (hb : U b) (i : Nat) : mem (Go.bits .or .u64 a b) i = (mem a i || mem b i) := by
  obtain ⟨a, rfl, ha'⟩ := ha.nat
  obtain ⟨b, rfl, hb'⟩ := hb.nat
  rw [or_nat a b ha' hb', mem_nat, mem_nat, mem_nat, Nat.testBit_or]
theorem or_ge {a b : Int} (ha : U a) (hb : U b) : a ≤ Go.bits .or .u64 a b := by
  obtain ⟨a, rfl, ha'⟩ := ha.nat
  obtain ⟨b, rfl, hb'⟩ := hb.nat
  rw [or_nat a b ha' hb']
  exact_mod_cast Nat.left_le_or
theorem U_ext {a b : Int} (ha : U a) (hb : U b) (h : ∀ i, mem a i = mem b i) : a = b := by
  obtain ⟨a, rfl, ha'⟩ := ha.nat
  obtain ⟨b, rfl, hb'⟩ := hb.nat
  congr 1
  exact Nat.eq_of_testBit_eq fun i => by simpa [mem_nat] using h i
theorem mem_big {a : Int} (ha : U a) {i : Nat} (hi : 64 ≤ i) : mem a i = false := by
  obtain ⟨a, rfl, ha'⟩ := ha.nat
  rw [mem_nat]
  exact Nat.testBit_lt_two_pow (Nat.lt_of_lt_of_le ha' (Nat.pow_le_pow_right (by decide) hi))
theorem andNot_zero {a b : Int} (ha : U a) (hb : U b) : Go.bits .andNot .u64 a b = 0 ↔ ∀ i, mem a i = true → mem b i = true := by
  obtain ⟨a, rfl, ha'⟩ := ha.nat
  obtain ⟨b, rfl, hb'⟩ := hb.nat
  obtain ⟨n, hn, _, ht⟩ := andNot_nat a b ha' hb'
  rw [hn]
  constructor
  · intro h i hi
    obtain rfl : n = 0 := by exact_mod_cast h
    have := ht i
    rw [mem_nat] at hi ⊢
    rw [hi] at this
    simpa using this
  · intro h
    have : n = 0 := Nat.eq_of_testBit_eq fun i => by
      rw [ht i, Nat.zero_testBit]
      have := h i
      rw [mem_nat, mem_nat] at this
      cases hx : a.testBit i
      · rfl
      · simp [this hx]
    rw [this]; rfl
theorem shl_one (i : Nat) (hi : i < 64) : shl .u64 1 (i : Int) = ((2 ^ i : Nat) : Int) := by
  unfold shl
  have : min ((i : Int)).toNat IntKind.u64.bits = i := by simp [IntKind.bits]; omega
  rw [this]
  have h2 : (2 : Nat) ^ i < 2 ^ 64 := Nat.pow_lt_pow_right (by decide) hi
  rw [Int.one_mul, wraps_u64]
  · simp
  · exact Int.pow_nonneg (by decide)
  · exact_mod_cast h2
theorem U_one (i : Nat) (hi : i < 64) : U (shl .u64 1 (i : Int)) := by
  rw [shl_one i hi]; exact U.of (Nat.pow_lt_pow_right (by decide) hi)
theorem mem_one (i : Nat) (hi : i < 64) (j : Nat) : mem (shl .u64 1 (i : Int)) j = decide (i = j) := by
  rw [shl_one i hi, mem_nat, Nat.testBit_two_pow]
theorem shr_nat (a i : Nat) (hi : i ≤ 64) : shr .u64 (a : Int) (i : Int) = ((a / 2 ^ i : Nat) : Int) := by
  unfold shr
  have : min ((i : Int)).toNat IntKind.u64.bits = i := by simp [IntKind.bits]; omega
  rw [this]; simp
theorem bit_at {s : Int} (hs : U s) (i : Nat) (hi : i < 64) : Go.bits .and .u64 (shr .u64 s (i : Int)) 1 = if mem s i = true then 1 else 0 := by
  obtain ⟨a, rfl, ha'⟩ := hs.nat
  rw [shr_nat a i (by omega), show (1 : Int) = ((1 : Nat) : Int) from rfl, and_nat _ _ (Nat.lt_of_le_of_lt (Nat.div_le_self _ _) ha') (by decide), mem_nat, Nat.and_one_is_mod]
  rw [Nat.testBit_eq_decide_div_mod_eq]
  have : a / 2 ^ i % 2 < 2 := Nat.mod_lt _ (by decide)
  split
  · rename_i h; rw [of_decide_eq_true h]
  · rename_i h
    have h' := of_decide_eq_false (by simpa using h : decide (a / 2 ^ i % 2 = 1) = false)
    have : a / 2 ^ i % 2 = 0 := by omega
    rw [this]; rfl
theorem shr_zero {s : Int} (hs : U s) (n : Nat) (hn : n ≤ 64) : shr .u64 s (n : Int) = 0 ↔ ∀ i, n ≤ i → mem s i = false := by
  obtain ⟨a, rfl, ha'⟩ := hs.nat
  rw [shr_nat a n hn]
  constructor
  · intro h i hi
    have h0 : a / 2 ^ n = 0 := by exact_mod_cast h
    rw [mem_nat]
    have hlt : a < 2 ^ n := (Nat.div_eq_zero_iff_lt (Nat.two_pow_pos n)).1 h0
    exact Nat.testBit_lt_two_pow (Nat.lt_of_lt_of_le hlt (Nat.pow_le_pow_right (by decide) hi))
  · intro h
    have h0 : a / 2 ^ n = 0 := Nat.eq_of_testBit_eq fun i => by
      rw [Nat.testBit_div_two_pow, Nat.zero_testBit]
      have := h (i + n) (by omega)
      rwa [mem_nat] at this
    rw [h0]; rfl
end Go.Proofs.YteaiejippkikpaaDoor.B
