/- WordsOwn, in plain Lean: true. -/
import Derived.Test.YteaiejippkikpaaDoorOwx2
set_option linter.unusedVariables false
set_option linter.unusedSimpArgs false
namespace Go.Proofs.YteaiejippkikpaaDoor.Ow
open Go.RowKit Go.Proofs.YteaiejippkikpaaDoorW.PrintWords Go.Proofs.YteaiejippkikpaaDoorW.PrintLast Go.Proofs.YteaiejippkikpaaDoorW.PrintMore Go.Proofs.YteaiejippkikpaaDoor.H
open Go.Proofs.YteaiejippkikpaaDoor.Lw (S82 z82 k82 rd_T82)
open Go.Proofs.YteaiejippkikpaaDoor.B (SentsK SentsK.below HandleP HandleP.below)

def one : S82 := ⟨(⟨#[60, 111, 110, 101, 62]⟩ : ByteArray), false, 0⟩
def two : S82 := ⟨(⟨#[60, 116, 119, 111, 62]⟩ : ByteArray), false, 0⟩
theorem rdn (l : List S82) (i : Nat) : rd_T82 l (i : Int) = l.getD i z82 := by simp [rd_T82]
theorem ones (m j : Nat) (h : j < m) : (List.replicate m one).getD j z82 = one := by simp [List.getD_eq_getElem?_getD, h]
theorem twos (L : List S82) (m j : Nat) (h1 : L.length ≤ j) (h2 : j < L.length + m) : (L ++ List.replicate m two).getD j z82 = two := by
  rw [List.getD_eq_getElem?_getD, List.getElem?_append_right h1, List.getElem?_replicate, if_pos (by omega)]; rfl
theorem w1 (i : Nat) (h : i < 9223372036854775806) : wrap64 ((i : Int) + 1) = ((i + 1 : Nat) : Int) := by unfold wrap64; omega
theorem one_l : (one.f0).toList = ([60, 111, 110, 101, 62] : List UInt8) := by rw [ByteArray.toList_eq]; rfl
theorem two_l : (two.f0).toList = ([60, 116, 119, 111, 62] : List UInt8) := by rw [ByteArray.toList_eq]; rfl
theorem l4_ev (L : List S82) (hn : L.length ≤ 1048576) : ∀ d i, L.length + 30 - i ≤ d → i ≤ L.length + 30 → ∀ K, d + 1 ≤ K → dovetaillaw02_WordsOwn.l4 K (List.replicate (L.length + 30) one) (L ++ List.replicate 30 two) (L.length : Int) (i : Int) = some true := by
  intro d
  induction d with
  | zero =>
    intro i hd hi K hK
    obtain ⟨K, rfl⟩ : ∃ k, K = k + 1 := ⟨K - 1, by omega⟩
    simp only [dovetaillaw02_WordsOwn.l4]
    rw [if_neg (by unfold wrap64; omega)]
  | succ d ih =>
    intro i hd hi K hK
    by_cases hlt : i < L.length + 30
    rotate_left
    · exact ih i (by omega) hi K (by omega)
    obtain ⟨K, rfl⟩ : ∃ k, K = k + 1 := ⟨K - 1, by omega⟩
    simp only [dovetaillaw02_WordsOwn.l4]
    rw [if_pos (by unfold wrap64; omega), if_pos (by omega), if_pos (by rw [List.length_replicate]; omega), rdn, ones _ _ hlt, if_pos one_l, w1 i (by omega)]
    by_cases hge : L.length ≤ i
    · rw [if_pos (by omega), if_pos (by rw [List.length_append, List.length_replicate]; omega), rdn, twos L 30 i hge hlt, if_pos two_l]
      exact ih (i + 1) (by omega) (by omega) K (by omega)
    · rw [if_neg (by omega)]
      exact ih (i + 1) (by omega) (by omega) K (by omega)
theorem l3_ev (L : List S82) (hn : L.length ≤ 1048576) : ∀ d i, 30 - i ≤ d → i ≤ 30 → ∀ K, d + 1 + (L.length + 31) ≤ K → dovetaillaw02_WordsOwn.l3 K (List.replicate (L.length + 30) one) (L ++ List.replicate i two) (L.length : Int) (i : Int) = some true := by
  intro d
  induction d with
  | zero =>
    intro i hd hi K hK
    obtain rfl : i = 30 := by omega
    obtain ⟨K, rfl⟩ : ∃ k, K = k + 1 := ⟨K - 1, by omega⟩
    simp only [dovetaillaw02_WordsOwn.l3]
    rw [if_neg (by omega)]
    exact l4_ev L hn (L.length + 30) 0 (by omega) (by omega) K (by omega)
  | succ d ih =>
    intro i hd hi K hK
    by_cases hlt : i < 30
    rotate_left
    · exact ih i (by omega) hi K (by omega)
    obtain ⟨K, rfl⟩ : ∃ k, K = k + 1 := ⟨K - 1, by omega⟩
    simp only [dovetaillaw02_WordsOwn.l3]
    rw [if_pos (by omega), if_pos (by rw [List.length_append, List.length_replicate]; omega), w1 i (by omega), List.append_assoc, show (List.replicate i two ++ [(⟨(⟨#[60, 116, 119, 111, 62]⟩ : ByteArray), false, 0⟩ : S82)]) = List.replicate (i + 1) two from List.replicate_succ'.symm]
    exact ih (i + 1) (by omega) (by omega) K (by omega)
theorem l2_ev (L : List S82) (hn : L.length ≤ 1048576) : ∀ d i, L.length - i ≤ d → i ≤ L.length → ∀ K, d + 1 + (L.length + 62) ≤ K → dovetaillaw02_WordsOwn.l2 K (List.replicate (L.length + 30) one) L L (L.length : Int) (i : Int) = some true := by
  intro d
  induction d with
  | zero =>
    intro i hd hi K hK
    obtain ⟨K, rfl⟩ : ∃ k, K = k + 1 := ⟨K - 1, by omega⟩
    simp only [dovetaillaw02_WordsOwn.l2]
    rw [if_neg (by omega)]
    have := l3_ev L hn 30 0 (by omega) (by omega) K (by omega)
    rwa [List.replicate_zero, List.append_nil] at this
  | succ d ih =>
    intro i hd hi K hK
    by_cases hlt : i < L.length
    rotate_left
    · exact ih i (by omega) hi K (by omega)
    obtain ⟨K, rfl⟩ : ∃ k, K = k + 1 := ⟨K - 1, by omega⟩
    simp only [dovetaillaw02_WordsOwn.l2]
    rw [if_pos (by omega), if_pos (by omega), if_pos (by omega), if_neg (by simp), w1 i (by omega)]
    exact ih (i + 1) (by omega) (by omega) K (by omega)
theorem l1_ev (L : List S82) (hn : L.length ≤ 1048576) : ∀ d i, 30 - i ≤ d → i ≤ 30 → ∀ K, d + 1 + (2 * L.length + 63) ≤ K → dovetaillaw02_WordsOwn.l1 K (List.replicate (L.length + i) one) L L (L.length : Int) (i : Int) = some true := by
  intro d
  induction d with
  | zero =>
    intro i hd hi K hK
    obtain rfl : i = 30 := by omega
    obtain ⟨K, rfl⟩ : ∃ k, K = k + 1 := ⟨K - 1, by omega⟩
    simp only [dovetaillaw02_WordsOwn.l1]
    rw [if_neg (by omega), if_pos trivial]
    exact l2_ev L hn L.length 0 (by omega) (by omega) K (by omega)
  | succ d ih =>
    intro i hd hi K hK
    by_cases hlt : i < 30
    rotate_left
    · exact ih i (by omega) hi K (by omega)
    obtain ⟨K, rfl⟩ : ∃ k, K = k + 1 := ⟨K - 1, by omega⟩
    simp only [dovetaillaw02_WordsOwn.l1]
    rw [if_pos (by omega), if_pos (by rw [List.length_replicate]; omega), w1 i (by omega), show (List.replicate (L.length + i) one ++ [(⟨(⟨#[60, 111, 110, 101, 62]⟩ : ByteArray), false, 0⟩ : S82)]) = List.replicate (L.length + (i + 1)) one from List.replicate_succ'.symm]
    exact ih (i + 1) (by omega) (by omega) K (by omega)
theorem set_one (L : List S82) (i : Nat) (h : i < L.length) : (List.replicate i one ++ L.drop i).set i one = List.replicate (i + 1) one ++ L.drop (i + 1) := by
  rw [List.set_append_right _ _ (by simp), List.length_replicate, Nat.sub_self, List.drop_eq_getElem_cons h, List.set_cons_zero, List.replicate_succ', List.append_assoc]; rfl
theorem l0_ev (L : List S82) (hn : L.length ≤ 1048576) : ∀ d i, L.length - i ≤ d → i ≤ L.length → ∀ K, d + 1 + (2 * L.length + 94) ≤ K → dovetaillaw02_WordsOwn.l0 K (List.replicate i one ++ L.drop i) L L (i : Int) = some true := by
  intro d
  induction d with
  | zero =>
    intro i hd hi K hK
    obtain rfl : i = L.length := by omega
    obtain ⟨K, rfl⟩ : ∃ k, K = k + 1 := ⟨K - 1, by omega⟩
    simp only [dovetaillaw02_WordsOwn.l0]
    rw [List.drop_length, List.append_nil, if_neg (by rw [List.length_replicate]; omega), List.length_replicate]
    exact l1_ev L hn 30 0 (by omega) (by omega) K (by omega)
  | succ d ih =>
    intro i hd hi K hK
    by_cases hlt : i < L.length
    rotate_left
    · exact ih i (by omega) hi K (by omega)
    obtain ⟨K, rfl⟩ : ∃ k, K = k + 1 := ⟨K - 1, by omega⟩
    simp only [dovetaillaw02_WordsOwn.l0]
    rw [if_pos (by rw [List.length_append, List.length_replicate, List.length_drop]; omega), if_pos (by omega), w1 i (by omega), Int.toNat_natCast]
    have := set_one L i hlt
    rw [show (⟨(⟨#[60, 111, 110, 101, 62]⟩ : ByteArray), false, 0⟩ : S82) = one from rfl, this]
    exact ih (i + 1) (by omega) (by omega) K (by omega)
theorem own_ev (s : ByteArray) : dovetaillaw02_WordsOwn.f (3 * 1048576 + 200) s = some true := by
  have hn : (lineR s).1.length ≤ 1048576 := by
    obtain ⟨l, k, p, q, hl, hr, _⟩ := line_both s
    rw [hr]; simpa using hl
  unfold dovetaillaw02_WordsOwn.f dovetaillaw02_known.f words_Line.f
  simp only [Option.bind_some]
  rw [if_pos trivial, if_pos (by simp; omega), List.nil_append]
  have := l0_ev (lineR s).1 hn (lineR s).1.length 0 (by omega) (by omega) (3 * 1048576 + 200) (by omega)
  simpa using this
theorem WordsOwn_calls (ad : Int → Addr) (s : ByteArray) (w : World) (hs : SentsK ad w) (hg : HandleP w) :
    Calls Tryd.prog 10 #[.string s] w fun e w' => e = .returned (.bool true) ∧ Below w.heap.size w w' :=
  dovetaillaw02_WordsOwn.calls ad _ s true w hs hg (own_ev s)
end Go.Proofs.YteaiejippkikpaaDoor.Ow
