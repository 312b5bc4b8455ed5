/-
 dovetaillaw05.ShowParts: whatever is handed in, of bulk at most 1048576, the call answers true, and each argument reads as it did.
 Conditions: those of the given statement ShowPartsUptoCardSaid alone.
-/
import Derived.Test.YthjhaogfpdkhbaaDoorMShP2
import Derived.StillTailTactics
import Derived.Test.YthjhaogfpdkhbaaDoorMShP1
import Derived.Lib.AppendStr
import Derived.Test.YthjhaogfpdkhbaaDoorProg
import Derived.Below
import Derived.Deep.Draws
import Derived.Deep.AppendLies
import Derived.Maps.AppendAt
import Derived.OwnWalk
import Derived.Laws.BytesArg
import Derived.Laws.MakeOwn
import Derived.Laws.OwnMore
import Derived.Deep.OwnRows
import Derived.Tactics
import Derived.Lib.ConvBytes
import Derived.Laws.Slices
import Derived.WalkKit
import Derived.KernelRfl
import Derived.RowKit3
import Derived.Deep.LoopGhost
import Derived.Deep.QuietTactic
import Derived.BigQuiet
import Derived.WideLaws
import Derived.Deep.DeepCutAuto
import Derived.Deep.CutBlock
import Derived.Deep.RegionHeld3
import Derived.Laws.Rows
import Derived.ArgAppend
import Derived.Laws.IdiomCopy
import Derived.OrdersHeld
import Derived.Laws.BitsLemmas
import Derived.RowKit
import Derived.Test.YthjhaogfpdkhbaaDoorCards
import Derived.Test.YthjhaogfpdkhbaaDoorTie
import Derived.LaidLaws
import Derived.LaidHandle
import Derived.Lib.LaidTab
import Derived.Lib.LaidIn
import Derived.SevenTiedAt
import Derived.WideShapes
import Derived.JoinedCond
import Derived.ChangeMaps5
import Derived.SizedLaws
import Derived.Deep.DeepHandedRow
import Derived.Deep.DeepWitnessRowRef
/- The document's Check, in plain Lean: what gram.Check tells. -/
set_option linter.unusedVariables false
set_option linter.unusedSimpArgs false
namespace Go.Proofs.YthjhaogfpdkhbaaDoor.B
open Go.RowKit YthjhaogfpdkhbaaDoorW.PrintWords YthjhaogfpdkhbaaDoorW.PrintLast YthjhaogfpdkhbaaDoorW.PrintMore

theorem refNamed_in (l : List ByteArray) (hm : l.length ≤ 9223372036854775807) (i : Nat) (hi : i < l.length) (r : Bool) (B : Nat) (hB : ∀ k, B ≤ k → dovetailref03_named.l0 k l ((i + 1 : Nat) : Int) = some r) :
 ∀ (d j k : Nat), i - j = d → j ≤ i → d + B + 1 ≤ k → dovetailref03_named.l1 k l (i : Int) (j : Int) = some (!((l.take i).drop j).any (fun x => decide (l.getD i ByteArray.empty = x)) && r) := by
 intro d
 induction d with
 | zero =>
  intro j k hd hj hk
  obtain ⟨k, rfl⟩ : ∃ m, k = m + 1 := ⟨k - 1, by omega⟩
  have : j = i := by omega
  subst this
  rw [dovetailref03_named.l1, if_neg (by omega), w64 j (by omega), hB k (by omega), List.drop_of_length_le (by rw [List.length_take]; omega)]
  simp
 | succ d ih =>
  intro j k hd hj hk
  obtain ⟨k, rfl⟩ : ∃ m, k = m + 1 := ⟨k - 1, by omega⟩
  have hlt : j < i := by omega
  have hdr : (l.take i).drop j = l[j] :: (l.take i).drop (j + 1) := by
   rw [List.drop_eq_getElem_cons (by rw [List.length_take]; omega), List.getElem_take]
  rw [dovetailref03_named.l1, if_pos (by omega), if_pos (by omega), if_pos (by omega), if_pos (by omega), if_pos (by omega), rdS_D, rdS_D, getD_lt l j _ (by omega), hdr, List.any_cons]
  by_cases c : l[j] = l.getD i ByteArray.empty
  · rw [if_pos ((toL_eq _ _).2 c), decide_eq_true c.symm]; rfl
  · rw [if_neg (fun h => c ((toL_eq _ _).1 h)), w64 j (by omega), ih (j + 1) k (by omega) (by omega) (by omega), decide_eq_false (fun h => c h.symm)]; rfl
theorem refNamed_l (l : List ByteArray) (hm : l.length ≤ 9223372036854775807) : ∀ (d i k : Nat), l.length - i = d → i ≤ l.length → d * (l.length + 3) + 1 ≤ k → dovetailref03_named.l0 k l (i : Int) = some (namesFrom l i) := by
 intro d
 induction d with
 | zero =>
  intro i k hi hle hk
  obtain ⟨k, rfl⟩ : ∃ j, k = j + 1 := ⟨k - 1, by omega⟩
  have : i = l.length := by omega
  subst this
  rw [dovetailref03_named.l0, if_neg (by omega), namesFrom_end]
 | succ d ih =>
  intro i k hi hle hk
  rw [Nat.add_mul, Nat.one_mul] at hk
  obtain ⟨k, rfl⟩ : ∃ j, k = j + 2 := ⟨k - 2, by omega⟩
  have hlt : i < l.length := by omega
  have hin := refNamed_in l hm i hlt _ _ (fun k hk => ih (i + 1) k (by omega) (by omega) hk) i 0 k (by omega) (by omega) (by omega)
  rw [dovetailref03_named.l0, if_pos (by omega), if_pos (by omega), rdS_D, namesFrom_step l i hlt]
  rw [List.drop_zero] at hin
  unfold faultAt
  generalize hs : l.getD i ByteArray.empty = s at hin
  by_cases c1 : s.size = 0
  · rw [if_pos (by omega), dovetailref03_named.j1, if_pos rfl]; simp [c1]
  · rw [if_neg (by omega), dovetailref03_named.j1]
    by_cases c2 : 32 < s.size
    · rw [if_pos (decide_eq_true (by omega))]; simp [c2]
    · have hin' : dovetailref03_named.l1 k l (i : Int) 0 = _ := hin
      rw [if_neg (by simp; omega), hin', decide_eq_false c1, decide_eq_false c2]
      simp
theorem refNamed_f (l : List ByteArray) (k : Nat) (hm : l.length ≤ 9223372036854775807) (hk : l.length * (l.length + 3) + 1 ≤ k) : dovetailref03_named.f k l = some (namesOK l) := by
 unfold dovetailref03_named.f
 have := refNamed_l l hm l.length 0 k (by omega) (by omega) hk
 rw [namesFrom_zero] at this
 exact this
theorem refCheck_in (t n : Nat) (hn : n ≤ 60) (l0 l1 : List ByteArray) (a2 : Int) (R : List S52) (i : Nat) (hi : i < 200) (x0 : Int) (xs : List Int) (hx : xs.length ≤ 32) (r : Int × Int) (B : Nat) (hB : ∀ k, B ≤ k → dovetailref03_Check.l0 k (t : Int) (n : Int) ((i + 1 : Nat) : Int) l0 l1 a2 R = some r) :
 ∀ (d j k : Nat), xs.length - j = d → j ≤ xs.length → d + B + 1 ≤ k → dovetailref03_Check.l1 k (t : Int) (n : Int) (i : Int) (j : Int) l0 l1 a2 R x0 xs = some (if (xs.drop j).any (outS t n) = true then (1, (i : Int)) else r) := by
 intro d
 induction d with
 | zero =>
  intro j k hd hj hk
  obtain ⟨k, rfl⟩ : ∃ m, k = m + 1 := ⟨k - 1, by omega⟩
  have : j = xs.length := by omega
  subst this
  rw [dovetailref03_Check.l1, if_neg (by omega), w64 i (by omega), hB k (by omega), List.drop_length]
  rfl
 | succ d ih =>
  intro j k hd hj hk
  obtain ⟨k, rfl⟩ : ∃ m, k = m + 1 := ⟨k - 1, by omega⟩
  have hlt : j < xs.length := by omega
  have hwn : wrap64 (-(n : Int)) = -(n : Int) := by unfold wrap64; omega
  rw [dovetailref03_Check.l1, if_pos (by omega), if_pos (by omega), rd_D, getD_lt xs j _ hlt, hwn, List.drop_eq_getElem_cons hlt, List.any_cons]
  generalize xs[j] = s
  have ho : outS t n s = (decide ((t : Int) ≤ s) || decide (s < -(n : Int))) := rfl
  rw [ho]
  by_cases c1 : (t : Int) ≤ s
  · rw [if_pos (by omega), decide_eq_true c1]; rfl
  · by_cases c2 : s < -(n : Int)
    · rw [if_neg (by omega), if_pos c2, decide_eq_true c2, Bool.or_true]; rfl
    · rw [if_neg (by omega), if_neg c2, w64 j (by omega), ih (j + 1) k (by omega) (by omega) (by omega), decide_eq_false c1, decide_eq_false c2]; rfl
theorem refCheck_l (t n : Nat) (hn : n ≤ 60) (l0 l1 : List ByteArray) (a2 : Int) (R : List S52) (hR : R.length ≤ 120) : ∀ (d i k : Nat), R.length - i = d → i ≤ R.length → d * 40 + 1 ≤ k → dovetailref03_Check.l0 k (t : Int) (n : Int) (i : Int) l0 l1 a2 R = some (chkRs t n (R.drop i) i) := by
 intro d
 induction d with
 | zero =>
  intro i k hi hle hk
  obtain ⟨k, rfl⟩ : ∃ j, k = j + 1 := ⟨k - 1, by omega⟩
  have : i = R.length := by omega
  subst this
  rw [dovetailref03_Check.l0, if_neg (by omega), List.drop_length]
  rfl
 | succ d ih =>
  intro i k hi hle hk
  obtain ⟨k, rfl⟩ : ∃ j, k = j + 2 := ⟨k - 2, by omega⟩
  have hlt : i < R.length := by omega
  rw [dovetailref03_Check.l0, if_pos (by omega), if_pos (by omega), rdR_D, getD_lt R i _ hlt, chkRs_drop t n R i hlt]
  generalize R[i] = x
  obtain ⟨x0, xs⟩ := x
  dsimp only
  by_cases c0 : 32 < xs.length
  · have e : checkR t n ⟨x0, xs⟩ = 3 := by simp [checkR, c0]
    rw [if_pos (by omega), e, if_neg (by decide)]
  rw [if_neg (by omega)]
  by_cases c1 : x0 < 0
  · have e : checkR t n ⟨x0, xs⟩ = 1 := by simp [checkR, c0, c1]
    rw [if_pos c1, dovetailref03_Check.j4, if_pos rfl, e, if_neg (by decide)]
  rw [if_neg c1, dovetailref03_Check.j4]
  by_cases c2 : (n : Int) ≤ x0
  · have e : checkR t n ⟨x0, xs⟩ = 1 := by simp [checkR, c0, c2]
    rw [if_pos (decide_eq_true (by omega)), e, if_neg (by decide)]
  have hin : dovetailref03_Check.l1 k (t : Int) (n : Int) (i : Int) 0 l0 l1 a2 R x0 xs = _ := refCheck_in t n hn l0 l1 a2 R i (by omega) x0 xs (by omega) _ _ (fun k hk => ih (i + 1) k (by omega) (by omega) hk) xs.length 0 k (by omega) (by omega) (by omega)
  rw [if_neg (by simp; omega), hin, List.drop_zero]
  cases c3 : xs.any (outS t n) with
  | true =>
   have e : checkR t n ⟨x0, xs⟩ = 1 := by simp [checkR, c0, c3]
   rw [if_pos rfl, e, if_neg (by decide)]
  | false =>
   have e : checkR t n ⟨x0, xs⟩ = 0 := by simp [checkR, c0, c1, c2, c3]
   rw [if_neg (by decide), e, if_pos rfl]
theorem refCheck_f (l0 l1 : List ByteArray) (a2 : Int) (R : List S52) (m0 : l0.length ≤ 9223372036854775807) (m1 : l1.length ≤ 9223372036854775807) (k : Nat) (hk : 20000 ≤ k) :
 dovetailref03_Check.f k l0 l1 a2 R = some (chk (namesOK l0) (namesOK l1) l0.length l1.length a2 R) := by
 obtain ⟨k, rfl⟩ : ∃ j, k = j + 4 := ⟨k - 4, by omega⟩
 have hno : ∀ x, dovetailref03_Check.j0 (k + 4) (l0.length : Int) (l1.length : Int) true x l1 a2 R = some (3, -1) := fun x => by rw [dovetailref03_Check.j0, if_pos rfl]
 unfold dovetailref03_Check.f chk
 by_cases c0 : 60 < l0.length
 · rw [if_pos (by omega), hno, if_pos (by omega)]
 rw [if_neg (by omega)]
 by_cases c1 : 60 < l1.length
 · rw [if_pos (by omega), hno, if_pos (by omega)]
 rw [if_neg (by omega)]
 have hw : wrap64 ((l0.length : Int) + (l1.length : Int)) = (l0.length : Int) + (l1.length : Int) := by unfold wrap64; omega
 rw [hw]
 by_cases c2 : 60 < l0.length + l1.length
 · rw [if_pos (by omega), hno, if_pos (by omega)]
 rw [if_neg (by omega), dovetailref03_Check.j0]
 by_cases c3 : 120 < R.length
 · rw [if_pos (decide_eq_true (by omega)), if_pos (by omega)]
 rw [if_neg (by simp; omega), if_neg (by omega)]
 have hb : ∀ n : Nat, n ≤ 60 → n * (n + 3) + 1 ≤ 4000 := fun n hn => by
  have := Nat.mul_le_mul hn (show n + 3 ≤ 63 by omega)
  omega
 have hb0 := hb l0.length (by omega)
 have hb1 := hb l1.length (by omega)
 rw [refNamed_f l0 (k + 3) m0 (by omega), Option.bind_some]
 cases h0 : namesOK l0 with
 | false => rw [if_neg (by decide), dovetailref03_Check.j1, if_pos rfl]; rfl
 | true =>
  rw [if_pos rfl, refNamed_f l1 (k + 3) m1 (by omega), Option.bind_some, dovetailref03_Check.j1]
  cases h1 : namesOK l1 with
  | false => rw [if_pos (by rfl)]; rfl
  | true =>
   rw [if_neg (show ¬ (!true) = true by decide), if_neg (show ¬ (true && true) = false by decide)]
   have hl : dovetailref03_Check.l0 (k + 1) (l0.length : Int) (l1.length : Int) 0 l0 l1 a2 R = _ := refCheck_l l0.length l1.length (by omega) l0 l1 a2 R (by omega) R.length 0 (k + 1) (by omega) (by omega) (by omega)
   rw [List.drop_zero] at hl
   by_cases c4 : l1.length = 0
   · rw [if_pos (by omega), dovetailref03_Check.j2, if_pos rfl, if_pos (by omega)]
   rw [if_neg (by omega)]
   by_cases c5 : a2 < 0
   · rw [if_pos c5, dovetailref03_Check.j2, if_pos rfl, if_pos (.inl c5)]
   rw [if_neg c5, dovetailref03_Check.j2]
   by_cases c6 : (l1.length : Int) ≤ a2
   · rw [if_pos (decide_eq_true (by omega)), if_pos (.inr c6)]
   rw [if_neg (by simp; omega), if_neg (by omega)]
   exact hl
end Go.Proofs.YthjhaogfpdkhbaaDoor.B
/- Chapter 5: what the printed functions answer, in plain Lean. -/
namespace Go.Proofs.YthjhaogfpdkhbaaDoor.Sh
open Go.RowKit YthjhaogfpdkhbaaDoorW.PrintWords YthjhaogfpdkhbaaDoorW.PrintLast YthjhaogfpdkhbaaDoorW.PrintMore
open B H

theorem w64n (i : Nat) (h : i < 9223372036854775807) : wrap64 ((i : Int) + 1) = ((i + 1 : Nat) : Int) := by unfold wrap64; omega
theorem w64m (s : Int) (h : -9223372036854775808 ≤ s) (h' : s < 9223372036854775808) : wrap64 ((-1) - s) = -1 - s := by unfold wrap64; omega
theorem ba_eq {a b : ByteArray} (h : a.data.toList = b.data.toList) : a = b := by
 cases a; cases b
 have := Array.ext' h
 simp only at this
 rw [this]
theorem toL_inj (a b : ByteArray) : (a.toList = b.toList) ↔ a = b := by
 rw [P.toList_data, P.toList_data]
 exact ⟨ba_eq, fun h => by rw [h]⟩
theorem free_of (a : ByteArray) (k : Nat) (f : Nat → ByteArray → Option Bool) (h : f k a = some (P.plainL a.data.toList)) :
 ((f k a).bind fun t => (if t = true then (if a.toList = ([58] : List UInt8) then (some false) else (some (a.toList != ([124] : List UInt8)))) else (some false))) = some (P.freeL a.data.toList) := by
 rw [h, Option.bind_some, P.toList_data]
 unfold P.freeL
 cases P.plainL a.data.toList with
 | false => rfl
 | true =>
  rw [if_pos rfl]
  by_cases c : a.data.toList = [58]
  · rw [if_pos c, c]; rfl
  · rw [if_neg c]
    have : (a.data.toList == [58]) = false := by simpa using c
    rw [this]
    rfl
theorem free_f (a : ByteArray) (hs : a.size ≤ 140737488355328) (k : Nat) (hk : a.size < k) : show_free.f k a = some (P.freeL a.data.toList) := by
 have hp : words_Plain.f k a = some (P.plainL a.data.toList) := at_rounds (g := fun k => words_Plain.f k a) (fun k => words_Plain.mono a k) (show a.size + 1 ≤ k by omega) (Plain_f a hs)
 exact free_of a k words_Plain.f hp
theorem rfree_f (a : ByteArray) (hs : a.size ≤ 140737488355328) (k : Nat) (hk : a.size < k) : dovetailref05_free.f k a = some (P.freeL a.data.toList) := free_of a k dovetailref02_Plain.f (rPlain_f a hs k hk)
theorem rdS (l : List ByteArray) (i : Int) : rdOf ByteArray.empty l i = l.getD i.toNat ByteArray.empty := rfl
section
variable {l0 l1 : List ByteArray} {a2 : Int} {R : List S52} {m : Nat}
theorem getD_size {l : List ByteArray} (h : ∀ x ∈ l, x.size ≤ m) (i : Nat) : (l.getD i ByteArray.empty).size ≤ m := by
 rcases Nat.lt_or_ge i l.length with hi | hi
 · rw [getD_lt _ _ _ hi]
   exact h _ (List.getElem_mem hi)
 · rw [List.getD_eq_getElem?_getD, List.getElem?_eq_none hi]
   exact Nat.zero_le _
def nameA (l0 l1 : List ByteArray) (s : Int) : ByteArray × Bool :=
 if s < 0 then (if -1 - s < (l1.length : Int) then (l1.getD (-1 - s).toNat ByteArray.empty, true) else (⟨#[]⟩, false))
 else (if s < (l0.length : Int) then (l0.getD s.toNat ByteArray.empty, true) else (⟨#[]⟩, false))
theorem name_f (s : Int) (h0 : -9223372036854775808 ≤ s) (h1 : s < 9223372036854775808) : gram_Name.f l0 l1 a2 R s = some (nameA l0 l1 s) := by
 unfold gram_Name.f nameA
 by_cases c : s < 0
 · rw [if_pos c, if_pos c, w64m s h0 h1]
   by_cases d : -1 - s < (l1.length : Int)
   · rw [if_neg (by omega), if_pos (by omega), if_pos d, if_pos d]; rfl
   · rw [if_pos (by omega), if_neg d]
 · rw [if_neg c, if_neg c]
   by_cases d : s < (l0.length : Int)
   · rw [if_neg (by omega), if_pos (by omega), if_pos d, if_pos d]; rfl
   · rw [if_pos (by omega), if_neg d]
theorem nonterm_f (name : ByteArray) (k : Nat) (hm : l1.length ≤ 9223372036854775807) (hk : l1.length < k) : ∃ i, gram_Nonterm.f k l0 l1 a2 R name = some (i, decide (name ∈ l1)) := by
 unfold gram_Nonterm.f gram_find.f
 rw [Index_f l1 name k hm hk, Option.bind_some, Option.bind_some]
 have := place_nonneg l1 name
 exact ⟨mx (place l1 name 0) 0, by rw [show decide (place l1 name 0 ≥ 0) = decide (name ∈ l1) from decide_eq_decide.2 this]⟩
theorem rsym_l0 (hm : m ≤ 35184372088831) (hl : l1.length ≤ 9223372036854775806) (x : ByteArray) (hx : x.size ≤ m) : ∀ (d i k : Nat) (b : Bool), l1.length - i = d → i ≤ l1.length → d + 3 * m + 1 < k →
 dovetailref05_Symbol.l0 k x b (i : Int) l0 l1 a2 R = some (if (b && !decide (x ∈ l1.drop i)) = true then x else ⟨(P.quoteL x.data.toList).toArray⟩) := by
 intro d
 induction d with
 | zero =>
  intro i k b hd hi hk
  obtain ⟨k, rfl⟩ : ∃ j, k = j + 1 := ⟨k - 1, by omega⟩
  have : i = l1.length := by omega
  subst this
  rw [dovetailref05_Symbol.l0, if_neg (by omega), List.drop_length]
  cases b with
  | true => rw [if_pos rfl]; simp
  | false =>
   rw [if_neg (by decide), rQuote_f x (by omega) k (by omega), Option.bind_some]
   simp
 | succ d ih =>
  intro i k b hd hi hk
  obtain ⟨k, rfl⟩ : ∃ j, k = j + 1 := ⟨k - 1, by omega⟩
  have hlt : i < l1.length := by omega
  rw [dovetailref05_Symbol.l0, if_pos (by omega), if_pos (by omega), rdS, Int.toNat_natCast, w64n i (by omega), getD_lt _ _ _ hlt, List.drop_eq_getElem_cons hlt]
  by_cases c : l1[i] = x
  · rw [if_pos ((toL_inj _ _).2 c), ih (i + 1) k false (by omega) (by omega) (by omega)]
    have : x ∈ l1[i] :: l1.drop (i + 1) := by rw [c]; exact List.mem_cons_self
    rw [decide_eq_true this]
    simp
  · rw [if_neg (fun h => c ((toL_inj _ _).1 h)), ih (i + 1) k b (by omega) (by omega) (by omega)]
    have : decide (x ∈ l1[i] :: l1.drop (i + 1)) = decide (x ∈ l1.drop (i + 1)) := by
     rw [decide_eq_decide, List.mem_cons]
     exact ⟨fun h => h.resolve_left (fun h => c h.symm), .inr⟩
    rw [this]
theorem rsym_l1 (hm : m ≤ 35184372088831) (h1 : ∀ x ∈ l1, x.size ≤ m) (hl : l1.length ≤ 9223372036854775806) (s : Int) : ∀ (d i k : Nat), l1.length - i = d → i ≤ l1.length → d + 3 * m + 1 < k → (∀ j : Nat, j < i → s ≠ -1 - (j : Int)) →
 dovetailref05_Symbol.l1 k s (i : Int) l0 l1 a2 R = some ⟨(if s < 0 ∧ -1 - s < (l1.length : Int) then (if P.freeL (l1.getD (-1 - s).toNat ByteArray.empty).data.toList = true then (l1.getD (-1 - s).toNat ByteArray.empty).data.toList else 60 :: P.quoteL (l1.getD (-1 - s).toNat ByteArray.empty).data.toList ++ [62]) else [63]).toArray⟩ := by
 intro d
 induction d with
 | zero =>
  intro i k hd hi hk hno
  obtain ⟨k, rfl⟩ : ∃ j, k = j + 1 := ⟨k - 1, by omega⟩
  have : i = l1.length := by omega
  subst this
  rw [dovetailref05_Symbol.l1, if_neg (by omega), if_neg (fun h => hno (-1 - s).toNat (by omega) (by omega))]
 | succ d ih =>
  intro i k hd hi hk hno
  obtain ⟨k, rfl⟩ : ∃ j, k = j + 1 := ⟨k - 1, by omega⟩
  have hlt : i < l1.length := by omega
  rw [dovetailref05_Symbol.l1, if_pos (by omega), w64m (i : Int) (by omega) (by omega)]
  by_cases c : s = -1 - (i : Int)
  · have hsz := getD_size h1 i
    have hi' : (-1 - s).toNat = i := by omega
    rw [if_pos c, if_pos (by omega), rdS, Int.toNat_natCast, if_pos (by omega), hi']
    generalize l1.getD i ByteArray.empty = x at hsz
    rw [rfree_f x (by omega) k (by omega), Option.bind_some]
    cases P.freeL x.data.toList with
    | true => rw [if_pos rfl, if_pos rfl]
    | false =>
     have hq := P.quoteL_length x.data.toList
     have hx : x.data.toList.length = x.size := by simp
     rw [if_neg (by decide), if_neg (by decide), rQuote_f x (by omega) k (by omega), Option.bind_some, P.size_lit, if_pos (by omega), P.size_append, P.size_lit, if_pos (by show (1 + (P.quoteL x.data.toList).length) + 1 ≤ _; omega)]
     congr 1
  · rw [if_neg c, w64n i (by omega)]
    refine ih (i + 1) k (by omega) (by omega) (by omega) (fun j hj => ?_)
    by_cases e : j = i
    · rw [e]; exact c
    · exact hno j (by omega)
theorem rsym_f (hm : m ≤ 35184372088831) (h0 : ∀ x ∈ l0, x.size ≤ m) (h1 : ∀ x ∈ l1, x.size ≤ m) (hl0 : l0.length ≤ 9223372036854775806) (hl : l1.length ≤ 9223372036854775806) (s : Int) (k : Nat) (hk : l1.length + 3 * m + 4 ≤ k) :
 dovetailref05_Symbol.f k l0 l1 a2 R s = some ⟨(P.symL l0 l1 s).toArray⟩ := by
 obtain ⟨k, rfl⟩ : ∃ j, k = j + 1 := ⟨k - 1, by omega⟩
 have hneg : ∀ b, b = false → ¬ (0 ≤ s ∧ s < (l0.length : Int)) → s ≠ (l0.length : Int) → dovetailref05_Symbol.j0 (k + 1) s b l0 l1 a2 R = some ⟨(P.symL l0 l1 s).toArray⟩ := by
  intro b hb hn hne
  rw [dovetailref05_Symbol.j0, hb, if_neg (by decide)]
  have := rsym_l1 (l0 := l0) (a2 := a2) (R := R) hm h1 hl s l1.length 0 k (by omega) (by omega) (by omega) (fun j hj => by omega)
  rw [show ((0 : Nat) : Int) = 0 from rfl] at this
  rw [this]
  congr 3
  unfold P.symL
  rw [if_neg hne]
  by_cases c : 0 ≤ s
  · rw [if_neg (fun h => by omega), if_pos c, if_neg (fun h => hn ⟨c, h⟩)]
  · rw [if_neg c]
    by_cases d : -1 - s < (l1.length : Int)
    · rw [if_pos ⟨by omega, d⟩, if_pos d]
    · rw [if_neg (fun h => d h.2), if_neg d]
 unfold dovetailref05_Symbol.f
 by_cases c0 : s = (l0.length : Int)
 · rw [if_pos c0]
   unfold P.symL
   rw [if_pos c0]
 rw [if_neg c0]
 by_cases c1 : s ≥ 0
 · rw [if_pos c1]
   by_cases c2 : s < (l0.length : Int)
   · have hsz := getD_size h0 s.toNat
     rw [decide_eq_true c2, dovetailref05_Symbol.j0, if_pos rfl, if_pos c1, if_pos c2, rdS]
     unfold P.symL
     rw [if_neg c0, if_pos c1, if_pos c2]
     generalize l0.getD s.toNat ByteArray.empty = x at hsz
     rw [rfree_f x (by omega) k (by omega), Option.bind_some]
     have := rsym_l0 (l0 := l0) (a2 := a2) (R := R) (m := m) hm hl x hsz l1.length 0 k (P.freeL x.data.toList) (by omega) (by omega) (by omega)
     rw [show ((0 : Nat) : Int) = 0 from rfl, List.drop_zero] at this
     rw [this]
     congr 1
     by_cases d : x ∈ l1 ∨ P.freeL x.data.toList = false
     · rw [if_pos d, if_neg]
       rcases d with d | d
       · rw [decide_eq_true d]; simp
       · rw [d]; simp
     · rw [if_neg d, if_pos]
       rw [not_or] at d
       rw [decide_eq_false d.1]
       simpa using d.2
   · exact hneg _ (decide_eq_false c2) (fun h => c2 h.2) c0
 · rw [if_neg c1]
   exact hneg _ rfl (fun h => c1 h.1) c0
end
end Go.Proofs.YthjhaogfpdkhbaaDoor.Sh
/- show.Symbol, show.Symbols, the document's Symbols: walked. -/
namespace Go.Proofs.YthjhaogfpdkhbaaDoor.Sh
open Go.RowKit YthjhaogfpdkhbaaDoorW.PrintWords YthjhaogfpdkhbaaDoorW.PrintLast YthjhaogfpdkhbaaDoorW.PrintMore
open B H

def GS (w : World) (cs : Array Value) (W : World) : Prop := Below w.heap.size w W ∧ Box w.heap.size cs 25 W
theorem GS.start (w : World) (cs : Array Value) : GS w cs (w.alloc (.cells cs 25)) := ⟨(Below.refl _ w).alloc (Nat.le_refl _) _, Box.new w _ _⟩
theorem GS.low {w : World} {cs : Array Value} {W : World} (h : GS w cs W) : Below w.heap.size w W := h.1
theorem GS.more {w : World} {cs : Array Value} {W W' : World} (h : GS w cs W) (hb : Below W.heap.size W W') : GS w cs W' := ⟨h.1.trans (hb.mono h.1.size), h.2.below hb⟩
theorem GS.cells {w W : World} {v0 v1 v2 v3 : Value} (h : GS w #[v0, v1, v2, v3] W) : W.cell? ⟨w.heap.size, 0, none⟩ = some v0 ∧ W.cell? ⟨w.heap.size, 1, none⟩ = some v1 ∧ W.cell? ⟨w.heap.size, 2, none⟩ = some v2 ∧ W.cell? ⟨w.heap.size, 3, none⟩ = some v3 :=
 ⟨h.2.cell 0 _ rfl, h.2.cell 1 _ rfl, h.2.cell 2 _ rfl, h.2.cell 3 _ rfl⟩
theorem GS.base {w : World} {cs : Array Value} {W W' : World} (h : GS w cs W) (base : Nat) (hb : Below base W W') (h0 : w.heap.size < base) : GS w cs W' := ⟨h.1.trans (hb.mono (by omega)), (hb.block _ h0).trans h.2⟩
set_option maxHeartbeats 4000000 in
set_option maxRecDepth 100000 in
theorem Symbol_calls (A0 : Option Addr) (c0 : Nat) (l0 : List ByteArray) (A1 : Option Addr) (c1 : Nat) (l1 : List ByteArray) (a2 : Int) (A3 : Option Addr) (c3 : Nat) (R : List S52) (s : Int) (m : Nat) (w : World) (hr0 : Kd.C Kd.string w A0 l0.length l0) (hc0 : l0.length ≤ c0) (hr1 : Kd.C Kd.string w A1 l1.length l1) (hc1 : l1.length ≤ c1) (hr3 : Kd.C k52 w A3 R.length R) (hc3 : R.length ≤ c3) (hm : m ≤ 35184372088000) (z0 : ∀ x ∈ l0, x.size ≤ m) (z1 : ∀ x ∈ l1, x.size ≤ m) (s0 : -9223372036854775808 ≤ s) (s1 : s < 9223372036854775808) :
 Calls Tryd.prog 19 #[.agg #[.slice A0 l0.length c0, .slice A1 l1.length c1, .int .i64 a2, .slice A3 R.length c3], .int .i64 s] w fun e w' => e = .returned (.string ⟨(P.symL l0 l1 s).toArray⟩) ∧ Below w.heap.size w w' := by
 have m1 := C_max hr1
 obtain ⟨cs, hcs⟩ : ∃ cs : Array Value, cs = #[.slice A0 l0.length c0, .slice A1 l1.length c1, .int .i64 a2, .slice A3 R.length c3] := ⟨_, rfl⟩
 have st : GS w cs (w.alloc (.cells #[.slice A0 l0.length c0, .slice A1 l1.length c1, .int .i64 a2, .slice A3 R.length c3] 25)) := by subst hcs; exact GS.start w _
 have ce : ∀ W, GS w cs W → W.cell? ⟨w.heap.size, 0, none⟩ = some (.slice A0 l0.length c0) ∧ W.cell? ⟨w.heap.size, 1, none⟩ = some (.slice A1 l1.length c1) ∧ W.cell? ⟨w.heap.size, 2, none⟩ = some (.int .i64 a2) ∧ W.cell? ⟨w.heap.size, 3, none⟩ = some (.slice A3 R.length c3) := by
  intro W hW; subst hcs; exact hW.cells
 have hn := name_f (l0 := l0) (l1 := l1) (a2 := a2) (R := R) s s0 s1
 have hsz : (nameA l0 l1 s).1.size ≤ m := by
  unfold nameA
  split
  · split
    · exact getD_size z1 _
    · exact Nat.zero_le _
  · split
    · exact getD_size z0 _
    · exact Nat.zero_le _
 have hsym : P.symL l0 l1 s = (if s = (l0.length : Int) then [36] else if (nameA l0 l1 s).2 = false then [63] else if s < 0 then (if P.freeL (nameA l0 l1 s).1.data.toList = true then (nameA l0 l1 s).1.data.toList else 60 :: P.quoteL (nameA l0 l1 s).1.data.toList ++ [62]) else if (nameA l0 l1 s).1 ∈ l1 ∨ P.freeL (nameA l0 l1 s).1.data.toList = false then P.quoteL (nameA l0 l1 s).1.data.toList else (nameA l0 l1 s).1.data.toList) := by
  unfold P.symL nameA
  by_cases d0 : s = (l0.length : Int)
  · rw [if_pos d0, if_pos d0]
  rw [if_neg d0, if_neg d0]
  by_cases d1 : s < 0
  · rw [if_neg (show ¬ 0 ≤ s by omega), if_pos d1]
    by_cases d2 : -1 - s < (l1.length : Int)
    · rw [if_pos d2, if_pos d2]; dsimp only; rw [if_neg (show ¬ (true = false) by decide), if_pos d1]
    · rw [if_neg d2, if_neg d2]; dsimp only; rw [if_pos (show false = false from rfl)]
  · rw [if_pos (show 0 ≤ s by omega), if_neg d1]
    by_cases d2 : s < (l0.length : Int)
    · rw [if_pos d2, if_pos d2]; dsimp only; rw [if_neg (show ¬ (true = false) by decide), if_neg d1]
    · rw [if_neg d2, if_neg d2]; dsimp only; rw [if_pos (show false = false from rfl)]
 generalize nameA l0 l1 s = nk at hn hsz hsym
 obtain ⟨nm, ok⟩ := nk
 dsimp only at hsz hsym
 obtain ⟨ix, hix⟩ := nonterm_f (l0 := l0) (l1 := l1) (a2 := a2) (R := R) nm (l1.length + 1) m1 (by omega)
 have kN : ∀ W, GS w cs W → Calls Tryd.prog 45 #[.agg #[.slice A0 l0.length c0, .slice A1 l1.length c1, .int .i64 a2, .slice A3 R.length c3], .int .i64 s] W fun e w' => e = .returned (.tuple #[.string nm, .bool ok]) ∧ Aside0 (GS w cs w') := fun W hW =>
  (gram_Name.calls A0 c0 l0 A1 c1 l1 a2 A3 c3 R s nm ok W (Kd.C_below hr0 hW.low) hc0 (Kd.C_below hr1 hW.low) hc1 (Kd.C_below hr3 hW.low) hc3 hn).mono fun _ _ ⟨he, hb⟩ => ⟨he, ⟨hW.more hb⟩⟩
 have kT : ∀ W, GS w cs W → Calls Tryd.prog 44 #[.agg #[.slice A0 l0.length c0, .slice A1 l1.length c1, .int .i64 a2, .slice A3 R.length c3], .string nm] W fun e w' => e = .returned (.tuple #[.int .i64 ix, .bool (decide (nm ∈ l1))]) ∧ Aside0 (GS w cs w') := fun W hW =>
  (gram_Nonterm.calls _ A0 c0 l0 A1 c1 l1 a2 A3 c3 R nm ix _ W (Kd.C_below hr0 hW.low) hc0 (Kd.C_below hr1 hW.low) hc1 (Kd.C_below hr3 hW.low) hc3 hix).mono fun _ _ ⟨he, hb⟩ => ⟨he, ⟨hW.more hb⟩⟩
 have kF : ∀ W, GS w cs W → Calls Tryd.prog 59 #[.string nm] W fun e w' => e = .returned (.bool (P.freeL nm.data.toList)) ∧ Aside0 (GS w cs w') := fun W hW =>
  (show_free.calls (nm.size + 1) nm _ W (free_f nm (by omega) _ (by omega))).mono fun _ _ ⟨he, hd⟩ => ⟨he, ⟨hW.more hd.below⟩⟩
 have kQ : ∀ W, GS w cs W → Calls Tryd.prog 60 #[.string nm] W fun e w' => e = .returned (.string ⟨(P.quoteL nm.data.toList).toArray⟩) ∧ Aside0 (GS w cs w') := fun W hW =>
  (Quote_calls nm W (by omega)).mono fun _ _ ⟨he, hb⟩ => ⟨he, ⟨hW.more hb⟩⟩
 have hql : (P.quoteL nm.data.toList).length ≤ 4 * nm.size + 2 := by
  have := P.quoteL_length nm.data.toList
  have e : nm.data.toList.length = nm.size := by simp
  omega
 have hqs : (⟨(P.quoteL nm.data.toList).toArray⟩ : ByteArray).size ≤ 4 * nm.size + 2 := by rw [P.size_lit]; exact hql
 have hdg : ∀ a q z : ByteArray, ((a ++ q) ++ z).data.toList = a.data.toList ++ q.data.toList ++ z.data.toList := fun a q z => by rw [P.data_append, P.data_append]
 have hD : (⟨(60 :: P.quoteL nm.data.toList ++ [62]).toArray⟩ : ByteArray) = (⟨#[60]⟩ : ByteArray) ++ (⟨(P.quoteL nm.data.toList).toArray⟩ : ByteArray) ++ (⟨#[62]⟩ : ByteArray) := by
  refine ba_eq ?_
  rw [hdg]
  rfl
 have hnm0 : (⟨nm.data.toList.toArray⟩ : ByteArray) = nm := ba_eq rfl
 have KN := Aside0.mk kN
 have KT := Aside0.mk kT
 have KF := Aside0.mk kF
 have KQ := Aside0.mk kQ
 have CE := Aside0.mk ce
 have T := Aside0.mk st
 have HCS := Lib.hid hcs
 clear hr0 hr1 hr3 kN kT kF kQ ce st hn hix z0 z1 hcs
 by_cases d0 : s = (l0.length : Int)
 · have hfin : (⟨(P.symL l0 l1 s).toArray⟩ : ByteArray) = ⟨#[36]⟩ := by rw [hsym, if_pos d0]
   clear hsym hD hnm0 hql hqs hdg
   subst d0
   go_enter Tryd.func19, Tryd.ntmps19
   go_wp2_with (first
    | (go_at_call 45; (with_reducible refine (KN.out _ T.out).mono ?_); rintro e w1 ⟨rfl, t1⟩; (try clear f0 f1 f2 f3); clear T; have T := t1; clear t1; obtain ⟨f0, f1, f2, f3⟩ := CE.out _ T.out)
    | (go_at_call 59; (with_reducible refine (KF.out _ T.out).mono ?_); rintro e w2 ⟨rfl, t2⟩; (try clear f0 f1 f2 f3); clear T; have T := t2; clear t2; obtain ⟨f0, f1, f2, f3⟩ := CE.out _ T.out)
    | (go_at_call 44; (with_reducible refine (KT.out _ T.out).mono ?_); rintro e w3 ⟨rfl, t3⟩; (try clear f0 f1 f2 f3); clear T; have T := t3; clear t3; obtain ⟨f0, f1, f2, f3⟩ := CE.out _ T.out)
    | (go_at_call 60; (with_reducible refine (KQ.out _ T.out).mono ?_); rintro e w4 ⟨rfl, t4⟩; (try clear f0 f1 f2 f3); clear T; have T := t4; clear t4; obtain ⟨f0, f1, f2, f3⟩ := CE.out _ T.out))
   go_ret
   exact ⟨by rw [hfin]; rfl, T.out.low⟩
 have e0 : decide (s = (l0.length : Int)) = false := decide_eq_false d0
 have e0b : (s == (l0.length : Int)) = false := by simpa using d0
 rw [if_neg d0] at hsym
 clear d0
 cases ok with
 | false =>
  have hfin : (⟨(P.symL l0 l1 s).toArray⟩ : ByteArray) = ⟨#[63]⟩ := by rw [hsym, if_pos rfl]
  clear hsym hD hnm0 hql hqs hdg
  go_enter Tryd.func19, Tryd.ntmps19
  go_wp2_with (first
   | (go_at_call 45; (with_reducible refine (KN.out _ T.out).mono ?_); rintro e w1 ⟨rfl, t1⟩; (try clear f0 f1 f2 f3); clear T; have T := t1; clear t1; obtain ⟨f0, f1, f2, f3⟩ := CE.out _ T.out)
   | (go_at_call 59; (with_reducible refine (KF.out _ T.out).mono ?_); rintro e w2 ⟨rfl, t2⟩; (try clear f0 f1 f2 f3); clear T; have T := t2; clear t2; obtain ⟨f0, f1, f2, f3⟩ := CE.out _ T.out)
   | (go_at_call 44; (with_reducible refine (KT.out _ T.out).mono ?_); rintro e w3 ⟨rfl, t3⟩; (try clear f0 f1 f2 f3); clear T; have T := t3; clear t3; obtain ⟨f0, f1, f2, f3⟩ := CE.out _ T.out)
   | (go_at_call 60; (with_reducible refine (KQ.out _ T.out).mono ?_); rintro e w4 ⟨rfl, t4⟩; (try clear f0 f1 f2 f3); clear T; have T := t4; clear t4; obtain ⟨f0, f1, f2, f3⟩ := CE.out _ T.out))
  go_ret
  exact ⟨by rw [hfin]; rfl, T.out.low⟩
 | true =>
  rw [if_neg (by decide)] at hsym
  by_cases d1 : s < 0
  · rw [if_pos d1] at hsym
    have e1 : decide (s < 0) = true := decide_eq_true d1
    clear d1
    cases hfr : P.freeL nm.data.toList with
    | true =>
     have hfin : (⟨(P.symL l0 l1 s).toArray⟩ : ByteArray) = nm := by rw [hsym, if_pos hfr, hnm0]
     rw [hfr] at KF
     clear hsym hD hnm0 hql hqs hdg hfr
     go_enter Tryd.func19, Tryd.ntmps19
     go_wp2_with (first
      | (go_at_call 45; (with_reducible refine (KN.out _ T.out).mono ?_); rintro e w1 ⟨rfl, t1⟩; (try clear f0 f1 f2 f3); clear T; have T := t1; clear t1; obtain ⟨f0, f1, f2, f3⟩ := CE.out _ T.out)
      | (go_at_call 59; (with_reducible refine (KF.out _ T.out).mono ?_); rintro e w2 ⟨rfl, t2⟩; (try clear f0 f1 f2 f3); clear T; have T := t2; clear t2; obtain ⟨f0, f1, f2, f3⟩ := CE.out _ T.out)
      | (go_at_call 44; (with_reducible refine (KT.out _ T.out).mono ?_); rintro e w3 ⟨rfl, t3⟩; (try clear f0 f1 f2 f3); clear T; have T := t3; clear t3; obtain ⟨f0, f1, f2, f3⟩ := CE.out _ T.out)
      | (go_at_call 60; (with_reducible refine (KQ.out _ T.out).mono ?_); rintro e w4 ⟨rfl, t4⟩; (try clear f0 f1 f2 f3); clear T; have T := t4; clear t4; obtain ⟨f0, f1, f2, f3⟩ := CE.out _ T.out))
     go_ret
     exact ⟨by rw [hfin]; rfl, T.out.low⟩
    | false =>
     have hfin : (⟨(P.symL l0 l1 s).toArray⟩ : ByteArray) = (⟨#[60]⟩ : ByteArray) ++ (⟨(P.quoteL nm.data.toList).toArray⟩ : ByteArray) ++ (⟨#[62]⟩ : ByteArray) := by rw [hsym, hfr, if_neg (by decide), hD]
     rw [hfr] at KF
     clear hsym hD hnm0 hql hdg hfr
     generalize (⟨(P.quoteL nm.data.toList).toArray⟩ : ByteArray) = q at hfin KQ hqs
     have b1 : ¬ 9223372036854775807 < 1 + q.size := by omega
     have b2 : ¬ 9223372036854775807 < 1 + q.size + 1 := by omega
     have b3 : ¬ 9223372036854775807 < ((⟨#[60]⟩ : ByteArray) ++ q).size + 1 := by rw [P.size_append]; show ¬ _ < 1 + q.size + 1; omega
     go_enter Tryd.func19, Tryd.ntmps19
     go_wp2_with (first
      | (go_at_call 45; (with_reducible refine (KN.out _ T.out).mono ?_); rintro e w1 ⟨rfl, t1⟩; (try clear f0 f1 f2 f3); clear T; have T := t1; clear t1; obtain ⟨f0, f1, f2, f3⟩ := CE.out _ T.out)
      | (go_at_call 59; (with_reducible refine (KF.out _ T.out).mono ?_); rintro e w2 ⟨rfl, t2⟩; (try clear f0 f1 f2 f3); clear T; have T := t2; clear t2; obtain ⟨f0, f1, f2, f3⟩ := CE.out _ T.out)
      | (go_at_call 44; (with_reducible refine (KT.out _ T.out).mono ?_); rintro e w3 ⟨rfl, t3⟩; (try clear f0 f1 f2 f3); clear T; have T := t3; clear t3; obtain ⟨f0, f1, f2, f3⟩ := CE.out _ T.out)
      | (go_at_call 60; (with_reducible refine (KQ.out _ T.out).mono ?_); rintro e w4 ⟨rfl, t4⟩; (try clear f0 f1 f2 f3); clear T; have T := t4; clear t4; obtain ⟨f0, f1, f2, f3⟩ := CE.out _ T.out))
     go_ret
     exact ⟨by rw [hfin]; rfl, T.out.low⟩
  · rw [if_neg d1] at hsym
    have e1 : decide (s < 0) = false := decide_eq_false d1
    clear d1
    by_cases d2 : nm ∈ l1
    · rw [if_pos (.inl d2)] at hsym
      have hfin : (⟨(P.symL l0 l1 s).toArray⟩ : ByteArray) = ⟨(P.quoteL nm.data.toList).toArray⟩ := by rw [hsym]
      rw [decide_eq_true d2] at KT
      clear hsym hD hnm0 hql hqs hdg d2
      go_enter Tryd.func19, Tryd.ntmps19
      go_wp2_with (first
       | (go_at_call 45; (with_reducible refine (KN.out _ T.out).mono ?_); rintro e w1 ⟨rfl, t1⟩; (try clear f0 f1 f2 f3); clear T; have T := t1; clear t1; obtain ⟨f0, f1, f2, f3⟩ := CE.out _ T.out)
       | (go_at_call 59; (with_reducible refine (KF.out _ T.out).mono ?_); rintro e w2 ⟨rfl, t2⟩; (try clear f0 f1 f2 f3); clear T; have T := t2; clear t2; obtain ⟨f0, f1, f2, f3⟩ := CE.out _ T.out)
       | (go_at_call 44; (with_reducible refine (KT.out _ T.out).mono ?_); rintro e w3 ⟨rfl, t3⟩; (try clear f0 f1 f2 f3); clear T; have T := t3; clear t3; obtain ⟨f0, f1, f2, f3⟩ := CE.out _ T.out)
       | (go_at_call 60; (with_reducible refine (KQ.out _ T.out).mono ?_); rintro e w4 ⟨rfl, t4⟩; (try clear f0 f1 f2 f3); clear T; have T := t4; clear t4; obtain ⟨f0, f1, f2, f3⟩ := CE.out _ T.out))
      go_ret
      exact ⟨by rw [hfin]; rfl, T.out.low⟩
    · cases hfr : P.freeL nm.data.toList with
      | false =>
       rw [if_pos (.inr hfr)] at hsym
       have hfin : (⟨(P.symL l0 l1 s).toArray⟩ : ByteArray) = ⟨(P.quoteL nm.data.toList).toArray⟩ := by rw [hsym]
       rw [decide_eq_false d2] at KT
       rw [hfr] at KF
       clear hsym hD hnm0 hql hqs hdg d2 hfr
       go_enter Tryd.func19, Tryd.ntmps19
       go_wp2_with (first
        | (go_at_call 45; (with_reducible refine (KN.out _ T.out).mono ?_); rintro e w1 ⟨rfl, t1⟩; (try clear f0 f1 f2 f3); clear T; have T := t1; clear t1; obtain ⟨f0, f1, f2, f3⟩ := CE.out _ T.out)
        | (go_at_call 59; (with_reducible refine (KF.out _ T.out).mono ?_); rintro e w2 ⟨rfl, t2⟩; (try clear f0 f1 f2 f3); clear T; have T := t2; clear t2; obtain ⟨f0, f1, f2, f3⟩ := CE.out _ T.out)
        | (go_at_call 44; (with_reducible refine (KT.out _ T.out).mono ?_); rintro e w3 ⟨rfl, t3⟩; (try clear f0 f1 f2 f3); clear T; have T := t3; clear t3; obtain ⟨f0, f1, f2, f3⟩ := CE.out _ T.out)
        | (go_at_call 60; (with_reducible refine (KQ.out _ T.out).mono ?_); rintro e w4 ⟨rfl, t4⟩; (try clear f0 f1 f2 f3); clear T; have T := t4; clear t4; obtain ⟨f0, f1, f2, f3⟩ := CE.out _ T.out))
       go_ret
       exact ⟨by rw [hfin]; rfl, T.out.low⟩
      | true =>
       rw [if_neg (fun h => h.elim d2 (fun h => by rw [hfr] at h; cases h))] at hsym
       have hfin : (⟨(P.symL l0 l1 s).toArray⟩ : ByteArray) = nm := by rw [hsym, hnm0]
       rw [decide_eq_false d2] at KT
       rw [hfr] at KF
       clear hsym hD hnm0 hql hqs hdg d2 hfr
       go_enter Tryd.func19, Tryd.ntmps19
       go_wp2_with (first
        | (go_at_call 45; (with_reducible refine (KN.out _ T.out).mono ?_); rintro e w1 ⟨rfl, t1⟩; (try clear f0 f1 f2 f3); clear T; have T := t1; clear t1; obtain ⟨f0, f1, f2, f3⟩ := CE.out _ T.out)
        | (go_at_call 59; (with_reducible refine (KF.out _ T.out).mono ?_); rintro e w2 ⟨rfl, t2⟩; (try clear f0 f1 f2 f3); clear T; have T := t2; clear t2; obtain ⟨f0, f1, f2, f3⟩ := CE.out _ T.out)
        | (go_at_call 44; (with_reducible refine (KT.out _ T.out).mono ?_); rintro e w3 ⟨rfl, t3⟩; (try clear f0 f1 f2 f3); clear T; have T := t3; clear t3; obtain ⟨f0, f1, f2, f3⟩ := CE.out _ T.out)
        | (go_at_call 60; (with_reducible refine (KQ.out _ T.out).mono ?_); rintro e w4 ⟨rfl, t4⟩; (try clear f0 f1 f2 f3); clear T; have T := t4; clear t4; obtain ⟨f0, f1, f2, f3⟩ := CE.out _ T.out))
       go_ret
       exact ⟨by rw [hfin]; rfl, T.out.low⟩

set_option maxHeartbeats 4000000 in
set_option maxRecDepth 100000 in
theorem Symbols_calls (A0 : Option Addr) (c0 : Nat) (l0 : List ByteArray) (A1 : Option Addr) (c1 : Nat) (l1 : List ByteArray) (a2 : Int) (A3 : Option Addr) (c3 : Nat) (R : List S52) (A : Option Addr) (c : Nat) (l : List Int) (m : Nat) (w : World) (hr0 : Kd.C Kd.string w A0 l0.length l0) (hc0 : l0.length ≤ c0) (hr1 : Kd.C Kd.string w A1 l1.length l1) (hc1 : l1.length ≤ c1) (hr3 : Kd.C k52 w A3 R.length R) (hc3 : R.length ≤ c3) (hr : Kd.C (Kd.int .i64) w A l.length l) (hc : l.length ≤ c) (hm : m ≤ 35184372088000) (z0 : ∀ x ∈ l0, x.size ≤ m) (z1 : ∀ x ∈ l1, x.size ≤ m) (hb : (4 * m + 5) * l.length ≤ 140737488355328) (hs : ∀ s ∈ l, -9223372036854775808 ≤ s ∧ s < 9223372036854775808) :
 Calls Tryd.prog 21 #[.agg #[.slice A0 l0.length c0, .slice A1 l1.length c1, .int .i64 a2, .slice A3 R.length c3], .slice A l.length c] w fun e w' => e = .returned (.string ⟨(P.symsL l0 l1 l).toArray⟩) ∧ Below w.heap.size w w' := by
 have hll : l.length ≤ 140737488355328 := Nat.le_trans (Nat.le_mul_of_pos_left _ (by omega)) hb
 obtain ⟨cs, hcs⟩ : ∃ cs : Array Value, cs = #[.slice A0 l0.length c0, .slice A1 l1.length c1, .int .i64 a2, .slice A3 R.length c3] := ⟨_, rfl⟩
 have st : GS w cs (w.alloc (.cells #[.slice A0 l0.length c0, .slice A1 l1.length c1, .int .i64 a2, .slice A3 R.length c3] 25)) := by subst hcs; exact GS.start w _
 have ce : ∀ W, GS w cs W → W.cell? ⟨w.heap.size, 0, none⟩ = some (.slice A0 l0.length c0) ∧ W.cell? ⟨w.heap.size, 1, none⟩ = some (.slice A1 l1.length c1) ∧ W.cell? ⟨w.heap.size, 2, none⟩ = some (.int .i64 a2) ∧ W.cell? ⟨w.heap.size, 3, none⟩ = some (.slice A3 R.length c3) := by
  intro W hW; subst hcs; exact hW.cells
 have h1 : BU (w.heap.size + 1) (w.heap.size + 1) [] ((w.alloc (.cells #[.slice A0 l0.length c0, .slice A1 l1.length c1, .int .i64 a2, .slice A3 R.length c3] 25)).alloc (.cells #[.pointer none, .slice none 0 0] 103)) := by
  have := BU_new (w.alloc (.cells #[.slice A0 l0.length c0, .slice A1 l1.length c1, .int .i64 a2, .slice A3 R.length c3] 25))
  rwa [World.size_alloc] at this
 have st1 : GS w cs ((w.alloc (.cells #[.slice A0 l0.length c0, .slice A1 l1.length c1, .int .i64 a2, .slice A3 R.length c3] 25)).alloc (.cells #[.pointer none, .slice none 0 0] 103)) := st.more ((Below.refl _ _).alloc (Nat.le_refl _) _)
 have kS : ∀ s ∈ l, ∀ W, GS w cs W → Calls Tryd.prog 19 #[.agg #[.slice A0 l0.length c0, .slice A1 l1.length c1, .int .i64 a2, .slice A3 R.length c3], .int .i64 s] W fun e w' => e = .returned (.string ⟨(P.symL l0 l1 s).toArray⟩) ∧ Below W.heap.size W w' := fun s hsl W hW =>
  Symbol_calls A0 c0 l0 A1 c1 l1 a2 A3 c3 R s m W (Kd.C_below hr0 hW.low) hc0 (Kd.C_below hr1 hW.low) hc1 (Kd.C_below hr3 hW.low) hc3 hm z0 z1 (hs s hsl).1 (hs s hsl).2
 have hlen : ∀ k, (P.symsL l0 l1 (l.take k)).length ≤ (4 * m + 5) * l.length := fun k => Nat.le_trans (P.symsL_length z0 z1 (l.take k)) (Nat.mul_le_mul_left _ (List.length_take_le' _ _))
 have hsl : ∀ s, (P.symL l0 l1 s).length ≤ 4 * m + 4 := fun s => P.symL_length z0 z1 s
 have KS := Aside0.mk kS
 have CE := Aside0.mk ce
 have HR := Aside0.mk hr
 have HL := Aside0.mk hlen
 have HSL := Aside0.mk hsl
 have ST1 := Aside0.mk st1
 have HB0 := Aside0.mk h1
 have HCS := Lib.hid hcs
 have HBB := Aside0.mk hb
 clear hr0 hr1 hr3 hr kS ce st st1 h1 z0 z1 hlen hsl hcs hs hb
 go_enter Tryd.func21, Tryd.ntmps21
 go_wp2_with fail
 go_loopw [6, 7, 10] (fun _ _ i wr => ∃ k : Nat, k ≤ l.length ∧ i = .int .i64 k ∧ Aside0 (BU (w.heap.size + 1) (w.heap.size + 1) (P.symsL l0 l1 (l.take k)) wr ∧ GS w cs wr)) (fun _ _ i _ => l.length - (intOf i).toNat)
 case atStart => exact ⟨0, Nat.zero_le _, rfl, ⟨HB0.out, ST1.out⟩⟩
 case round =>
  clear HB0 ST1
  obtain ⟨k, hk, rfl, tr⟩ := hrel
  by_cases hlt : k < l.length
  · have hbw : w.heap.size + 1 ≤ wr.heap.size := by have := BU_lt tr.out.1; omega
    obtain ⟨ad, rfl, hx⟩ := Kd.at_int (Kd.C_below HR.out tr.out.2.low) (k : Int) (by omega) (by omega)
    rw [Int.toNat_natCast, rd_D, getD_lt _ _ _ hlt] at hx
    have hmem := List.getElem_mem hlt
    have hsn : P.symsL l0 l1 (l.take (k + 1)) = P.symsL l0 l1 (l.take k) ++ (if l.take k = [] then [] else [32]) ++ P.symL l0 l1 l[k] := by
     rw [List.take_succ_eq_append_getElem hlt, P.symsL_snoc]
    have hln := HL.out (k + 1)
    rw [hsn, List.length_append, List.length_append] at hln
    have hbb := HBB.out
    have hcall := KS.out l[k] hmem
    generalize l[k] = x at hx hsn hln hcall
    have HSN := Lib.hid hsn
    have hln2 : (P.symsL l0 l1 (l.take k)).length + (if l.take k = [] then ([] : List UInt8) else [32]).length + (P.symL l0 l1 x).length ≤ 140737488355328 := by omega
    have HC := Aside0.mk hcall
    clear hsn hmem hln hcall hbb
    by_cases hk0 : k = 0
    · have hpre : l.take k = [] := by rw [hk0]; rfl
      rw [if_pos hpre, hpre] at hln2
      have hkd : decide (0 < (k : Int)) = false := decide_eq_false (by omega)
      have hkd' : decide (0 < k) = false := decide_eq_false (by omega)
      have HPRE := Lib.hid hpre
      clear hpre hk0
      obtain ⟨f0, f1, f2, f3⟩ := CE.out _ tr.out.2
      go_wp2_with (first
       | (go_at_call 19; (with_reducible refine (HC.out _ tr.out.2).mono ?_); rintro e w2 ⟨rfl, hb2⟩; have t2 : Aside0 (BU (w.heap.size + 1) (w.heap.size + 1) (P.symsL l0 l1 (l.take k)) w2 ∧ GS w cs w2) := ⟨BU_below tr.out.1 hb2, tr.out.2.more hb2⟩; have hsz2 := hb2.size; clear hb2)
       | (go_at_call 64; refine Aside0.out ?_))
      refine Aside0.mk ?_
      refine (wStr (w.heap.size + 1) (w.heap.size + 1) _ _ _ t2.out.1 (by rw [P.size_lit, HPRE.out]; exact hln2) (by omega)).mono ?_
      rintro e w4 ⟨rfl, hb4, hw4, _⟩
      have t4 : Aside0 (BU (w.heap.size + 1) (w.heap.size + 1) (P.symsL l0 l1 (l.take (k + 1))) w4 ∧ GS w cs w4) := ⟨by rw [HSN.out, if_pos HPRE.out, List.append_nil]; exact hb4, t2.out.2.base _ hw4 (by omega)⟩
      clear hb4 hw4
      go_wp2_with fail
      go_roundw
      case measure => simp [intOf]; omega
      case rel => exact ⟨k + 1, by omega, by go_num, t4⟩
    · have hpre : ¬ l.take k = [] := by
       intro h
       have := congrArg List.length h
       rw [List.length_take, List.length_nil] at this
       omega
      have hkp : 0 < k := by omega
      have hkd : decide (0 < (k : Int)) = true := decide_eq_true (by omega)
      have hkd' : decide (0 < k) = true := decide_eq_true hkp
      rw [if_neg hpre, List.length_singleton] at hln2
      have HPRE := Lib.hid hpre
      clear hpre
      go_wp2_with fail
      refine (wByteN (w.heap.size + 1) (w.heap.size + 1) _ 32 (by omega) _ tr.out.1 (by omega) (by omega)).mono ?_
      rintro e w1 ⟨rfl, hb1, hw1, _⟩
      have t1 : Aside0 (BU (w.heap.size + 1) (w.heap.size + 1) (P.symsL l0 l1 (l.take k) ++ [32]) w1 ∧ GS w cs w1) := ⟨hb1, tr.out.2.base _ hw1 (by omega)⟩
      have hsz1 := hw1.size
      clear hb1 hw1
      obtain ⟨f0, f1, f2, f3⟩ := CE.out _ t1.out.2
      go_wp2_with (first
       | (go_at_call 19; (with_reducible refine (HC.out _ t1.out.2).mono ?_); rintro e w2 ⟨rfl, hb2⟩; have t2 : Aside0 (BU (w.heap.size + 1) (w.heap.size + 1) (P.symsL l0 l1 (l.take k) ++ [32]) w2 ∧ GS w cs w2) := ⟨BU_below t1.out.1 hb2, t1.out.2.more hb2⟩; have hsz2 := hb2.size; clear hb2)
       | (go_at_call 64; refine Aside0.out ?_))
      refine Aside0.mk ?_
      refine (wStr (w.heap.size + 1) (w.heap.size + 1) _ _ _ t2.out.1 (by rw [P.size_lit, List.length_append, List.length_singleton]; omega) (by omega)).mono ?_
      rintro e w4 ⟨rfl, hb4, hw4, _⟩
      have t4 : Aside0 (BU (w.heap.size + 1) (w.heap.size + 1) (P.symsL l0 l1 (l.take (k + 1))) w4 ∧ GS w cs w4) := ⟨by rw [HSN.out, if_neg HPRE.out]; exact hb4, t2.out.2.base _ hw4 (by omega)⟩
      clear hb4 hw4
      go_wp2_with fail
      go_roundw
      case measure => simp [intOf]; omega
      case rel => exact ⟨k + 1, by omega, by go_num, t4⟩
  · have hkl : k = l.length := by omega
    have hbw : w.heap.size + 1 ≤ wr.heap.size := by have := BU_lt tr.out.1; omega
    go_wp2_with fail
    refine (wText (w.heap.size + 1) (w.heap.size + 1) _ _ tr.out.1 hbw).mono ?_
    rintro e w3 ⟨rfl, hw3⟩
    go_wp2
    go_ret
    subst hkl
    refine ⟨?_, (tr.out.2.base _ hw3 (by omega)).low⟩
    first | rfl | (rw [List.take_length]; rfl)
end Go.Proofs.YthjhaogfpdkhbaaDoor.Sh
/- append([]byte, s...), s a string, as one step of a region that draws its order. -/
namespace Go.Proofs.YthjhaogfpdkhbaaDoorW.PrintLast
open Go.RowKit YthjhaogfpdkhbaaDoorW.PrintWords

theorem print_append_str_step {P : Program} {ops : Array Oper} {o : Oper} {a : Act} {Q : Exit → Act → World → Prop} {K : Act → World → Prop} {w0 W : World} (base : Nat) (hw : Region.wanted o (yielded ops a.tmps) = true) (s x : Operand) (t u e : TypeId)
 (ho : o.op = .call { callee := .builtin .append, args := #[s, x], argTypes := #[t, u] })
 (ht : P.underlying t = some (.slice e)) (hu : P.underlying u = some .string) (hinfo : (P.info? e).map (fun i => (i.zero, i.size, i.bytes)) = some (some (.int .u8 0), 1, 1))
 (v : Value) (xs : List Int) (y : ByteArray) (hs : a.eval s = v) (hx : a.eval x = .string y)
 (HO : W.ownsRow base e 1 v xs.length (nums .u8 xs)) (HB : Below base w0 W) (hbase : base ≤ W.heap.size) (hl : xs.length + y.size ≤ 140737488355328)
 (h : ∀ v1 w1, w1.ownsRow base e 1 v1 (xs ++ bytesOf y).length (nums .u8 (xs ++ bytesOf y)) → Below base w0 w1 → W.grownBy w1 v.ownBlock → K (a.put o.dst v1) w1) :
 if Region.wanted o (yielded ops a.tmps) = true then Oper.wp P o a W K Q else K (a.put o.dst undef) W := by
 rw [if_pos hw]
 obtain ⟨i0, hi, hzz⟩ := Option.map_eq_some_iff.1 hinfo
 simp only [Prod.mk.injEq] at hzz
 obtain ⟨hz0, hz1, hz2⟩ := hzz
 obtain ⟨v', w', hr, h2, h3, h4⟩ := Lib.run_append_own_string (P := P) W base t u o.type e i0 ht hu hi hz0 hz1 hz2 v xs.length (nums .u8 xs) HO y (by simp only [maxLen]; omega) hl hbase
 unfold Oper.wp execOp
 simp only [ho, resolve, invoke, builtin, Sem.run_bind, Sem.run_pure, Result.andThen_ok, List.map_toArray, List.map_cons, List.map_nil, hs, hx, hr]
 have hl2 : (xs ++ bytesOf y).length = xs.length + y.size := by rw [List.length_append, bytesOf_length]
 have hc : nums .u8 (xs ++ bytesOf y) = nums .u8 xs ++ Lib.strCells y := by
  rw [nums_append]
  congr 1
  simp [nums, bytesOf, Lib.strCells]
 exact h v' w' (by rw [hl2, hc]; exact h2) (HB.grown h3 hbase (own_base HO)) h3
end Go.Proofs.YthjhaogfpdkhbaaDoorW.PrintLast
namespace Go.Proofs.YthjhaogfpdkhbaaDoor.D
open B (S52 z52 k52 k52_open rd_T52 at_T52 dovetailref03_Check.f dovetailref03_Check.calls dovetailref03_Check.mono dovetailref05_Symbol.f dovetailref05_Symbol.calls dovetailref05_Symbol.mono)
open Go.RowKit YthjhaogfpdkhbaaDoorW.PrintWords YthjhaogfpdkhbaaDoorW.PrintLast YthjhaogfpdkhbaaDoorW.PrintMore
attribute [local go_sem] max2_int min2_int max_two min_two max_three min_three max_four min_four   -- for this text's walks alone
set_option linter.unusedVariables false
set_option linter.unusedSimpArgs false



theorem info5 : (Tryd.prog.info? 5).map (fun i => (i.zero, i.size, i.bytes)) = some (some (.int .u8 0), 1, 1) := by kernel_rfl

end Go.Proofs.YthjhaogfpdkhbaaDoor.D
namespace Go.Proofs.YthjhaogfpdkhbaaDoor.D
open B (S52 z52 k52 k52_open rd_T52 at_T52 dovetailref03_Check.f dovetailref03_Check.calls dovetailref03_Check.mono dovetailref05_Symbol.f dovetailref05_Symbol.calls dovetailref05_Symbol.mono)
open Go.RowKit YthjhaogfpdkhbaaDoorW.PrintWords YthjhaogfpdkhbaaDoorW.PrintLast YthjhaogfpdkhbaaDoorW.PrintMore
attribute [local go_sem] max2_int min2_int max_two min_two max_three min_three max_four min_four   -- for this text's walks alone
set_option linter.unusedVariables false
set_option linter.unusedSimpArgs false

theorem i32_w (n : Int) : IntKind.i32.wrap n = Go.RowKit.wrap32 n := by unfold Go.RowKit.wrap32; exact IntKind.wrap_i32 n
def dovetailref05_Symbols.l0 : Nat → List Int → List Int → Int → List ByteArray → List ByteArray → Int → List (S52) → Option (ByteArray)
 | 0, _, _, _, _, _, _, _ => none
 | k + 1, x1, x5, x6, x107000, x107001, x107002, x107003 => if x6 < (x1.length : Int) then (if x6 > 0 then (if x5.length < 140737488355328 then ((some (x5 ++ [32] : List Int)).bind fun y107 => (if 0 ≤ x6 then ((dovetailref05_Symbol.f k x107000 x107001 x107002 x107003 (rd x1 x6)).bind fun t111 => (if y107.length + t111.size < 140737488355328 then (dovetailref05_Symbols.l0 k x1 (y107 ++ bytesOf t111) (wrap64 (x6 + 1)) x107000 x107001 x107002 x107003) else (none))) else (none))) else (none)) else (if 0 ≤ x6 then ((dovetailref05_Symbol.f k x107000 x107001 x107002 x107003 (rd x1 x6)).bind fun t116 => (if x5.length + t116.size < 140737488355328 then (dovetailref05_Symbols.l0 k x1 (x5 ++ bytesOf t116) (wrap64 (x6 + 1)) x107000 x107001 x107002 x107003) else (none))) else (none))) else (some (strOfNums x5))
def dovetailref05_Symbols.f (k : Nat) (l0_0 : List ByteArray) (l0_1 : List ByteArray) (a0_2 : Int) (l0_3 : List (S52)) (l1 : List Int) : Option (ByteArray) := dovetailref05_Symbols.l0 k l1 ([] : List Int) 0 l0_0 l0_1 a0_2 l0_3
theorem dovetailref05_Symbols.mono_l : ∀ k, (∀ y0 y1 y2 y3 y4 y5 y6, LeO (dovetailref05_Symbols.l0 k y0 y1 y2 y3 y4 y5 y6) (dovetailref05_Symbols.l0 (k + 1) y0 y1 y2 y3 y4 y5 y6))
 | 0 => fun _ _ _ _ _ _ _ r h => by simp [dovetailref05_Symbols.l0] at h
 | k + 1 => by
  have ih0 := dovetailref05_Symbols.mono_l k
  · intro y0 y1 y2 y3 y4 y5 y6
    unfold dovetailref05_Symbols.l0
    repeat' first
    | (with_reducible exact ih0 _ _ _ _ _ _ _)
    | (with_reducible exact dovetailref05_Symbol.mono _ _ _ _ _ _)
    | (with_reducible exact LeO.refl _)
    | (with_reducible exact LeO.none _)
    | (with_reducible refine LeO.ite ?_ ?_)
    | (with_reducible refine LeO.bind ?_ (fun _ => ?_))
    | exact ih0 _ _ _ _ _ _ _
    | exact dovetailref05_Symbol.mono _ _ _ _ _ _
    | exact LeO.none _
    | refine LeO.ite ?_ ?_
    | refine LeO.bind ?_ (fun _ => ?_)
theorem dovetailref05_Symbols.mono : ∀ a0 a1 a2 a3 a4 k, LeO (dovetailref05_Symbols.f k a0 a1 a2 a3 a4) (dovetailref05_Symbols.f (k + 1) a0 a1 a2 a3 a4) := by
 intro a0 a1 a2 a3 a4 k
 have ih0 := dovetailref05_Symbols.mono_l k
 unfold dovetailref05_Symbols.f
 repeat' first
  | (with_reducible exact ih0 _ _ _ _ _ _ _)
  | (with_reducible exact dovetailref05_Symbol.mono _ _ _ _ _ _)
  | (with_reducible exact LeO.refl _)
  | (with_reducible exact LeO.none _)
  | (with_reducible refine LeO.ite ?_ ?_)
  | (with_reducible refine LeO.bind ?_ (fun _ => ?_))
  | exact ih0 _ _ _ _ _ _ _
  | exact dovetailref05_Symbol.mono _ _ _ _ _ _
  | exact LeO.none _
  | refine LeO.ite ?_ ?_
  | refine LeO.bind ?_ (fun _ => ?_)
def dovetailref05_Symbols.T7 : Bool × List (List Nat × List Nat) := (true, [([], []), ([], []), ([], []), ([], []), ([2, 3], [2, 3]), ([4], [4]), ([1, 5], [1, 5]), ([0, 6, 6], [0, 6]), ([7, 7, 0, 1, 2, 3, 4, 5, 6, 7], [0, 7])])
def dovetailref05_Symbols.B7 : List Nat := [0, 0, 0, 0, 12, 28, 62, 127, 255]
theorem dovetailref05_Symbols.tab7 : rtab .any (opsOf Tryd.f22 7) = dovetailref05_Symbols.T7 := by kernel_rfl
theorem dovetailref05_Symbols.bits7 : waitsOk dovetailref05_Symbols.T7.2 dovetailref05_Symbols.B7 = true := by kernel_rfl
set_option maxHeartbeats 8000000 in
set_option maxRecDepth 100000 in
theorem dovetailref05_Symbols.calls (k : Nat) (A0_0 : Option Addr) (c0_0 : Nat) (l0_0 : List ByteArray) (A0_1 : Option Addr) (c0_1 : Nat) (l0_1 : List ByteArray) (a0_2 : Int) (A0_3 : Option Addr) (c0_3 : Nat) (l0_3 : List (S52)) (A1 : Option Addr) (c1 : Nat) (l1 : List Int) (r : ByteArray) (w : World) (hr0_0 : Kd.C Kd.string w A0_0 l0_0.length l0_0) (hc0_0 : l0_0.length ≤ c0_0) (hr0_1 : Kd.C Kd.string w A0_1 l0_1.length l0_1) (hc0_1 : l0_1.length ≤ c0_1) (hr0_3 : Kd.C k52 w A0_3 l0_3.length l0_3) (hc0_3 : l0_3.length ≤ c0_3) (hr1 : Kd.C (Kd.int .i64) w A1 l1.length l1) (hc1 : l1.length ≤ c1) (h : dovetailref05_Symbols.f k l0_0 l0_1 a0_2 l0_3 l1 = some r) :
 Calls Tryd.prog 22 #[.agg #[.slice A0_0 l0_0.length c0_0, .slice A0_1 l0_1.length c0_1, .int .i64 a0_2, .slice A0_3 l0_3.length c0_3], .slice A1 l1.length c1] w fun e w' => e = .returned (.string r) ∧ Below w.heap.size w w' := by
 have hu25 := Tryd.underlying25
 have HR0_0 := Aside0.mk hr0_0
 have HC0_0 := Aside0.mk hc0_0
 clear hr0_0 hc0_0
 have HR0_1 := Aside0.mk hr0_1
 have HC0_1 := Aside0.mk hc0_1
 clear hr0_1 hc0_1
 have HR0_3 := Aside0.mk hr0_3
 have HC0_3 := Aside0.mk hc0_3
 clear hr0_3 hc0_3
 have HR1 := Aside0.mk hr1
 have HC1 := Aside0.mk hc1
 clear hr1 hc1
 have HB := Aside0.mk (Below.refl w.heap.size w)
 have H : (dovetailref05_Symbols.l0 k l1 ([] : List Int) 0 l0_0 l0_1 a0_2 l0_3) = some r := h
 clear h
 have H' := Aside0.mk H
 clear H
 go_enter Tryd.func22, Tryd.ntmps22
 go_wp2_with (first | ((with_reducible refine gate_dst (N := 2) rfl ?_); refine box_event ?hg (N := 2) ?hd (cs := #[.slice A0_0 l0_0.length c0_0, .slice A0_1 l0_1.length c0_1, .int .i64 a0_2, .slice A0_3 l0_3.length c0_3]) (t := 25) ?hr ?_; (case hd => rfl); (case hg => rfl); (case hr => first | (go_simp; done) | (go_simp; rfl)); intro gb106 hg w3 hbox hb; have n0_ := Aside0.mk (below_step (by repeat (first | (with_reducible first | exact HB.out | apply below_alloc | apply pw_below_drewN | apply below_drew1) | exact HB.out)) hb); have n1_ := Aside0.mk (hbox); have n2_ := Aside0.mk ((by rw [hg]; exact (below_size (by repeat (first | (with_reducible first | exact HB.out | apply below_alloc | apply pw_below_drewN | apply below_drew1) | exact HB.out))) : w.heap.size ≤ gb106)); have n3_ := Aside0.mk ((by rw [hg]; exact (below_size (by repeat (first | (with_reducible first | exact HB.out | apply below_alloc | apply pw_below_drewN | apply below_drew1) | exact HB.out))) : w.heap.size ≤ gb106)); clear HB; have HB := n0_; have BK106 := n1_; have GW106 := n2_; have GE106 := n3_; clear n0_ n1_ n2_ n3_; clear hb hbox hg))
 go_loopg [5, 6] k (fun kq v5 v6 w' => ∃ (x5_1 : List Int) (x6_1 : Int), v6 = .int .i64 x6_1 ∧ Aside0 (dovetailref05_Symbols.l0 kq l1 x5_1 x6_1 l0_0 l0_1 a0_2 l0_3 = some r) ∧ Aside0 (kq ≤ k) ∧ Aside0 (Kd.R (Kd.int .u8) 5 w' w.heap.size (fun _ => True) v5 x5_1) ∧ Aside0 (w'.heap[gb106]? = some (.cells #[(.slice A0_0 l0_0.length c0_0), (.slice A0_1 l0_1.length c0_1), .int .i64 a0_2, (.slice A0_3 l0_3.length c0_3)] 25 (0, 0))) ∧ Aside0 (Below w.heap.size w w'))
 case atStart => exact ⟨(([] : List Int)), (0), (by first | rfl | (simp; done) | (simp [*]; done)), H', ⟨Nat.le_refl _⟩, ⟨by first | exact Kd.R_nil _ _ _ _ _ | exact Kd.N_nil _ _ _ _ _ | exact Kd.V_nil _ _ _ _ _ | exact Kd.Q_nil _ _ _ _ _ | exact Kd.S_nil _ _ _ _ _⟩, ⟨by (with_reducible repeat (first | refine blk_drewN ?_ _ | refine blk_drew ?_ | refine blk_alloc ?_ _)); exact BK106.out⟩, ⟨by repeat (first | (with_reducible first | exact HB.out | apply below_alloc | apply pw_below_drewN | apply below_drew1 | refine below_set ?_ GE106.out) | exact HB.out)⟩⟩
 case round =>
  clear H'
  try clear c1
  try clear c2
  try clear p2
  obtain ⟨x5_1, x6_1, rfl, HA, HK1, HO_5, BK106, HB⟩ := hrel
  cases gk with
  | zero => exact absurd HA.out (by simp [dovetailref05_Symbols.l0])
  | succ k1 =>
   have H := HA.out
   clear HA
   simp only [dovetailref05_Symbols.l0] at H
   by_cases c4 : x6_1 < (l1.length : Int)
   · rw [if_pos c4] at H
     have c4b0 : decide (x6_1 < (l1.length : Int)) = true := decide_eq_true c4
     clear c4
     by_cases c5 : x6_1 > 0
     · rw [if_pos c5] at H
       have c5b0 : decide (0 < x6_1) = true := decide_eq_true c5
       clear c5
       by_cases c6 : x5_1.length < 140737488355328
       · rw [if_pos c6] at H
         have LMc6 := Aside0.mk c6
         clear c6
         obtain ⟨y107, hy107⟩ : ∃ y_ : List Int, y_ = (x5_1 ++ [32]) := ⟨_, rfl⟩
         replace H : (if 0 ≤ x6_1 then ((dovetailref05_Symbol.f k1 l0_0 l0_1 a0_2 l0_3 (rd l1 x6_1)).bind fun t111 => (if y107.length + t111.size < 140737488355328 then (dovetailref05_Symbols.l0 k1 l1 (y107 ++ bytesOf t111) (wrap64 (x6_1 + 1)) l0_0 l0_1 a0_2 l0_3) else (none))) else (none)) = some r := by first | (rw [hy107]; with_reducible exact H) | (have H2_ := (Option.bind_some _ _).symm.trans H; rw [hy107]; with_reducible exact H2_) | (have H2_ := (Option.bind_some _ _).symm.trans H; with_reducible exact H2_) | with_reducible exact H | (rw [hy107]; exact H) | exact H
         have Ny107 := Aside0.mk hy107
         clear hy107
         by_cases c7 : 0 ≤ x6_1
         · rw [if_pos c7] at H
           have c7b0 : decide (0 ≤ x6_1) = true := decide_eq_true c7
           clear c7
           replace H := Option.bind_eq_some_iff.mp H
           obtain ⟨t111, A80, H⟩ := H
           replace H : (if y107.length + t111.size < 140737488355328 then (dovetailref05_Symbols.l0 k1 l1 (y107 ++ bytesOf t111) (wrap64 (x6_1 + 1)) l0_0 l0_1 a0_2 l0_3) else (none)) = some r := H
           have A8 := Aside0.mk A80
           clear A80
           by_cases c9 : y107.length + t111.size < 140737488355328
           · rw [if_pos c9] at H
             have LMc9 := Aside0.mk c9
             clear c9
             obtain ⟨y112, hy112⟩ : ∃ y_ : List Int, y_ = (y107 ++ bytesOf t111) := ⟨_, rfl⟩
             replace H : (dovetailref05_Symbols.l0 k1 l1 y112 (wrap64 (x6_1 + 1)) l0_0 l0_1 a0_2 l0_3) = some r := by first | (rw [hy112]; with_reducible exact H) | (have H2_ := (Option.bind_some _ _).symm.trans H; rw [hy112]; with_reducible exact H2_) | (have H2_ := (Option.bind_some _ _).symm.trans H; with_reducible exact H2_) | with_reducible exact H | (rw [hy112]; exact H) | exact H
             have Ny112 := Aside0.mk hy112
             clear hy112
             have H' := Aside0.mk H
             clear H
             try go_wp2_with (first | ((with_reducible refine gate_builtin (b := .append) (xs := #[.tmp 15, .tmp 16]) rfl ?_); at_builtin; refine Kd.R_append (Kd.int .u8) (w0 := w) w.heap.size rfl (.tmp 15) (.tmp 16) 101 5 (.int .u8 0) 1 rfl Tryd.underlying101 info5 rfl (by decide) (by omega) u5 x5_1 32 [.int .u8 32] (fun _ => True) (fun _ => False) rfl rfl ?aP (fun _ hk => hk.elim) ?aF ?aO ?aB ?aS ?aL ?_; (case aP => exact rfl); (case aB => exact (by repeat (first | (with_reducible first | exact HB.out | apply below_alloc | apply pw_below_drewN | apply below_drew1 | refine below_set ?_ GE106.out) | exact HB.out))); (case aF => exact (fun _ _ => trivial)); (case aO => exact (by (with_reducible repeat (first | apply Kd.R_alloc | apply Kd.R_drewN | apply Kd.R_drew)); exact HO_5.out)); (case aS => exact (below_size (by repeat (first | (with_reducible first | exact HB.out | apply below_alloc | apply pw_below_drewN | apply below_drew1 | refine below_set ?_ GE106.out) | exact HB.out)))); (case aL => have := LMc6.out; omega); intro v108 w10 ho hb hg hat; rw [← Ny107.out] at ho; have n0_ := Aside0.mk (blk_grown (g := gb106) (o := .cells #[.slice A0_0 l0_0.length c0_0, .slice A0_1 l0_1.length c0_1, .int .i64 a0_2, .slice A0_3 l0_3.length c0_3] 25 (0, 0)) (by (with_reducible repeat (first | refine blk_drewN ?_ _ | refine blk_drew ?_ | refine blk_alloc ?_ _)); exact BK106.out) hg (Kd.R_ne HO_5.out BK106.out (by decide))); have n1_ := Aside0.mk (hb); have n2_ := Aside0.mk (ho); clear BK106; clear HB; clear HO_5; have BK106 := n0_; have HB := n1_; have HO109 := n2_; clear n0_ n1_ n2_; clear ho hb hg hat))
             have n0_ := Aside0.mk (Kd.R_drew HO109.out)
             have n1_ := Aside0.mk (blk_drew BK106.out)
             have n2_ := Aside0.mk (below_drew1 HB.out)
             clear HO109
             clear BK106
             clear HB
             have HO109 := n0_
             have BK106 := n1_
             have HB := n2_
             clear n0_ n1_ n2_
             have p110 : 0 ≤ (x6_1 : Int) := of_decide_eq_true (by first | (with_reducible assumption) | assumption)
             have q110 : x6_1 < (l1.length : Int) := of_decide_eq_true (by first | (with_reducible assumption) | assumption)
             obtain ⟨ad110, e110, hx110_0⟩ := Kd.at_int HR1.out x6_1 p110 q110
             have hw110_0 := hx110_0
             cases e110
             replace hx110_0 := (HB.out.cell (World.block_lt_of_cell? w _ hx110_0)).trans hx110_0
             replace p110 := eq_true p110
             replace q110 := eq_true q110
             refine start_ (n := 9) (S := fun w' => w'.cell? ⟨gb106, 0, none⟩ = some (.slice A0_0 l0_0.length c0_0) ∧ w'.cell? ⟨gb106, 1, none⟩ = some (.slice A0_1 l0_1.length c0_1) ∧ w'.cell? ⟨gb106, 2, none⟩ = some (.int .i64 a0_2) ∧ w'.cell? ⟨gb106, 3, none⟩ = some (.slice A0_3 l0_3.length c0_3) ∧ w'.cell? (ad110.add (x6_1).toNat) = some (.int .i64 (rd l1 x6_1))) (ds := []) #[false, false, false, false, false, false, false, false, false] (by kernel_rfl) rfl rfl ⟨(blk_cell BK106.out 0).trans rfl, (blk_cell BK106.out 1).trans rfl, (blk_cell BK106.out 2).trans rfl, (blk_cell BK106.out 3).trans rfl, ((HB.out.cell (World.block_lt_of_cell? w _ hw110_0)).trans hw110_0)⟩ (fun hHeld => ?_); refine with_tabW dovetailref05_Symbols.tab7 dovetailref05_Symbols.bits7 (fun HT_ HW_ => ?_)
             generalize w10.drew = w11 at HO109 BK106 HB hx110_0 hHeld ⊢
             refine pure_ (i := 0) (N := some 18) (v := ?_) (a' := ?_) #[true, false, false, false, false, false, false, false, false] rfl rfl (any_of HT_.out (by kernel_rfl)) (fun _ _ _ h => h) (Or.inl ⟨by rfl, ?_⟩) ?_ ?_
             rotate_left
             · intro w'
               go_simp
               with_reducible rfl
             rotate_left
             · simp only [Act.put, List.setIfInBounds_toArray, List.set_cons_zero, List.set_cons_succ, i64_w, i32_w]
               rfl
             refine pure_ (i := 2) (N := some 20) (v := ?_) (a' := ?_) #[true, false, true, false, false, false, false, false, false] rfl rfl (any_of HT_.out (by kernel_rfl)) (fun _ _ _ h => h) (Or.inl ⟨by rfl, ?_⟩) ?_ ?_
             rotate_left
             · intro w'
               go_simp
               with_reducible rfl
             rotate_left
             · simp only [Act.put, List.setIfInBounds_toArray, List.set_cons_zero, List.set_cons_succ, i64_w, i32_w]
               rfl
             refine pure_ (i := 3) (N := some 21) (v := ?_) (a' := ?_) #[true, false, true, true, false, false, false, false, false] rfl rfl (any_of HT_.out (by kernel_rfl)) (fun _ _ _ h => h) (Or.inl ⟨by rfl, ?_⟩) ?_ ?_
             rotate_left
             · intro w'
               go_simp
               with_reducible rfl
             rotate_left
             · simp only [Act.put, List.setIfInBounds_toArray, List.set_cons_zero, List.set_cons_succ, i64_w, i32_w]
               rfl
             refine pure_ (i := 4) (N := some 22) (v := ?_) (a' := ?_) #[true, false, true, true, true, false, false, false, false] rfl rfl (any_of HT_.out (by kernel_rfl)) (fun _ _ _ h => h) (Or.inl ⟨by rfl, ?_⟩) ?_ ?_
             rotate_left
             · intro w'
               go_simp
               with_reducible rfl
             rotate_left
             · simp only [Act.put, List.setIfInBounds_toArray, List.set_cons_zero, List.set_cons_succ, i64_w, i32_w]
               rfl
             refine take_ (i := 1) (N := some 19) (v := ?_) (a' := ?_) #[true, true, true, true, true, false, false, false, false] rfl rfl (take_ofW HT_.out HW_.out (by kernel_rfl)) (fun _ _ _ h => h) (Or.inl ⟨by rfl, ?_⟩) hHeld ?_ ?_
             rotate_left
             · rintro w' ⟨s0, s1, s2, s3, s4⟩
               go_simp
               with_reducible rfl
             rotate_left
             · simp only [Act.put, List.setIfInBounds_toArray, List.set_cons_zero, List.set_cons_succ, i64_w, i32_w]
               rfl
             refine take_ (i := 5) (N := some 23) (v := ?_) (a' := ?_) #[true, true, true, true, true, true, false, false, false] rfl rfl (take_ofW HT_.out HW_.out (by kernel_rfl)) (fun _ _ _ h => h) (Or.inl ⟨by rfl, ?_⟩) hHeld ?_ ?_
             rotate_left
             · rintro w' ⟨s0, s1, s2, s3, s4⟩
               go_simp
               with_reducible rfl
             rotate_left
             · simp only [Act.put, List.setIfInBounds_toArray, List.set_cons_zero, List.set_cons_succ, i64_w, i32_w]
               rfl
             refine one_ (i := 6) (N := some 24) #[true, true, true, true, true, true, true, false, false] rfl rfl (one_of HT_.out (by kernel_rfl)) (by decide) (fun K hK => ?_)
             refine goes_ Tryd.func20 (by kernel_rfl) rfl #[.agg #[.slice A0_0 l0_0.length c0_0, .slice A0_1 l0_1.length c0_1, .int .i64 a0_2, .slice A0_3 l0_3.length c0_3], .int .i64 (rd l1 x6_1)] (by rfl) rfl rfl (by (try simp only [List.map_toArray, List.map_cons, List.map_nil]); first | done | rfl | (simp only [List.length_drop, List.length_take]; rfl)) ?_
             with_reducible refine (dovetailref05_Symbol.calls k1 _ _ l0_0 _ _ l0_1 a0_2 _ _ l0_3 (rd l1 x6_1) t111 _ ?side1 ?side2 ?side3 ?side4 ?side5 ?side6 A8.out).mono ?_
             (case side1 => repeat (first | exact (Kd.C_below HR0_0.out HB.out) | (with_reducible refine Kd.C_alloc ?_ _) | (with_reducible refine Kd.C_drewN ?_ _) | (with_reducible refine Kd.C_drew ?_)))
             (case side2 => exact HC0_0.out)
             (case side3 => repeat (first | exact (Kd.C_below HR0_1.out HB.out) | (with_reducible refine Kd.C_alloc ?_ _) | (with_reducible refine Kd.C_drewN ?_ _) | (with_reducible refine Kd.C_drew ?_)))
             (case side4 => exact HC0_1.out)
             (case side5 => repeat (first | exact (Kd.C_below HR0_3.out HB.out) | (with_reducible refine Kd.C_alloc ?_ _) | (with_reducible refine Kd.C_drewN ?_ _) | (with_reducible refine Kd.C_drew ?_)))
             (case side6 => exact HC0_3.out)
             rintro e w12 ⟨rfl, hb⟩
             refine ⟨_, rfl, ?_⟩
             have n0_ := Aside0.mk (Kd.R_below (by (with_reducible repeat (first | apply Kd.R_alloc | apply Kd.R_drewN | apply Kd.R_drew)); exact HO109.out) hb)
             have n1_ := Aside0.mk (blk_below (g := gb106) (o := .cells #[.slice A0_0 l0_0.length c0_0, .slice A0_1 l0_1.length c0_1, .int .i64 a0_2, .slice A0_3 l0_3.length c0_3] 25 (0, 0)) (by (with_reducible repeat (first | refine blk_drewN ?_ _ | refine blk_drew ?_ | refine blk_alloc ?_ _)); exact BK106.out) hb)
             have n2_ := Aside0.mk (below_step (by repeat (first | (with_reducible first | exact HB.out | apply below_alloc | apply pw_below_drewN | apply below_drew1 | refine below_set ?_ GE106.out) | exact HB.out)) hb)
             clear HO109
             clear BK106
             clear HB
             have HO109 := n0_
             have BK106 := n1_
             have HB := n2_
             clear n0_ n1_ n2_
             (try clear hb)
             (try clear hb2)
             (try clear hk)
             (try clear hi)
             refine hK.out _ _ ⟨(blk_cell BK106.out 0).trans rfl, (blk_cell BK106.out 1).trans rfl, (blk_cell BK106.out 2).trans rfl, (blk_cell BK106.out 3).trans rfl, ((HB.out.cell (World.block_lt_of_cell? w _ hw110_0)).trans hw110_0)⟩ (fun hHeld => ?_)
             clear hK K
             refine norm_ (a' := ?_) ?_ ?_
             rotate_left
             · show Act.put _ (some 24) _ = _
               simp only [Act.put, List.setIfInBounds_toArray, List.set_cons_zero, List.set_cons_succ, i64_w, i32_w]
               rfl
             refine one_ (i := 7) (N := some 25) #[true, true, true, true, true, true, true, true, false] rfl rfl (one_of HT_.out (by kernel_rfl)) (by decide) (fun K hK => ?_)
             refine print_append_str_step (w0 := w) w.heap.size (by rfl) (.tmp 18) _ 101 9 5 rfl Tryd.underlying101 Tryd.underlying9 info5 v108 y107 t111 rfl rfl ?aO ?aB ?aS ?aL ?_
             (case aB => exact (by repeat (first | (with_reducible first | exact HB.out | apply below_alloc | apply pw_below_drewN | apply below_drew1 | refine below_set ?_ GE106.out) | exact HB.out)))
             (case aO => exact (Kd.own_of_R (by (with_reducible repeat (first | apply Kd.R_alloc | apply Kd.R_drewN | apply Kd.R_drew)); exact HO109.out)))
             (case aS => exact (below_size (by repeat (first | (with_reducible first | exact HB.out | apply below_alloc | apply pw_below_drewN | apply below_drew1 | refine below_set ?_ GE106.out) | exact HB.out))))
             (case aL => have := LMc9.out; omega)
             intro v113 w13 ho0 hb hg
             have ho := Kd.R_of_own (h1 := fun _ => rfl) (ok := fun _ => True) ho0 (fun _ _ => trivial)
             clear ho0
             have hat := True.intro
             rw [← Ny112.out] at ho
             change Kd.R (Kd.int .u8) 5 w13 w.heap.size (fun _ => True) v113 y112 at ho
             have n0_ := Aside0.mk (blk_grown (g := gb106) (o := .cells #[.slice A0_0 l0_0.length c0_0, .slice A0_1 l0_1.length c0_1, .int .i64 a0_2, .slice A0_3 l0_3.length c0_3] 25 (0, 0)) (by (with_reducible repeat (first | refine blk_drewN ?_ _ | refine blk_drew ?_ | refine blk_alloc ?_ _)); exact BK106.out) hg (Kd.R_ne HO109.out BK106.out (by decide)))
             have n1_ := Aside0.mk (hb)
             have n2_ := Aside0.mk (ho)
             clear BK106
             clear HB
             clear HO109
             have BK106 := n0_
             have HB := n1_
             have HO114 := n2_
             clear n0_ n1_ n2_
             clear ho hb hg hat
             refine hK.out _ _ ⟨(blk_cell BK106.out 0).trans rfl, (blk_cell BK106.out 1).trans rfl, (blk_cell BK106.out 2).trans rfl, (blk_cell BK106.out 3).trans rfl, ((HB.out.cell (World.block_lt_of_cell? w _ hw110_0)).trans hw110_0)⟩ (fun hHeld => ?_)
             clear hK K
             refine norm_ (a' := ?_) ?_ ?_
             rotate_left
             · show Act.put _ (some 25) _ = _
               simp only [Act.put, List.setIfInBounds_toArray, List.set_cons_zero, List.set_cons_succ, i64_w, i32_w]
               rfl
             refine pure_ (i := 8) (N := some 5) (v := ?_) (a' := ?_) #[true, true, true, true, true, true, true, true, true] rfl rfl (any_of HT_.out (by kernel_rfl)) (fun _ _ _ h => h) (Or.inl ⟨by rfl, ?_⟩) ?_ ?_
             rotate_left
             · intro w'
               go_simp
               with_reducible rfl
             rotate_left
             · simp only [Act.put, List.setIfInBounds_toArray, List.set_cons_zero, List.set_cons_succ, i64_w, i32_w]
               rfl
             refine done_ (done_of HT_.out (by kernel_rfl)) ?_
             try go_wp2
             go_roundg k1
             case measure => have := HK1.out; omega
             case rel => exact ⟨(y112), (wrap64 (x6_1 + 1)), (by first | rfl | (simp; done) | (simp [*]; done)), H', ⟨by have := HK1.out; omega⟩, ⟨by (with_reducible repeat (first | apply Kd.R_alloc | apply Kd.R_drewN | apply Kd.R_drew)); exact HO114.out⟩, ⟨by (with_reducible repeat (first | refine blk_drewN ?_ _ | refine blk_drew ?_ | refine blk_alloc ?_ _)); exact BK106.out⟩, ⟨by repeat (first | (with_reducible first | exact HB.out | apply below_alloc | apply pw_below_drewN | apply below_drew1 | refine below_set ?_ GE106.out) | exact HB.out)⟩⟩
           · rw [if_neg c9] at H
             exact absurd H (by simp)
         · rw [if_neg c7] at H
           exact absurd H (by simp)
       · rw [if_neg c6] at H
         exact absurd H (by simp)
     · rw [if_neg c5] at H
       have c5b0 : decide (0 < x6_1) = false := decide_eq_false c5
       clear c5
       by_cases c14 : 0 ≤ x6_1
       · rw [if_pos c14] at H
         have c14b0 : decide (0 ≤ x6_1) = true := decide_eq_true c14
         clear c14
         replace H := Option.bind_eq_some_iff.mp H
         obtain ⟨t116, A150, H⟩ := H
         replace H : (if x5_1.length + t116.size < 140737488355328 then (dovetailref05_Symbols.l0 k1 l1 (x5_1 ++ bytesOf t116) (wrap64 (x6_1 + 1)) l0_0 l0_1 a0_2 l0_3) else (none)) = some r := H
         have A15 := Aside0.mk A150
         clear A150
         by_cases c16 : x5_1.length + t116.size < 140737488355328
         · rw [if_pos c16] at H
           have LMc16 := Aside0.mk c16
           clear c16
           obtain ⟨y117, hy117⟩ : ∃ y_ : List Int, y_ = (x5_1 ++ bytesOf t116) := ⟨_, rfl⟩
           replace H : (dovetailref05_Symbols.l0 k1 l1 y117 (wrap64 (x6_1 + 1)) l0_0 l0_1 a0_2 l0_3) = some r := by first | (rw [hy117]; with_reducible exact H) | (have H2_ := (Option.bind_some _ _).symm.trans H; rw [hy117]; with_reducible exact H2_) | (have H2_ := (Option.bind_some _ _).symm.trans H; with_reducible exact H2_) | with_reducible exact H | (rw [hy117]; exact H) | exact H
           have Ny117 := Aside0.mk hy117
           clear hy117
           have H' := Aside0.mk H
           clear H
           try go_wp2
           have n0_ := Aside0.mk (Kd.R_drew HO_5.out)
           have n1_ := Aside0.mk (blk_drew BK106.out)
           have n2_ := Aside0.mk (below_drew1 HB.out)
           clear HO_5
           clear BK106
           clear HB
           have HO_5 := n0_
           have BK106 := n1_
           have HB := n2_
           clear n0_ n1_ n2_
           have p115 : 0 ≤ (x6_1 : Int) := of_decide_eq_true (by first | (with_reducible assumption) | assumption)
           have q115 : x6_1 < (l1.length : Int) := of_decide_eq_true (by first | (with_reducible assumption) | assumption)
           obtain ⟨ad115, e115, hx115_0⟩ := Kd.at_int HR1.out x6_1 p115 q115
           have hw115_0 := hx115_0
           cases e115
           replace hx115_0 := (HB.out.cell (World.block_lt_of_cell? w _ hx115_0)).trans hx115_0
           replace p115 := eq_true p115
           replace q115 := eq_true q115
           refine start_ (n := 9) (S := fun w' => w'.cell? ⟨gb106, 0, none⟩ = some (.slice A0_0 l0_0.length c0_0) ∧ w'.cell? ⟨gb106, 1, none⟩ = some (.slice A0_1 l0_1.length c0_1) ∧ w'.cell? ⟨gb106, 2, none⟩ = some (.int .i64 a0_2) ∧ w'.cell? ⟨gb106, 3, none⟩ = some (.slice A0_3 l0_3.length c0_3) ∧ w'.cell? (ad115.add (x6_1).toNat) = some (.int .i64 (rd l1 x6_1))) (ds := []) #[false, false, false, false, false, false, false, false, false] (by kernel_rfl) rfl rfl ⟨(blk_cell BK106.out 0).trans rfl, (blk_cell BK106.out 1).trans rfl, (blk_cell BK106.out 2).trans rfl, (blk_cell BK106.out 3).trans rfl, ((HB.out.cell (World.block_lt_of_cell? w _ hw115_0)).trans hw115_0)⟩ (fun hHeld => ?_); refine with_tabW dovetailref05_Symbols.tab7 dovetailref05_Symbols.bits7 (fun HT_ HW_ => ?_)
           generalize wr.drew = w17 at HO_5 BK106 HB hx115_0 hHeld ⊢
           refine pure_ (i := 0) (N := some 18) (v := ?_) (a' := ?_) #[true, false, false, false, false, false, false, false, false] rfl rfl (any_of HT_.out (by kernel_rfl)) (fun _ _ _ h => h) (Or.inl ⟨by rfl, ?_⟩) ?_ ?_
           rotate_left
           · intro w'
             go_simp
             with_reducible rfl
           rotate_left
           · simp only [Act.put, List.setIfInBounds_toArray, List.set_cons_zero, List.set_cons_succ, i64_w, i32_w]
             rfl
           refine pure_ (i := 2) (N := some 20) (v := ?_) (a' := ?_) #[true, false, true, false, false, false, false, false, false] rfl rfl (any_of HT_.out (by kernel_rfl)) (fun _ _ _ h => h) (Or.inl ⟨by rfl, ?_⟩) ?_ ?_
           rotate_left
           · intro w'
             go_simp
             with_reducible rfl
           rotate_left
           · simp only [Act.put, List.setIfInBounds_toArray, List.set_cons_zero, List.set_cons_succ, i64_w, i32_w]
             rfl
           refine pure_ (i := 3) (N := some 21) (v := ?_) (a' := ?_) #[true, false, true, true, false, false, false, false, false] rfl rfl (any_of HT_.out (by kernel_rfl)) (fun _ _ _ h => h) (Or.inl ⟨by rfl, ?_⟩) ?_ ?_
           rotate_left
           · intro w'
             go_simp
             with_reducible rfl
           rotate_left
           · simp only [Act.put, List.setIfInBounds_toArray, List.set_cons_zero, List.set_cons_succ, i64_w, i32_w]
             rfl
           refine pure_ (i := 4) (N := some 22) (v := ?_) (a' := ?_) #[true, false, true, true, true, false, false, false, false] rfl rfl (any_of HT_.out (by kernel_rfl)) (fun _ _ _ h => h) (Or.inl ⟨by rfl, ?_⟩) ?_ ?_
           rotate_left
           · intro w'
             go_simp
             with_reducible rfl
           rotate_left
           · simp only [Act.put, List.setIfInBounds_toArray, List.set_cons_zero, List.set_cons_succ, i64_w, i32_w]
             rfl
           refine take_ (i := 1) (N := some 19) (v := ?_) (a' := ?_) #[true, true, true, true, true, false, false, false, false] rfl rfl (take_ofW HT_.out HW_.out (by kernel_rfl)) (fun _ _ _ h => h) (Or.inl ⟨by rfl, ?_⟩) hHeld ?_ ?_
           rotate_left
           · rintro w' ⟨s0, s1, s2, s3, s4⟩
             go_simp
             with_reducible rfl
           rotate_left
           · simp only [Act.put, List.setIfInBounds_toArray, List.set_cons_zero, List.set_cons_succ, i64_w, i32_w]
             rfl
           refine take_ (i := 5) (N := some 23) (v := ?_) (a' := ?_) #[true, true, true, true, true, true, false, false, false] rfl rfl (take_ofW HT_.out HW_.out (by kernel_rfl)) (fun _ _ _ h => h) (Or.inl ⟨by rfl, ?_⟩) hHeld ?_ ?_
           rotate_left
           · rintro w' ⟨s0, s1, s2, s3, s4⟩
             go_simp
             with_reducible rfl
           rotate_left
           · simp only [Act.put, List.setIfInBounds_toArray, List.set_cons_zero, List.set_cons_succ, i64_w, i32_w]
             rfl
           refine one_ (i := 6) (N := some 24) #[true, true, true, true, true, true, true, false, false] rfl rfl (one_of HT_.out (by kernel_rfl)) (by decide) (fun K hK => ?_)
           refine goes_ Tryd.func20 (by kernel_rfl) rfl #[.agg #[.slice A0_0 l0_0.length c0_0, .slice A0_1 l0_1.length c0_1, .int .i64 a0_2, .slice A0_3 l0_3.length c0_3], .int .i64 (rd l1 x6_1)] (by rfl) rfl rfl (by (try simp only [List.map_toArray, List.map_cons, List.map_nil]); first | done | rfl | (simp only [List.length_drop, List.length_take]; rfl)) ?_
           with_reducible refine (dovetailref05_Symbol.calls k1 _ _ l0_0 _ _ l0_1 a0_2 _ _ l0_3 (rd l1 x6_1) t116 _ ?side1 ?side2 ?side3 ?side4 ?side5 ?side6 A15.out).mono ?_
           (case side1 => repeat (first | exact (Kd.C_below HR0_0.out HB.out) | (with_reducible refine Kd.C_alloc ?_ _) | (with_reducible refine Kd.C_drewN ?_ _) | (with_reducible refine Kd.C_drew ?_)))
           (case side2 => exact HC0_0.out)
           (case side3 => repeat (first | exact (Kd.C_below HR0_1.out HB.out) | (with_reducible refine Kd.C_alloc ?_ _) | (with_reducible refine Kd.C_drewN ?_ _) | (with_reducible refine Kd.C_drew ?_)))
           (case side4 => exact HC0_1.out)
           (case side5 => repeat (first | exact (Kd.C_below HR0_3.out HB.out) | (with_reducible refine Kd.C_alloc ?_ _) | (with_reducible refine Kd.C_drewN ?_ _) | (with_reducible refine Kd.C_drew ?_)))
           (case side6 => exact HC0_3.out)
           rintro e w18 ⟨rfl, hb⟩
           refine ⟨_, rfl, ?_⟩
           have n0_ := Aside0.mk (Kd.R_below (by (with_reducible repeat (first | apply Kd.R_alloc | apply Kd.R_drewN | apply Kd.R_drew)); exact HO_5.out) hb)
           have n1_ := Aside0.mk (blk_below (g := gb106) (o := .cells #[.slice A0_0 l0_0.length c0_0, .slice A0_1 l0_1.length c0_1, .int .i64 a0_2, .slice A0_3 l0_3.length c0_3] 25 (0, 0)) (by (with_reducible repeat (first | refine blk_drewN ?_ _ | refine blk_drew ?_ | refine blk_alloc ?_ _)); exact BK106.out) hb)
           have n2_ := Aside0.mk (below_step (by repeat (first | (with_reducible first | exact HB.out | apply below_alloc | apply pw_below_drewN | apply below_drew1 | refine below_set ?_ GE106.out) | exact HB.out)) hb)
           clear HO_5
           clear BK106
           clear HB
           have HO_5 := n0_
           have BK106 := n1_
           have HB := n2_
           clear n0_ n1_ n2_
           (try clear hb)
           (try clear hb2)
           (try clear hk)
           (try clear hi)
           refine hK.out _ _ ⟨(blk_cell BK106.out 0).trans rfl, (blk_cell BK106.out 1).trans rfl, (blk_cell BK106.out 2).trans rfl, (blk_cell BK106.out 3).trans rfl, ((HB.out.cell (World.block_lt_of_cell? w _ hw115_0)).trans hw115_0)⟩ (fun hHeld => ?_)
           clear hK K
           refine norm_ (a' := ?_) ?_ ?_
           rotate_left
           · show Act.put _ (some 24) _ = _
             simp only [Act.put, List.setIfInBounds_toArray, List.set_cons_zero, List.set_cons_succ, i64_w, i32_w]
             rfl
           refine one_ (i := 7) (N := some 25) #[true, true, true, true, true, true, true, true, false] rfl rfl (one_of HT_.out (by kernel_rfl)) (by decide) (fun K hK => ?_)
           refine print_append_str_step (w0 := w) w.heap.size (by rfl) (.tmp 18) _ 101 9 5 rfl Tryd.underlying101 Tryd.underlying9 info5 u5 x5_1 t116 rfl rfl ?aO ?aB ?aS ?aL ?_
           (case aB => exact (by repeat (first | (with_reducible first | exact HB.out | apply below_alloc | apply pw_below_drewN | apply below_drew1 | refine below_set ?_ GE106.out) | exact HB.out)))
           (case aO => exact (Kd.own_of_R (by (with_reducible repeat (first | apply Kd.R_alloc | apply Kd.R_drewN | apply Kd.R_drew)); exact HO_5.out)))
           (case aS => exact (below_size (by repeat (first | (with_reducible first | exact HB.out | apply below_alloc | apply pw_below_drewN | apply below_drew1 | refine below_set ?_ GE106.out) | exact HB.out))))
           (case aL => have := LMc16.out; omega)
           intro v118 w19 ho0 hb hg
           have ho := Kd.R_of_own (h1 := fun _ => rfl) (ok := fun _ => True) ho0 (fun _ _ => trivial)
           clear ho0
           have hat := True.intro
           rw [← Ny117.out] at ho
           change Kd.R (Kd.int .u8) 5 w19 w.heap.size (fun _ => True) v118 y117 at ho
           have n0_ := Aside0.mk (blk_grown (g := gb106) (o := .cells #[.slice A0_0 l0_0.length c0_0, .slice A0_1 l0_1.length c0_1, .int .i64 a0_2, .slice A0_3 l0_3.length c0_3] 25 (0, 0)) (by (with_reducible repeat (first | refine blk_drewN ?_ _ | refine blk_drew ?_ | refine blk_alloc ?_ _)); exact BK106.out) hg (Kd.R_ne HO_5.out BK106.out (by decide)))
           have n1_ := Aside0.mk (hb)
           have n2_ := Aside0.mk (ho)
           clear BK106
           clear HB
           clear HO_5
           have BK106 := n0_
           have HB := n1_
           have HO119 := n2_
           clear n0_ n1_ n2_
           clear ho hb hg hat
           refine hK.out _ _ ⟨(blk_cell BK106.out 0).trans rfl, (blk_cell BK106.out 1).trans rfl, (blk_cell BK106.out 2).trans rfl, (blk_cell BK106.out 3).trans rfl, ((HB.out.cell (World.block_lt_of_cell? w _ hw115_0)).trans hw115_0)⟩ (fun hHeld => ?_)
           clear hK K
           refine norm_ (a' := ?_) ?_ ?_
           rotate_left
           · show Act.put _ (some 25) _ = _
             simp only [Act.put, List.setIfInBounds_toArray, List.set_cons_zero, List.set_cons_succ, i64_w, i32_w]
             rfl
           refine pure_ (i := 8) (N := some 5) (v := ?_) (a' := ?_) #[true, true, true, true, true, true, true, true, true] rfl rfl (any_of HT_.out (by kernel_rfl)) (fun _ _ _ h => h) (Or.inl ⟨by rfl, ?_⟩) ?_ ?_
           rotate_left
           · intro w'
             go_simp
             with_reducible rfl
           rotate_left
           · simp only [Act.put, List.setIfInBounds_toArray, List.set_cons_zero, List.set_cons_succ, i64_w, i32_w]
             rfl
           refine done_ (done_of HT_.out (by kernel_rfl)) ?_
           try go_wp2
           go_roundg k1
           case measure => have := HK1.out; omega
           case rel => exact ⟨(y117), (wrap64 (x6_1 + 1)), (by first | rfl | (simp; done) | (simp [*]; done)), H', ⟨by have := HK1.out; omega⟩, ⟨by (with_reducible repeat (first | apply Kd.R_alloc | apply Kd.R_drewN | apply Kd.R_drew)); exact HO119.out⟩, ⟨by (with_reducible repeat (first | refine blk_drewN ?_ _ | refine blk_drew ?_ | refine blk_alloc ?_ _)); exact BK106.out⟩, ⟨by repeat (first | (with_reducible first | exact HB.out | apply below_alloc | apply pw_below_drewN | apply below_drew1 | refine below_set ?_ GE106.out) | exact HB.out)⟩⟩
         · rw [if_neg c16] at H
           exact absurd H (by simp)
       · rw [if_neg c14] at H
         exact absurd H (by simp)
   · rw [if_neg c4] at H
     have c4b0 : decide (x6_1 < (l1.length : Int)) = false := decide_eq_false c4
     clear c4
     obtain rfl := Option.some.inj H
     have hcv20 := own_string (P := Tryd.prog) Tryd.underlying101 Tryd.underlying5 Tryd.underlying9 (Kd.own_of_R HO_5.out)
     go_wp2
     go_ret
     exact ⟨by first | rfl | (simp [errW_none, errW_some] <;> rfl) | (simp [*, errW_none, errW_some] <;> rfl), by repeat (first | (with_reducible first | exact HB.out | apply below_alloc | apply pw_below_drewN | apply below_drew1 | refine below_set ?_ GE106.out) | exact HB.out)⟩

end Go.Proofs.YthjhaogfpdkhbaaDoor.D
namespace Go.Proofs.YthjhaogfpdkhbaaDoor.D
open B (S52 z52 k52 k52_open rd_T52 at_T52 dovetailref03_Check.f dovetailref03_Check.calls dovetailref03_Check.mono dovetailref05_Symbol.f dovetailref05_Symbol.calls dovetailref05_Symbol.mono)
open Go.RowKit YthjhaogfpdkhbaaDoorW.PrintWords YthjhaogfpdkhbaaDoorW.PrintLast YthjhaogfpdkhbaaDoorW.PrintMore
attribute [local go_sem] max2_int min2_int max_two min_two max_three min_three max_four min_four   -- for this text's walks alone
set_option linter.unusedVariables false
set_option linter.unusedSimpArgs false

def dovetailref05_Rule.j0 : Nat → Int → Bool → List ByteArray → List ByteArray → Int → List (S52) → Option (ByteArray × Int)
 | 0, _, _, _, _, _, _ => none
 | k + 1, x1, x25, x121000, x121001, x121002, x121003 => if x25 = true then (some ((⟨#[]⟩ : ByteArray), 1)) else (if 0 ≤ x1 then (if x1 < (x121003.length : Int) then ((dovetailref05_Symbol.f k x121000 x121001 x121002 x121003 (wrap64 ((-1) - ((rd_T52 x121003 x1).f0)))).bind fun t124 => (if t124.size + 2 ≤ 9223372036854775807 then (if (((rd_T52 x121003 x1).f1).length : Int) > 0 then (if (t124 ++ (⟨#[32, 58]⟩ : ByteArray)).size + 1 ≤ 9223372036854775807 then ((dovetailref05_Symbols.f k x121000 x121001 x121002 x121003 ((rd_T52 x121003 x1).f1)).bind fun t127 => (if ((t124 ++ (⟨#[32, 58]⟩ : ByteArray)) ++ (⟨#[32]⟩ : ByteArray)).size + t127.size ≤ 9223372036854775807 then (some (((t124 ++ (⟨#[32, 58]⟩ : ByteArray)) ++ (⟨#[32]⟩ : ByteArray)) ++ t127, 0)) else (none))) else (none)) else (some (t124 ++ (⟨#[32, 58]⟩ : ByteArray), 0))) else (none))) else (none)) else (none))
def dovetailref05_Rule.f (k : Nat) (l0_0 : List ByteArray) (l0_1 : List ByteArray) (a0_2 : Int) (l0_3 : List (S52)) (a1 : Int) : Option (ByteArray × Int) := (dovetailref03_Check.f k l0_0 l0_1 a0_2 l0_3).bind fun bt121 => (if bt121.1 = 0 then (if a1 < 0 then (dovetailref05_Rule.j0 k a1 true l0_0 l0_1 a0_2 l0_3) else (dovetailref05_Rule.j0 k a1 (decide (a1 ≥ (l0_3.length : Int))) l0_0 l0_1 a0_2 l0_3)) else (some ((⟨#[]⟩ : ByteArray), bt121.1)))
theorem dovetailref05_Rule.mono_l : ∀ k, (∀ y0 y1 y2 y3 y4 y5, LeO (dovetailref05_Rule.j0 k y0 y1 y2 y3 y4 y5) (dovetailref05_Rule.j0 (k + 1) y0 y1 y2 y3 y4 y5))
 | 0 => fun _ _ _ _ _ _ r h => by simp [dovetailref05_Rule.j0] at h
 | k + 1 => by
  have ih0 := dovetailref05_Rule.mono_l k
  · intro y0 y1 y2 y3 y4 y5
    unfold dovetailref05_Rule.j0
    repeat' first
    | (with_reducible exact ih0 _ _ _ _ _ _)
    | (with_reducible exact dovetailref03_Check.mono _ _ _ _ _)
    | (with_reducible exact dovetailref05_Symbol.mono _ _ _ _ _ _)
    | (with_reducible exact dovetailref05_Symbols.mono _ _ _ _ _ _)
    | (with_reducible exact LeO.refl _)
    | (with_reducible exact LeO.none _)
    | (with_reducible refine LeO.ite ?_ ?_)
    | (with_reducible refine LeO.bind ?_ (fun _ => ?_))
    | exact ih0 _ _ _ _ _ _
    | exact dovetailref03_Check.mono _ _ _ _ _
    | exact dovetailref05_Symbol.mono _ _ _ _ _ _
    | exact dovetailref05_Symbols.mono _ _ _ _ _ _
    | exact LeO.none _
    | refine LeO.ite ?_ ?_
    | refine LeO.bind ?_ (fun _ => ?_)
theorem dovetailref05_Rule.mono : ∀ a0 a1 a2 a3 a4 k, LeO (dovetailref05_Rule.f k a0 a1 a2 a3 a4) (dovetailref05_Rule.f (k + 1) a0 a1 a2 a3 a4) := by
 intro a0 a1 a2 a3 a4 k
 have ih0 := dovetailref05_Rule.mono_l k
 unfold dovetailref05_Rule.f
 repeat' first
  | (with_reducible exact ih0 _ _ _ _ _ _)
  | (with_reducible exact dovetailref03_Check.mono _ _ _ _ _)
  | (with_reducible exact dovetailref05_Symbol.mono _ _ _ _ _ _)
  | (with_reducible exact dovetailref05_Symbols.mono _ _ _ _ _ _)
  | (with_reducible exact LeO.refl _)
  | (with_reducible exact LeO.none _)
  | (with_reducible refine LeO.ite ?_ ?_)
  | (with_reducible refine LeO.bind ?_ (fun _ => ?_))
  | exact ih0 _ _ _ _ _ _
  | exact dovetailref03_Check.mono _ _ _ _ _
  | exact dovetailref05_Symbol.mono _ _ _ _ _ _
  | exact dovetailref05_Symbols.mono _ _ _ _ _ _
  | exact LeO.none _
  | refine LeO.ite ?_ ?_
  | refine LeO.bind ?_ (fun _ => ?_)
def dovetailref05_Rule.T6 : Bool × List (List Nat × List Nat) := (true, [([], []), ([], []), ([1], [1]), ([], []), ([2, 3], [2, 3]), ([4], [4]), ([5], [5]), ([6], [6]), ([0, 7], [0, 7]), ([8], [8]), ([9, 8, 0, 1, 2, 3, 4, 5, 6, 7, 8, 9], [9])])
def dovetailref05_Rule.B6 : List Nat := [0, 0, 2, 0, 14, 30, 62, 126, 255, 511, 1023]
theorem dovetailref05_Rule.tab6 : rtab .any (opsOf Tryd.f18 6) = dovetailref05_Rule.T6 := by kernel_rfl
theorem dovetailref05_Rule.bits6 : waitsOk dovetailref05_Rule.T6.2 dovetailref05_Rule.B6 = true := by kernel_rfl
def dovetailref05_Rule.T8 : Bool × List (List Nat × List Nat) := (true, [([], []), ([0], [0]), ([], []), ([], []), ([3], [3]), ([], []), ([4, 5], [4, 5]), ([6], [6]), ([7], [7]), ([2, 8], [2, 8]), ([1, 9], [1, 9]), ([10, 9, 0, 1, 2, 3, 4, 5, 6, 7, 8, 9, 10], [0, 10])])
def dovetailref05_Rule.B8 : List Nat := [0, 1, 0, 0, 8, 0, 56, 120, 248, 508, 1023, 2047]
theorem dovetailref05_Rule.tab8 : rtab .any (opsOf Tryd.f18 8) = dovetailref05_Rule.T8 := by kernel_rfl
theorem dovetailref05_Rule.bits8 : waitsOk dovetailref05_Rule.T8.2 dovetailref05_Rule.B8 = true := by kernel_rfl
set_option maxHeartbeats 8000000 in
set_option maxRecDepth 100000 in
theorem dovetailref05_Rule.calls (k : Nat) (A0_0 : Option Addr) (c0_0 : Nat) (l0_0 : List ByteArray) (A0_1 : Option Addr) (c0_1 : Nat) (l0_1 : List ByteArray) (a0_2 : Int) (A0_3 : Option Addr) (c0_3 : Nat) (l0_3 : List (S52)) (a1 : Int) (r1 : ByteArray) (r2 : Int) (w : World) (hr0_0 : Kd.C Kd.string w A0_0 l0_0.length l0_0) (hc0_0 : l0_0.length ≤ c0_0) (hr0_1 : Kd.C Kd.string w A0_1 l0_1.length l0_1) (hc0_1 : l0_1.length ≤ c0_1) (hr0_3 : Kd.C k52 w A0_3 l0_3.length l0_3) (hc0_3 : l0_3.length ≤ c0_3) (h : dovetailref05_Rule.f k l0_0 l0_1 a0_2 l0_3 a1 = some (r1, r2)) :
 Calls Tryd.prog 18 #[.agg #[.slice A0_0 l0_0.length c0_0, .slice A0_1 l0_1.length c0_1, .int .i64 a0_2, .slice A0_3 l0_3.length c0_3], .int .i64 a1] w fun e w' => e = .returned (.tuple #[.string r1, .int .i64 r2]) ∧ Below w.heap.size w w' := by
 have hu25 := Tryd.underlying25
 have HR0_0 := Aside0.mk hr0_0
 have HC0_0 := Aside0.mk hc0_0
 clear hr0_0 hc0_0
 have HR0_1 := Aside0.mk hr0_1
 have HC0_1 := Aside0.mk hc0_1
 clear hr0_1 hc0_1
 have HR0_3 := Aside0.mk hr0_3
 have HC0_3 := Aside0.mk hc0_3
 clear hr0_3 hc0_3
 have HB := Aside0.mk (Below.refl w.heap.size w)
 have H : ((dovetailref03_Check.f k l0_0 l0_1 a0_2 l0_3).bind fun bt121 => (if bt121.1 = 0 then (if a1 < 0 then (dovetailref05_Rule.j0 k a1 true l0_0 l0_1 a0_2 l0_3) else (dovetailref05_Rule.j0 k a1 (decide (a1 ≥ (l0_3.length : Int))) l0_0 l0_1 a0_2 l0_3)) else (some ((⟨#[]⟩ : ByteArray), bt121.1)))) = some (r1, r2) := h
 clear h
 replace H := Option.bind_eq_some_iff.mp H
 obtain ⟨⟨t121, t122⟩, A30, H⟩ := H
 replace H : (if t121 = 0 then (if a1 < 0 then (dovetailref05_Rule.j0 k a1 true l0_0 l0_1 a0_2 l0_3) else (dovetailref05_Rule.j0 k a1 (decide (a1 ≥ (l0_3.length : Int))) l0_0 l0_1 a0_2 l0_3)) else (some ((⟨#[]⟩ : ByteArray), t121))) = some (r1, r2) := H
 have A3 := Aside0.mk A30
 clear A30
 by_cases c4 : t121 = 0
 · rw [if_pos c4] at H
   have c4b0 : (t121 == 0) = true := beq_iff_eq.mpr c4
   have c4b1 : (t121 != 0) = false := bne_eq_false_iff_eq.mpr c4
   clear c4
   have HC5 := Aside0.mk H
   clear H
   go_enter Tryd.func18, Tryd.ntmps18
   go_upto_region 4 with (first | ((with_reducible refine gate_dst (N := 2) rfl ?_); (try (refine gate_guard (by rfl) ?_; dsimp only)); refine box_event ?hg (N := 2) ?hd (cs := #[.slice A0_0 l0_0.length c0_0, .slice A0_1 l0_1.length c0_1, .int .i64 a0_2, .slice A0_3 l0_3.length c0_3]) (t := 25) ?hr ?_; (case hd => rfl); (case hg => rfl); (case hr => first | (go_simp; done) | (go_simp; rfl)); intro gb120 hg w6 hbox hb; have n0_ := Aside0.mk (below_step (by repeat (first | (with_reducible first | exact HB.out | apply below_alloc | apply pw_below_drewN | apply below_drew1) | exact HB.out)) hb); have n1_ := Aside0.mk (hbox); have n2_ := Aside0.mk ((by rw [hg]; exact (below_size (by repeat (first | (with_reducible first | exact HB.out | apply below_alloc | apply pw_below_drewN | apply below_drew1) | exact HB.out))) : w.heap.size ≤ gb120)); have n3_ := Aside0.mk ((by rw [hg]; exact (below_size (by repeat (first | (with_reducible first | exact HB.out | apply below_alloc | apply pw_below_drewN | apply below_drew1) | exact HB.out))) : w.heap.size ≤ gb120)); clear HB; have HB := n0_; have BK120 := n1_; have GW120 := n2_; have GE120 := n3_; clear n0_ n1_ n2_ n3_; clear hb hbox hg; have hcz7_0 : w6.cell? ⟨gb120, 0, none⟩ = some (.slice A0_0 l0_0.length c0_0) := (blk_cell BK120.out 0).trans rfl; have hcz7_1 : w6.cell? ⟨gb120, 1, none⟩ = some (.slice A0_1 l0_1.length c0_1) := (blk_cell BK120.out 1).trans rfl; have hcz7_2 : w6.cell? ⟨gb120, 2, none⟩ = some (.int .i64 a0_2) := (blk_cell BK120.out 2).trans rfl; have hcz7_3 : w6.cell? ⟨gb120, 3, none⟩ = some (.slice A0_3 l0_3.length c0_3) := (blk_cell BK120.out 3).trans rfl; have hfz7_0 := blk_frozen BK120.out 0; have hfz7_1 := blk_frozen BK120.out 1; have hfz7_2 := blk_frozen BK120.out 2; have hfz7_3 := blk_frozen BK120.out 3) | ((with_reducible refine gate_callee (f := 53) rfl ?_); refine goesL_ (some 11) rfl rfl Tryd.func53 (by kernel_rfl) rfl #[.agg #[.slice A0_0 l0_0.length c0_0, .slice A0_1 l0_1.length c0_1, .int .i64 a0_2, .slice A0_3 l0_3.length c0_3]] rfl (by (try simp only [List.map_toArray, List.map_cons, List.map_nil]); first | done | rfl | (simp only [List.length_drop, List.length_take]; rfl)) ?_; (with_reducible refine (dovetailref03_Check.calls k _ _ l0_0 _ _ l0_1 a0_2 _ _ l0_3 t121 t122 _ ?side1 ?side2 ?side3 ?side4 ?side5 ?side6 A3.out).mono ?_); (case side1 => repeat (first | exact (Kd.C_below HR0_0.out HB.out) | (with_reducible refine Kd.C_alloc ?_ _) | (with_reducible refine Kd.C_drewN ?_ _) | (with_reducible refine Kd.C_drew ?_))); (case side2 => exact HC0_0.out); (case side3 => repeat (first | exact (Kd.C_below HR0_1.out HB.out) | (with_reducible refine Kd.C_alloc ?_ _) | (with_reducible refine Kd.C_drewN ?_ _) | (with_reducible refine Kd.C_drew ?_))); (case side4 => exact HC0_1.out); (case side5 => repeat (first | exact (Kd.C_below HR0_3.out HB.out) | (with_reducible refine Kd.C_alloc ?_ _) | (with_reducible refine Kd.C_drewN ?_ _) | (with_reducible refine Kd.C_drew ?_))); (case side6 => exact HC0_3.out); rintro e w8 ⟨rfl, hb⟩; refine ⟨_, rfl, ?_⟩; have n0_ := Aside0.mk (blk_below (g := gb120) (o := .cells #[.slice A0_0 l0_0.length c0_0, .slice A0_1 l0_1.length c0_1, .int .i64 a0_2, .slice A0_3 l0_3.length c0_3] 25 (0, 0)) (by (with_reducible repeat (first | refine blk_drewN ?_ _ | refine blk_drew ?_ | refine blk_alloc ?_ _)); exact BK120.out) hb); have n1_ := Aside0.mk (below_step (by repeat (first | (with_reducible first | exact HB.out | apply below_alloc | apply pw_below_drewN | apply below_drew1 | refine below_set ?_ GE120.out) | exact HB.out)) hb); clear BK120; clear HB; have BK120 := n0_; have HB := n1_; clear n0_ n1_; (try clear hb); (try clear hb2); (try clear hk); (try clear hi)))
   (try simp only [Act.put, List.setIfInBounds_toArray, List.set_cons_zero, List.set_cons_succ])
   go_cut [25] (fun v25 wc => ∃ (kq : Nat) (x25_4 : Bool), v25 = .bool x25_4 ∧ Aside0 (dovetailref05_Rule.j0 kq a1 x25_4 l0_0 l0_1 a0_2 l0_3 = some (r1, r2)) ∧ Aside0 (kq ≤ k) ∧ Aside0 (wc.heap[gb120]? = some (.cells #[(.slice A0_0 l0_0.length c0_0), (.slice A0_1 l0_1.length c0_1), .int .i64 a0_2, (.slice A0_3 l0_3.length c0_3)] 25 (0, 0))) ∧ Aside0 (Below w.heap.size w wc))
   case first =>
    have H := HC5.out
    clear HC5
    by_cases c9 : a1 < 0
    · rw [if_pos c9] at H
      have c9b0 : decide (a1 < 0) = true := decide_eq_true c9
      clear c9
      (first | rw [c9b0] | (simp only [i64_w, i32_w]; rw [c9b0]) | skip)
      have H' := Aside0.mk H
      clear H
      go_wp2
      go_meet
      case rel => exact ⟨_, (true), (by first | rfl | (simp; done) | (simp [*]; done)), H', ⟨by first | omega | exact Nat.le_refl _⟩, ⟨by (with_reducible repeat (first | refine blk_drewN ?_ _ | refine blk_drew ?_ | refine blk_alloc ?_ _)); exact BK120.out⟩, ⟨by repeat (first | (with_reducible first | exact HB.out | apply below_alloc | apply pw_below_drewN | apply below_drew1 | refine below_set ?_ GE120.out) | exact HB.out)⟩⟩
    · rw [if_neg c9] at H
      have c9b0 : decide (a1 < 0) = false := decide_eq_false c9
      clear c9
      (first | rw [c9b0] | (simp only [i64_w, i32_w]; rw [c9b0]) | skip)
      have H' := Aside0.mk H
      clear H
      have hcz10_0 : w8.cell? ⟨gb120, 0, none⟩ = some (.slice A0_0 l0_0.length c0_0) := (blk_cell BK120.out 0).trans rfl
      have hcz10_1 : w8.cell? ⟨gb120, 1, none⟩ = some (.slice A0_1 l0_1.length c0_1) := (blk_cell BK120.out 1).trans rfl
      have hcz10_2 : w8.cell? ⟨gb120, 2, none⟩ = some (.int .i64 a0_2) := (blk_cell BK120.out 2).trans rfl
      have hcz10_3 : w8.cell? ⟨gb120, 3, none⟩ = some (.slice A0_3 l0_3.length c0_3) := (blk_cell BK120.out 3).trans rfl
      have hfz10_0 := blk_frozen BK120.out 0
      have hfz10_1 := blk_frozen BK120.out 1
      have hfz10_2 := blk_frozen BK120.out 2
      have hfz10_3 := blk_frozen BK120.out 3
      go_wp2
      go_meet
      case rel => exact ⟨_, (decide (a1 ≥ (l0_3.length : Int))), (by first | rfl | (simp; done) | (simp [*]; done)), H', ⟨by first | omega | exact Nat.le_refl _⟩, ⟨by (with_reducible repeat (first | refine blk_drewN ?_ _ | refine blk_drew ?_ | refine blk_alloc ?_ _)); exact BK120.out⟩, ⟨by repeat (first | (with_reducible first | exact HB.out | apply below_alloc | apply pw_below_drewN | apply below_drew1 | refine below_set ?_ GE120.out) | exact HB.out)⟩⟩
   case rest =>
    clear HC5
    try clear c1
    try clear p2
    try clear c4
    try clear c4b0
    try clear c4b1
    try clear c5
    try clear c9
    try clear c9b0
    try clear hcz10_0
    try clear hcz10_1
    try clear hcz10_2
    try clear hcz10_3
    try clear hcz7_0
    try clear hcz7_1
    try clear hcz7_2
    try clear hcz7_3
    try clear hfz10_0
    try clear hfz10_1
    try clear hfz10_2
    try clear hfz10_3
    try clear hfz7_0
    try clear hfz7_1
    try clear hfz7_2
    try clear hfz7_3
    obtain ⟨kq, x25_4, rfl, HA, HJ4, BK120, HB⟩ := hcut
    cases kq with
    | zero => exact absurd HA.out (by simp [dovetailref05_Rule.j0])
    | succ kj4 =>
     have H := HA.out
     clear HA
     simp only [dovetailref05_Rule.j0] at H
     by_cases c11 : x25_4 = true
     · subst c11
       have H1 : (some ((⟨#[]⟩ : ByteArray), 1)) = some (r1, r2) := by rw [if_pos rfl] at H; exact H
       clear H
       have H := H1
       clear H1
       simp only [Option.some.injEq, Prod.mk.injEq] at H
       obtain ⟨rfl, rfl⟩ := H
       go_wp2
       go_ret2
       exact ⟨by first | rfl | (simp [errW_none, errW_some] <;> rfl) | (simp [*, errW_none, errW_some] <;> rfl), by repeat (first | (with_reducible first | exact HB.out | apply below_alloc | apply pw_below_drewN | apply below_drew1 | refine below_set ?_ GE120.out) | exact HB.out)⟩
     · replace c11 := Bool.eq_false_iff.mpr c11
       subst c11
       have H1 : (if 0 ≤ a1 then (if a1 < (l0_3.length : Int) then ((dovetailref05_Symbol.f kj4 l0_0 l0_1 a0_2 l0_3 (wrap64 ((-1) - ((rd_T52 l0_3 a1).f0)))).bind fun t124 => (if t124.size + 2 ≤ 9223372036854775807 then (if (((rd_T52 l0_3 a1).f1).length : Int) > 0 then (if (t124 ++ (⟨#[32, 58]⟩ : ByteArray)).size + 1 ≤ 9223372036854775807 then ((dovetailref05_Symbols.f kj4 l0_0 l0_1 a0_2 l0_3 ((rd_T52 l0_3 a1).f1)).bind fun t127 => (if ((t124 ++ (⟨#[32, 58]⟩ : ByteArray)) ++ (⟨#[32]⟩ : ByteArray)).size + t127.size ≤ 9223372036854775807 then (some (((t124 ++ (⟨#[32, 58]⟩ : ByteArray)) ++ (⟨#[32]⟩ : ByteArray)) ++ t127, 0)) else (none))) else (none)) else (some (t124 ++ (⟨#[32, 58]⟩ : ByteArray), 0))) else (none))) else (none)) else (none)) = some (r1, r2) := by rw [if_neg (show ¬ (false = true) by decide)] at H; exact H
       clear H
       have H := H1
       clear H1
       by_cases c12 : 0 ≤ a1
       · rw [if_pos c12] at H
         have c12b0 : decide (0 ≤ a1) = true := decide_eq_true c12
         clear c12
         by_cases c13 : a1 < (l0_3.length : Int)
         · rw [if_pos c13] at H
           have c13b0 : decide (a1 < (l0_3.length : Int)) = true := decide_eq_true c13
           clear c13
           replace H := Option.bind_eq_some_iff.mp H
           obtain ⟨t124, A140, H⟩ := H
           replace H : (if t124.size + 2 ≤ 9223372036854775807 then (if (((rd_T52 l0_3 a1).f1).length : Int) > 0 then (if (t124 ++ (⟨#[32, 58]⟩ : ByteArray)).size + 1 ≤ 9223372036854775807 then ((dovetailref05_Symbols.f kj4 l0_0 l0_1 a0_2 l0_3 ((rd_T52 l0_3 a1).f1)).bind fun t127 => (if ((t124 ++ (⟨#[32, 58]⟩ : ByteArray)) ++ (⟨#[32]⟩ : ByteArray)).size + t127.size ≤ 9223372036854775807 then (some (((t124 ++ (⟨#[32, 58]⟩ : ByteArray)) ++ (⟨#[32]⟩ : ByteArray)) ++ t127, 0)) else (none))) else (none)) else (some (t124 ++ (⟨#[32, 58]⟩ : ByteArray), 0))) else (none)) = some (r1, r2) := H
           have A14 := Aside0.mk A140
           clear A140
           by_cases c15 : t124.size + 2 ≤ 9223372036854775807
           · rw [if_pos c15] at H
             have c15b0 := eq_true c15
             have c15b1 : decide (t124.size + 2 ≤ 9223372036854775807) = true := decide_eq_true c15
             try have c15b2 : (9223372036854775807 < t124.size + 2) = False := eq_false (Nat.not_lt.2 c15)
             by_cases c16 : (((rd_T52 l0_3 a1).f1).length : Int) > 0
             · rw [if_pos c16] at H
               have c16b0 : decide (0 < (((rd_T52 l0_3 a1).f1).length : Int)) = true := decide_eq_true c16
               have c16b1 : decide (0 < ((rd_T52 l0_3 a1).f1).length) = true := decide_eq_true (by omega)
               clear c16
               by_cases c17 : (t124 ++ (⟨#[32, 58]⟩ : ByteArray)).size + 1 ≤ 9223372036854775807
               · rw [if_pos c17] at H
                 have c17b0 := eq_true c17
                 have c17b1 : decide ((t124 ++ (⟨#[32, 58]⟩ : ByteArray)).size + 1 ≤ 9223372036854775807) = true := decide_eq_true c17
                 try have c17b2 : (9223372036854775807 < (t124 ++ (⟨#[32, 58]⟩ : ByteArray)).size + 1) = False := eq_false (Nat.not_lt.2 c17)
                 try have c17b3 : (9223372036854775807 < t124.size + 2 + 1) = False := eq_false (Nat.not_lt.2 (by have h_ := c17; simp only [ByteArray.size_append] at h_; exact h_))
                 replace H := Option.bind_eq_some_iff.mp H
                 obtain ⟨t127, A180, H⟩ := H
                 replace H : (if ((t124 ++ (⟨#[32, 58]⟩ : ByteArray)) ++ (⟨#[32]⟩ : ByteArray)).size + t127.size ≤ 9223372036854775807 then (some (((t124 ++ (⟨#[32, 58]⟩ : ByteArray)) ++ (⟨#[32]⟩ : ByteArray)) ++ t127, 0)) else (none)) = some (r1, r2) := H
                 have A18 := Aside0.mk A180
                 clear A180
                 by_cases c19 : ((t124 ++ (⟨#[32, 58]⟩ : ByteArray)) ++ (⟨#[32]⟩ : ByteArray)).size + t127.size ≤ 9223372036854775807
                 · rw [if_pos c19] at H
                   have c19b0 := eq_true c19
                   have c19b1 : decide (((t124 ++ (⟨#[32, 58]⟩ : ByteArray)) ++ (⟨#[32]⟩ : ByteArray)).size + t127.size ≤ 9223372036854775807) = true := decide_eq_true c19
                   try have c19b2 : (9223372036854775807 < ((t124 ++ (⟨#[32, 58]⟩ : ByteArray)) ++ (⟨#[32]⟩ : ByteArray)).size + t127.size) = False := eq_false (Nat.not_lt.2 c19)
                   try have c19b3 : (9223372036854775807 < t124.size + 2 + 1 + t127.size) = False := eq_false (Nat.not_lt.2 (by have h_ := c19; simp only [ByteArray.size_append] at h_; exact h_))
                   simp only [Option.some.injEq, Prod.mk.injEq] at H
                   obtain ⟨rfl, rfl⟩ := H
                   try go_wp2
                   have n0_ := Aside0.mk (blk_drew BK120.out)
                   have n1_ := Aside0.mk (below_drew1 HB.out)
                   clear BK120
                   clear HB
                   have BK120 := n0_
                   have HB := n1_
                   clear n0_ n1_
                   have p123 : 0 ≤ (a1 : Int) := of_decide_eq_true (by first | (with_reducible assumption) | assumption)
                   have q123 : a1 < (l0_3.length : Int) := of_decide_eq_true (by first | (with_reducible assumption) | assumption)
                   obtain ⟨ad123, A123_1, c123_1, e123, hx123_0, hx123_1, hl123_1, hi123_1⟩ := at_T52 HR0_3.out a1 p123 q123
                   have hw123_1 := hx123_1
                   have hw123_0 := hx123_0
                   cases e123
                   replace hx123_0 := (HB.out.cell (World.block_lt_of_cell? w _ hx123_0)).trans hx123_0
                   replace hx123_1 := (HB.out.cell (World.block_lt_of_cell? w _ hx123_1)).trans hx123_1
                   have HR123_1 := Aside0.mk hi123_1
                   have HC123_1 := Aside0.mk hl123_1
                   clear hi123_1 hl123_1
                   replace p123 := eq_true p123
                   replace q123 := eq_true q123
                   refine start_ (n := 11) (S := fun w' => w'.cell? ⟨gb120, 0, none⟩ = some (.slice A0_0 l0_0.length c0_0) ∧ w'.cell? ⟨gb120, 1, none⟩ = some (.slice A0_1 l0_1.length c0_1) ∧ w'.cell? ⟨gb120, 2, none⟩ = some (.int .i64 a0_2) ∧ w'.cell? ⟨gb120, 3, none⟩ = some (.slice (some ad123) l0_3.length c0_3) ∧ w'.cell? (ad123.add ((a1).toNat * 2)) = some (.int .i64 ((rd_T52 l0_3 a1).f0)) ∧ w'.cell? ⟨(ad123.add ((a1).toNat * 2)).block, (ad123.add ((a1).toNat * 2)).off + 1, none⟩ = some (.slice A123_1 ((rd_T52 l0_3 a1).f1).length c123_1)) (ds := []) #[false, false, false, false, false, false, false, false, false, false, false] (by kernel_rfl) rfl rfl ⟨(blk_cell BK120.out 0).trans rfl, (blk_cell BK120.out 1).trans rfl, (blk_cell BK120.out 2).trans rfl, (blk_cell BK120.out 3).trans rfl, ((HB.out.cell (World.block_lt_of_cell? w _ hw123_0)).trans hw123_0), ((HB.out.cell (World.block_lt_of_cell? w _ hw123_1)).trans hw123_1)⟩ (fun hHeld => ?_); refine with_tabW dovetailref05_Rule.tab6 dovetailref05_Rule.bits6 (fun HT_ HW_ => ?_)
                   generalize wc.drew = w20 at BK120 HB HR123_1 hx123_0 hx123_1 hHeld ⊢
                   refine pure_ (i := 1) (N := some 27) (v := ?_) (a' := ?_) #[false, true, false, false, false, false, false, false, false, false, false] rfl rfl (any_of HT_.out (by kernel_rfl)) (fun _ _ _ h => h) (Or.inl ⟨by rfl, ?_⟩) ?_ ?_
                   rotate_left
                   · intro w'
                     go_simp
                     with_reducible rfl
                   rotate_left
                   · simp only [Act.put, List.setIfInBounds_toArray, List.set_cons_zero, List.set_cons_succ, i64_w, i32_w]
                     rfl
                   refine pure_ (i := 3) (N := some 29) (v := ?_) (a' := ?_) #[false, true, false, true, false, false, false, false, false, false, false] rfl rfl (any_of HT_.out (by kernel_rfl)) (fun _ _ _ h => h) (Or.inl ⟨by rfl, ?_⟩) ?_ ?_
                   rotate_left
                   · intro w'
                     go_simp
                     with_reducible rfl
                   rotate_left
                   · simp only [Act.put, List.setIfInBounds_toArray, List.set_cons_zero, List.set_cons_succ, i64_w, i32_w]
                     rfl
                   refine take_ (i := 0) (N := some 26) (v := ?_) (a' := ?_) #[true, true, false, true, false, false, false, false, false, false, false] rfl rfl (take_ofW HT_.out HW_.out (by kernel_rfl)) (fun _ _ _ h => h) (Or.inl ⟨by rfl, ?_⟩) hHeld ?_ ?_
                   rotate_left
                   · rintro w' ⟨s0, s1, s2, s3, s4, s5⟩
                     go_simp
                     with_reducible rfl
                   rotate_left
                   · simp only [Act.put, List.setIfInBounds_toArray, List.set_cons_zero, List.set_cons_succ, i64_w, i32_w]
                     rfl
                   refine take_ (i := 2) (N := some 28) (v := ?_) (a' := ?_) #[true, true, true, true, false, false, false, false, false, false, false] rfl rfl (take_ofW HT_.out HW_.out (by kernel_rfl)) (fun _ _ _ h => h) (Or.inl ⟨by rfl, ?_⟩) hHeld ?_ ?_
                   rotate_left
                   · rintro w' ⟨s0, s1, s2, s3, s4, s5⟩
                     go_simp
                     with_reducible rfl
                   rotate_left
                   · simp only [Act.put, List.setIfInBounds_toArray, List.set_cons_zero, List.set_cons_succ, i64_w, i32_w]
                     rfl
                   refine pure_ (i := 4) (N := some 30) (v := ?_) (a' := ?_) #[true, true, true, true, true, false, false, false, false, false, false] rfl rfl (any_of HT_.out (by kernel_rfl)) (fun _ _ _ h => h) (Or.inl ⟨by rfl, ?_⟩) ?_ ?_
                   rotate_left
                   · intro w'
                     go_simp
                     with_reducible rfl
                   rotate_left
                   · simp only [Act.put, List.setIfInBounds_toArray, List.set_cons_zero, List.set_cons_succ, i64_w, i32_w]
                     rfl
                   refine pure_ (i := 5) (N := some 31) (v := ?_) (a' := ?_) #[true, true, true, true, true, true, false, false, false, false, false] rfl rfl (any_of HT_.out (by kernel_rfl)) (fun _ _ _ h => h) (Or.inl ⟨by rfl, ?_⟩) ?_ ?_
                   rotate_left
                   · intro w'
                     go_simp
                     with_reducible rfl
                   rotate_left
                   · simp only [Act.put, List.setIfInBounds_toArray, List.set_cons_zero, List.set_cons_succ, i64_w, i32_w]
                     rfl
                   refine take_ (i := 6) (N := some 32) (v := ?_) (a' := ?_) #[true, true, true, true, true, true, true, false, false, false, false] rfl rfl (take_ofW HT_.out HW_.out (by kernel_rfl)) (fun _ _ _ h => h) (Or.inl ⟨by rfl, ?_⟩) hHeld ?_ ?_
                   rotate_left
                   · rintro w' ⟨s0, s1, s2, s3, s4, s5⟩
                     go_simp
                     with_reducible rfl
                   rotate_left
                   · simp only [Act.put, List.setIfInBounds_toArray, List.set_cons_zero, List.set_cons_succ, i64_w, i32_w]
                     rfl
                   refine pure_ (i := 7) (N := some 33) (v := ?_) (a' := ?_) #[true, true, true, true, true, true, true, true, false, false, false] rfl rfl (any_of HT_.out (by kernel_rfl)) (fun _ _ _ h => h) (Or.inl ⟨by rfl, ?_⟩) ?_ ?_
                   rotate_left
                   · intro w'
                     go_simp
                     with_reducible rfl
                   rotate_left
                   · simp only [Act.put, List.setIfInBounds_toArray, List.set_cons_zero, List.set_cons_succ, i64_w, i32_w]
                     rfl
                   refine one_ (i := 8) (N := some 34) #[true, true, true, true, true, true, true, true, true, false, false] rfl rfl (one_of HT_.out (by kernel_rfl)) (by decide) (fun K hK => ?_)
                   refine goes_ Tryd.func20 (by kernel_rfl) rfl #[.agg #[.slice A0_0 l0_0.length c0_0, .slice A0_1 l0_1.length c0_1, .int .i64 a0_2, .slice (some ad123) l0_3.length c0_3], .int .i64 (wrap64 ((-1) - ((rd_T52 l0_3 a1).f0)))] (by rfl) rfl rfl (by (try simp only [List.map_toArray, List.map_cons, List.map_nil]); first | done | rfl | (simp only [List.length_drop, List.length_take]; rfl)) ?_
                   with_reducible refine (dovetailref05_Symbol.calls kj4 _ _ l0_0 _ _ l0_1 a0_2 _ _ l0_3 (wrap64 ((-1) - ((rd_T52 l0_3 a1).f0))) t124 _ ?side1 ?side2 ?side3 ?side4 ?side5 ?side6 A14.out).mono ?_
                   (case side1 => repeat (first | exact (Kd.C_below HR0_0.out HB.out) | (with_reducible refine Kd.C_alloc ?_ _) | (with_reducible refine Kd.C_drewN ?_ _) | (with_reducible refine Kd.C_drew ?_)))
                   (case side2 => exact HC0_0.out)
                   (case side3 => repeat (first | exact (Kd.C_below HR0_1.out HB.out) | (with_reducible refine Kd.C_alloc ?_ _) | (with_reducible refine Kd.C_drewN ?_ _) | (with_reducible refine Kd.C_drew ?_)))
                   (case side4 => exact HC0_1.out)
                   (case side5 => repeat (first | exact (Kd.C_below HR0_3.out HB.out) | (with_reducible refine Kd.C_alloc ?_ _) | (with_reducible refine Kd.C_drewN ?_ _) | (with_reducible refine Kd.C_drew ?_)))
                   (case side6 => exact HC0_3.out)
                   rintro e w21 ⟨rfl, hb⟩
                   refine ⟨_, rfl, ?_⟩
                   have n0_ := Aside0.mk (blk_below (g := gb120) (o := .cells #[.slice A0_0 l0_0.length c0_0, .slice A0_1 l0_1.length c0_1, .int .i64 a0_2, .slice (some ad123) l0_3.length c0_3] 25 (0, 0)) (by (with_reducible repeat (first | refine blk_drewN ?_ _ | refine blk_drew ?_ | refine blk_alloc ?_ _)); exact BK120.out) hb)
                   have n1_ := Aside0.mk (below_step (by repeat (first | (with_reducible first | exact HB.out | apply below_alloc | apply pw_below_drewN | apply below_drew1 | refine below_set ?_ GE120.out) | exact HB.out)) hb)
                   clear BK120
                   clear HB
                   have BK120 := n0_
                   have HB := n1_
                   clear n0_ n1_
                   (try clear hb)
                   (try clear hb2)
                   (try clear hk)
                   (try clear hi)
                   refine hK.out _ _ ⟨(blk_cell BK120.out 0).trans rfl, (blk_cell BK120.out 1).trans rfl, (blk_cell BK120.out 2).trans rfl, (blk_cell BK120.out 3).trans rfl, ((HB.out.cell (World.block_lt_of_cell? w _ hw123_0)).trans hw123_0), ((HB.out.cell (World.block_lt_of_cell? w _ hw123_1)).trans hw123_1)⟩ (fun hHeld => ?_)
                   clear hK K
                   refine norm_ (a' := ?_) ?_ ?_
                   rotate_left
                   · show Act.put _ (some 34) _ = _
                     simp only [Act.put, List.setIfInBounds_toArray, List.set_cons_zero, List.set_cons_succ, i64_w, i32_w]
                     rfl
                   refine pure_ (i := 9) (N := some 35) (v := ?_) (a' := ?_) #[true, true, true, true, true, true, true, true, true, true, false] rfl rfl (any_of HT_.out (by kernel_rfl)) (fun _ _ _ h => h) (Or.inl ⟨by rfl, ?_⟩) ?_ ?_
                   rotate_left
                   · intro w'
                     go_simp
                     with_reducible rfl
                   rotate_left
                   · simp only [Act.put, List.setIfInBounds_toArray, List.set_cons_zero, List.set_cons_succ, i64_w, i32_w]
                     rfl
                   refine pure_ (i := 10) (N := some 8) (v := ?_) (a' := ?_) #[true, true, true, true, true, true, true, true, true, true, true] rfl rfl (any_of HT_.out (by kernel_rfl)) (fun _ _ _ h => h) (Or.inl ⟨by rfl, ?_⟩) ?_ ?_
                   rotate_left
                   · intro w'
                     go_simp
                     with_reducible rfl
                   rotate_left
                   · simp only [Act.put, List.setIfInBounds_toArray, List.set_cons_zero, List.set_cons_succ, i64_w, i32_w]
                     rfl
                   refine done_ (done_of HT_.out (by kernel_rfl)) ?_
                   have hcz22_0 : w21.cell? ⟨gb120, 0, none⟩ = some (.slice A0_0 l0_0.length c0_0) := (blk_cell BK120.out 0).trans rfl
                   have hcz22_1 : w21.cell? ⟨gb120, 1, none⟩ = some (.slice A0_1 l0_1.length c0_1) := (blk_cell BK120.out 1).trans rfl
                   have hcz22_2 : w21.cell? ⟨gb120, 2, none⟩ = some (.int .i64 a0_2) := (blk_cell BK120.out 2).trans rfl
                   have hcz22_3 : w21.cell? ⟨gb120, 3, none⟩ = some (.slice (some ad123) l0_3.length c0_3) := (blk_cell BK120.out 3).trans rfl
                   have hfz22_0 := blk_frozen BK120.out 0
                   have hfz22_1 := blk_frozen BK120.out 1
                   have hfz22_2 := blk_frozen BK120.out 2
                   have hfz22_3 := blk_frozen BK120.out 3
                   have p125 : 0 ≤ (a1 : Int) := of_decide_eq_true (by first | (with_reducible assumption) | assumption)
                   have q125 : a1 < (l0_3.length : Int) := of_decide_eq_true (by first | (with_reducible assumption) | assumption)
                   obtain ⟨ad125, A125_1, c125_1, e125, hx125_0, hx125_1, hl125_1, hi125_1⟩ := at_T52 HR0_3.out a1 p125 q125
                   obtain rfl : ad123 = ad125 := (by injection e125)
                   replace hx125_0 := (HB.out.cell (World.block_lt_of_cell? w _ hx125_0)).trans hx125_0
                   replace hx125_1 := (HB.out.cell (World.block_lt_of_cell? w _ hx125_1)).trans hx125_1
                   have HR125_1 := Aside0.mk hi125_1
                   have HC125_1 := Aside0.mk hl125_1
                   clear hi125_1 hl125_1
                   replace p125 := eq_true p125
                   replace q125 := eq_true q125
                   try go_wp2
                   have n0_ := Aside0.mk (blk_drew BK120.out)
                   have n1_ := Aside0.mk (below_drew1 HB.out)
                   clear BK120
                   clear HB
                   have BK120 := n0_
                   have HB := n1_
                   clear n0_ n1_
                   have p126 : 0 ≤ (a1 : Int) := of_decide_eq_true (by first | (with_reducible assumption) | assumption)
                   have q126 : a1 < (l0_3.length : Int) := of_decide_eq_true (by first | (with_reducible assumption) | assumption)
                   obtain ⟨ad126, A126_1, c126_1, e126, hx126_0, hx126_1, hl126_1, hi126_1⟩ := at_T52 HR0_3.out a1 p126 q126
                   have hw126_1 := hx126_1
                   have hw126_0 := hx126_0
                   obtain rfl : ad123 = ad126 := (by injection e126)
                   replace hx126_0 := (HB.out.cell (World.block_lt_of_cell? w _ hx126_0)).trans hx126_0
                   replace hx126_1 := (HB.out.cell (World.block_lt_of_cell? w _ hx126_1)).trans hx126_1
                   have HR126_1 := Aside0.mk hi126_1
                   have HC126_1 := Aside0.mk hl126_1
                   clear hi126_1 hl126_1
                   replace p126 := eq_true p126
                   replace q126 := eq_true q126
                   refine start_ (n := 12) (S := fun w' => w'.cell? ⟨gb120, 0, none⟩ = some (.slice A0_0 l0_0.length c0_0) ∧ w'.cell? ⟨gb120, 1, none⟩ = some (.slice A0_1 l0_1.length c0_1) ∧ w'.cell? ⟨gb120, 2, none⟩ = some (.int .i64 a0_2) ∧ w'.cell? ⟨gb120, 3, none⟩ = some (.slice (some ad123) l0_3.length c0_3) ∧ w'.cell? (ad123.add ((a1).toNat * 2)) = some (.int .i64 ((rd_T52 l0_3 a1).f0)) ∧ w'.cell? ⟨(ad123.add ((a1).toNat * 2)).block, (ad123.add ((a1).toNat * 2)).off + 1, none⟩ = some (.slice A126_1 ((rd_T52 l0_3 a1).f1).length c126_1)) (ds := []) #[false, false, false, false, false, false, false, false, false, false, false, false] (by kernel_rfl) rfl rfl ⟨(blk_cell BK120.out 0).trans rfl, (blk_cell BK120.out 1).trans rfl, (blk_cell BK120.out 2).trans rfl, (blk_cell BK120.out 3).trans rfl, ((HB.out.cell (World.block_lt_of_cell? w _ hw126_0)).trans hw126_0), ((HB.out.cell (World.block_lt_of_cell? w _ hw126_1)).trans hw126_1)⟩ (fun hHeld => ?_); refine with_tabW dovetailref05_Rule.tab8 dovetailref05_Rule.bits8 (fun HT_ HW_ => ?_)
                   generalize w21.drew = w23 at BK120 HB HR126_1 hx126_0 hx126_1 hHeld ⊢
                   refine pure_ (i := 0) (N := some 44) (v := ?_) (a' := ?_) #[true, false, false, false, false, false, false, false, false, false, false, false] rfl rfl (any_of HT_.out (by kernel_rfl)) (fun _ _ _ h => h) (Or.inl ⟨by rfl, ?_⟩) ?_ ?_
                   rotate_left
                   · intro w'
                     go_simp
                     with_reducible rfl
                   rotate_left
                   · simp only [Act.put, List.setIfInBounds_toArray, List.set_cons_zero, List.set_cons_succ, i64_w, i32_w]
                     rfl
                   refine pure_ (i := 1) (N := some 45) (v := ?_) (a' := ?_) #[true, true, false, false, false, false, false, false, false, false, false, false] rfl rfl (any_of HT_.out (by kernel_rfl)) (fun _ _ _ h => h) (Or.inl ⟨by rfl, ?_⟩) ?_ ?_
                   rotate_left
                   · intro w'
                     go_simp
                     with_reducible rfl
                   rotate_left
                   · simp only [Act.put, List.setIfInBounds_toArray, List.set_cons_zero, List.set_cons_succ, i64_w, i32_w]
                     rfl
                   refine pure_ (i := 3) (N := some 47) (v := ?_) (a' := ?_) #[true, true, false, true, false, false, false, false, false, false, false, false] rfl rfl (any_of HT_.out (by kernel_rfl)) (fun _ _ _ h => h) (Or.inl ⟨by rfl, ?_⟩) ?_ ?_
                   rotate_left
                   · intro w'
                     go_simp
                     with_reducible rfl
                   rotate_left
                   · simp only [Act.put, List.setIfInBounds_toArray, List.set_cons_zero, List.set_cons_succ, i64_w, i32_w]
                     rfl
                   refine pure_ (i := 5) (N := some 49) (v := ?_) (a' := ?_) #[true, true, false, true, false, true, false, false, false, false, false, false] rfl rfl (any_of HT_.out (by kernel_rfl)) (fun _ _ _ h => h) (Or.inl ⟨by rfl, ?_⟩) ?_ ?_
                   rotate_left
                   · intro w'
                     go_simp
                     with_reducible rfl
                   rotate_left
                   · simp only [Act.put, List.setIfInBounds_toArray, List.set_cons_zero, List.set_cons_succ, i64_w, i32_w]
                     rfl
                   refine take_ (i := 2) (N := some 46) (v := ?_) (a' := ?_) #[true, true, true, true, false, true, false, false, false, false, false, false] rfl rfl (take_ofW HT_.out HW_.out (by kernel_rfl)) (fun _ _ _ h => h) (Or.inl ⟨by rfl, ?_⟩) hHeld ?_ ?_
                   rotate_left
                   · rintro w' ⟨s0, s1, s2, s3, s4, s5⟩
                     go_simp
                     with_reducible rfl
                   rotate_left
                   · simp only [Act.put, List.setIfInBounds_toArray, List.set_cons_zero, List.set_cons_succ, i64_w, i32_w]
                     rfl
                   refine take_ (i := 4) (N := some 48) (v := ?_) (a' := ?_) #[true, true, true, true, true, true, false, false, false, false, false, false] rfl rfl (take_ofW HT_.out HW_.out (by kernel_rfl)) (fun _ _ _ h => h) (Or.inl ⟨by rfl, ?_⟩) hHeld ?_ ?_
                   rotate_left
                   · rintro w' ⟨s0, s1, s2, s3, s4, s5⟩
                     go_simp
                     with_reducible rfl
                   rotate_left
                   · simp only [Act.put, List.setIfInBounds_toArray, List.set_cons_zero, List.set_cons_succ, i64_w, i32_w]
                     rfl
                   refine pure_ (i := 6) (N := some 50) (v := ?_) (a' := ?_) #[true, true, true, true, true, true, true, false, false, false, false, false] rfl rfl (any_of HT_.out (by kernel_rfl)) (fun _ _ _ h => h) (Or.inl ⟨by rfl, ?_⟩) ?_ ?_
                   rotate_left
                   · intro w'
                     go_simp
                     with_reducible rfl
                   rotate_left
                   · simp only [Act.put, List.setIfInBounds_toArray, List.set_cons_zero, List.set_cons_succ, i64_w, i32_w]
                     rfl
                   refine pure_ (i := 7) (N := some 51) (v := ?_) (a' := ?_) #[true, true, true, true, true, true, true, true, false, false, false, false] rfl rfl (any_of HT_.out (by kernel_rfl)) (fun _ _ _ h => h) (Or.inl ⟨by rfl, ?_⟩) ?_ ?_
                   rotate_left
                   · intro w'
                     go_simp
                     with_reducible rfl
                   rotate_left
                   · simp only [Act.put, List.setIfInBounds_toArray, List.set_cons_zero, List.set_cons_succ, i64_w, i32_w]
                     rfl
                   refine take_ (i := 8) (N := some 52) (v := ?_) (a' := ?_) #[true, true, true, true, true, true, true, true, true, false, false, false] rfl rfl (take_ofW HT_.out HW_.out (by kernel_rfl)) (fun _ _ _ h => h) (Or.inl ⟨by rfl, ?_⟩) hHeld ?_ ?_
                   rotate_left
                   · rintro w' ⟨s0, s1, s2, s3, s4, s5⟩
                     go_simp
                     with_reducible rfl
                   rotate_left
                   · simp only [Act.put, List.setIfInBounds_toArray, List.set_cons_zero, List.set_cons_succ, i64_w, i32_w]
                     rfl
                   refine one_ (i := 9) (N := some 53) #[true, true, true, true, true, true, true, true, true, true, false, false] rfl rfl (one_of HT_.out (by kernel_rfl)) (by decide) (fun K hK => ?_)
                   refine goes_ Tryd.func22 (by kernel_rfl) rfl #[.agg #[.slice A0_0 l0_0.length c0_0, .slice A0_1 l0_1.length c0_1, .int .i64 a0_2, .slice (some ad123) l0_3.length c0_3], .slice A126_1 ((rd_T52 l0_3 a1).f1).length c126_1] (by rfl) rfl rfl (by (try simp only [List.map_toArray, List.map_cons, List.map_nil]); first | done | rfl | (simp only [List.length_drop, List.length_take]; rfl)) ?_
                   with_reducible refine (dovetailref05_Symbols.calls kj4 _ _ l0_0 _ _ l0_1 a0_2 _ _ l0_3 _ _ ((rd_T52 l0_3 a1).f1) t127 _ ?side1 ?side2 ?side3 ?side4 ?side5 ?side6 ?side7 ?side8 A18.out).mono ?_
                   (case side1 => repeat (first | exact (Kd.C_below HR0_0.out HB.out) | (with_reducible refine Kd.C_alloc ?_ _) | (with_reducible refine Kd.C_drewN ?_ _) | (with_reducible refine Kd.C_drew ?_)))
                   (case side2 => exact HC0_0.out)
                   (case side3 => repeat (first | exact (Kd.C_below HR0_1.out HB.out) | (with_reducible refine Kd.C_alloc ?_ _) | (with_reducible refine Kd.C_drewN ?_ _) | (with_reducible refine Kd.C_drew ?_)))
                   (case side4 => exact HC0_1.out)
                   (case side5 => repeat (first | exact (Kd.C_below HR0_3.out HB.out) | (with_reducible refine Kd.C_alloc ?_ _) | (with_reducible refine Kd.C_drewN ?_ _) | (with_reducible refine Kd.C_drew ?_)))
                   (case side6 => exact HC0_3.out)
                   (case side7 => repeat (first | exact (Kd.C_below HR126_1.out HB.out) | (with_reducible refine Kd.C_alloc ?_ _) | (with_reducible refine Kd.C_drewN ?_ _) | (with_reducible refine Kd.C_drew ?_)))
                   (case side8 => exact HC126_1.out)
                   rintro e w24 ⟨rfl, hb⟩
                   refine ⟨_, rfl, ?_⟩
                   have n0_ := Aside0.mk (blk_below (g := gb120) (o := .cells #[.slice A0_0 l0_0.length c0_0, .slice A0_1 l0_1.length c0_1, .int .i64 a0_2, .slice (some ad123) l0_3.length c0_3] 25 (0, 0)) (by (with_reducible repeat (first | refine blk_drewN ?_ _ | refine blk_drew ?_ | refine blk_alloc ?_ _)); exact BK120.out) hb)
                   have n1_ := Aside0.mk (below_step (by repeat (first | (with_reducible first | exact HB.out | apply below_alloc | apply pw_below_drewN | apply below_drew1 | refine below_set ?_ GE120.out) | exact HB.out)) hb)
                   clear BK120
                   clear HB
                   have BK120 := n0_
                   have HB := n1_
                   clear n0_ n1_
                   (try clear hb)
                   (try clear hb2)
                   (try clear hk)
                   (try clear hi)
                   refine hK.out _ _ ⟨(blk_cell BK120.out 0).trans rfl, (blk_cell BK120.out 1).trans rfl, (blk_cell BK120.out 2).trans rfl, (blk_cell BK120.out 3).trans rfl, ((HB.out.cell (World.block_lt_of_cell? w _ hw126_0)).trans hw126_0), ((HB.out.cell (World.block_lt_of_cell? w _ hw126_1)).trans hw126_1)⟩ (fun hHeld => ?_)
                   clear hK K
                   refine norm_ (a' := ?_) ?_ ?_
                   rotate_left
                   · show Act.put _ (some 53) _ = _
                     simp only [Act.put, List.setIfInBounds_toArray, List.set_cons_zero, List.set_cons_succ, i64_w, i32_w]
                     rfl
                   refine pure_ (i := 10) (N := some 54) (v := ?_) (a' := ?_) #[true, true, true, true, true, true, true, true, true, true, true, false] rfl rfl (any_of HT_.out (by kernel_rfl)) (fun _ _ _ h => h) (Or.inl ⟨by rfl, ?_⟩) ?_ ?_
                   rotate_left
                   · intro w'
                     go_simp
                     with_reducible rfl
                   rotate_left
                   · simp only [Act.put, List.setIfInBounds_toArray, List.set_cons_zero, List.set_cons_succ, i64_w, i32_w]
                     rfl
                   refine pure_ (i := 11) (N := some 8) (v := ?_) (a' := ?_) #[true, true, true, true, true, true, true, true, true, true, true, true] rfl rfl (any_of HT_.out (by kernel_rfl)) (fun _ _ _ h => h) (Or.inl ⟨by rfl, ?_⟩) ?_ ?_
                   rotate_left
                   · intro w'
                     go_simp
                     with_reducible rfl
                   rotate_left
                   · simp only [Act.put, List.setIfInBounds_toArray, List.set_cons_zero, List.set_cons_succ, i64_w, i32_w]
                     rfl
                   refine done_ (done_of HT_.out (by kernel_rfl)) ?_
                   try go_wp2
                   go_ret2
                   exact ⟨by first | rfl | (simp [errW_none, errW_some] <;> rfl) | (simp [*, errW_none, errW_some] <;> rfl), by repeat (first | (with_reducible first | exact HB.out | apply below_alloc | apply pw_below_drewN | apply below_drew1 | refine below_set ?_ GE120.out) | exact HB.out)⟩
                 · rw [if_neg c19] at H
                   exact absurd H (by simp)
               · rw [if_neg c17] at H
                 exact absurd H (by simp)
             · rw [if_neg c16] at H
               have c16b0 : decide (0 < (((rd_T52 l0_3 a1).f1).length : Int)) = false := decide_eq_false c16
               have c16b1 : decide (0 < ((rd_T52 l0_3 a1).f1).length) = false := decide_eq_false (by omega)
               clear c16
               simp only [Option.some.injEq, Prod.mk.injEq] at H
               obtain ⟨rfl, rfl⟩ := H
               try go_wp2
               have n0_ := Aside0.mk (blk_drew BK120.out)
               have n1_ := Aside0.mk (below_drew1 HB.out)
               clear BK120
               clear HB
               have BK120 := n0_
               have HB := n1_
               clear n0_ n1_
               have p123 : 0 ≤ (a1 : Int) := of_decide_eq_true (by first | (with_reducible assumption) | assumption)
               have q123 : a1 < (l0_3.length : Int) := of_decide_eq_true (by first | (with_reducible assumption) | assumption)
               obtain ⟨ad123, A123_1, c123_1, e123, hx123_0, hx123_1, hl123_1, hi123_1⟩ := at_T52 HR0_3.out a1 p123 q123
               have hw123_1 := hx123_1
               have hw123_0 := hx123_0
               cases e123
               replace hx123_0 := (HB.out.cell (World.block_lt_of_cell? w _ hx123_0)).trans hx123_0
               replace hx123_1 := (HB.out.cell (World.block_lt_of_cell? w _ hx123_1)).trans hx123_1
               have HR123_1 := Aside0.mk hi123_1
               have HC123_1 := Aside0.mk hl123_1
               clear hi123_1 hl123_1
               replace p123 := eq_true p123
               replace q123 := eq_true q123
               refine start_ (n := 11) (S := fun w' => w'.cell? ⟨gb120, 0, none⟩ = some (.slice A0_0 l0_0.length c0_0) ∧ w'.cell? ⟨gb120, 1, none⟩ = some (.slice A0_1 l0_1.length c0_1) ∧ w'.cell? ⟨gb120, 2, none⟩ = some (.int .i64 a0_2) ∧ w'.cell? ⟨gb120, 3, none⟩ = some (.slice (some ad123) l0_3.length c0_3) ∧ w'.cell? (ad123.add ((a1).toNat * 2)) = some (.int .i64 ((rd_T52 l0_3 a1).f0)) ∧ w'.cell? ⟨(ad123.add ((a1).toNat * 2)).block, (ad123.add ((a1).toNat * 2)).off + 1, none⟩ = some (.slice A123_1 ((rd_T52 l0_3 a1).f1).length c123_1)) (ds := []) #[false, false, false, false, false, false, false, false, false, false, false] (by kernel_rfl) rfl rfl ⟨(blk_cell BK120.out 0).trans rfl, (blk_cell BK120.out 1).trans rfl, (blk_cell BK120.out 2).trans rfl, (blk_cell BK120.out 3).trans rfl, ((HB.out.cell (World.block_lt_of_cell? w _ hw123_0)).trans hw123_0), ((HB.out.cell (World.block_lt_of_cell? w _ hw123_1)).trans hw123_1)⟩ (fun hHeld => ?_); refine with_tabW dovetailref05_Rule.tab6 dovetailref05_Rule.bits6 (fun HT_ HW_ => ?_)
               generalize wc.drew = w25 at BK120 HB HR123_1 hx123_0 hx123_1 hHeld ⊢
               refine pure_ (i := 1) (N := some 27) (v := ?_) (a' := ?_) #[false, true, false, false, false, false, false, false, false, false, false] rfl rfl (any_of HT_.out (by kernel_rfl)) (fun _ _ _ h => h) (Or.inl ⟨by rfl, ?_⟩) ?_ ?_
               rotate_left
               · intro w'
                 go_simp
                 with_reducible rfl
               rotate_left
               · simp only [Act.put, List.setIfInBounds_toArray, List.set_cons_zero, List.set_cons_succ, i64_w, i32_w]
                 rfl
               refine pure_ (i := 3) (N := some 29) (v := ?_) (a' := ?_) #[false, true, false, true, false, false, false, false, false, false, false] rfl rfl (any_of HT_.out (by kernel_rfl)) (fun _ _ _ h => h) (Or.inl ⟨by rfl, ?_⟩) ?_ ?_
               rotate_left
               · intro w'
                 go_simp
                 with_reducible rfl
               rotate_left
               · simp only [Act.put, List.setIfInBounds_toArray, List.set_cons_zero, List.set_cons_succ, i64_w, i32_w]
                 rfl
               refine take_ (i := 0) (N := some 26) (v := ?_) (a' := ?_) #[true, true, false, true, false, false, false, false, false, false, false] rfl rfl (take_ofW HT_.out HW_.out (by kernel_rfl)) (fun _ _ _ h => h) (Or.inl ⟨by rfl, ?_⟩) hHeld ?_ ?_
               rotate_left
               · rintro w' ⟨s0, s1, s2, s3, s4, s5⟩
                 go_simp
                 with_reducible rfl
               rotate_left
               · simp only [Act.put, List.setIfInBounds_toArray, List.set_cons_zero, List.set_cons_succ, i64_w, i32_w]
                 rfl
               refine take_ (i := 2) (N := some 28) (v := ?_) (a' := ?_) #[true, true, true, true, false, false, false, false, false, false, false] rfl rfl (take_ofW HT_.out HW_.out (by kernel_rfl)) (fun _ _ _ h => h) (Or.inl ⟨by rfl, ?_⟩) hHeld ?_ ?_
               rotate_left
               · rintro w' ⟨s0, s1, s2, s3, s4, s5⟩
                 go_simp
                 with_reducible rfl
               rotate_left
               · simp only [Act.put, List.setIfInBounds_toArray, List.set_cons_zero, List.set_cons_succ, i64_w, i32_w]
                 rfl
               refine pure_ (i := 4) (N := some 30) (v := ?_) (a' := ?_) #[true, true, true, true, true, false, false, false, false, false, false] rfl rfl (any_of HT_.out (by kernel_rfl)) (fun _ _ _ h => h) (Or.inl ⟨by rfl, ?_⟩) ?_ ?_
               rotate_left
               · intro w'
                 go_simp
                 with_reducible rfl
               rotate_left
               · simp only [Act.put, List.setIfInBounds_toArray, List.set_cons_zero, List.set_cons_succ, i64_w, i32_w]
                 rfl
               refine pure_ (i := 5) (N := some 31) (v := ?_) (a' := ?_) #[true, true, true, true, true, true, false, false, false, false, false] rfl rfl (any_of HT_.out (by kernel_rfl)) (fun _ _ _ h => h) (Or.inl ⟨by rfl, ?_⟩) ?_ ?_
               rotate_left
               · intro w'
                 go_simp
                 with_reducible rfl
               rotate_left
               · simp only [Act.put, List.setIfInBounds_toArray, List.set_cons_zero, List.set_cons_succ, i64_w, i32_w]
                 rfl
               refine take_ (i := 6) (N := some 32) (v := ?_) (a' := ?_) #[true, true, true, true, true, true, true, false, false, false, false] rfl rfl (take_ofW HT_.out HW_.out (by kernel_rfl)) (fun _ _ _ h => h) (Or.inl ⟨by rfl, ?_⟩) hHeld ?_ ?_
               rotate_left
               · rintro w' ⟨s0, s1, s2, s3, s4, s5⟩
                 go_simp
                 with_reducible rfl
               rotate_left
               · simp only [Act.put, List.setIfInBounds_toArray, List.set_cons_zero, List.set_cons_succ, i64_w, i32_w]
                 rfl
               refine pure_ (i := 7) (N := some 33) (v := ?_) (a' := ?_) #[true, true, true, true, true, true, true, true, false, false, false] rfl rfl (any_of HT_.out (by kernel_rfl)) (fun _ _ _ h => h) (Or.inl ⟨by rfl, ?_⟩) ?_ ?_
               rotate_left
               · intro w'
                 go_simp
                 with_reducible rfl
               rotate_left
               · simp only [Act.put, List.setIfInBounds_toArray, List.set_cons_zero, List.set_cons_succ, i64_w, i32_w]
                 rfl
               refine one_ (i := 8) (N := some 34) #[true, true, true, true, true, true, true, true, true, false, false] rfl rfl (one_of HT_.out (by kernel_rfl)) (by decide) (fun K hK => ?_)
               refine goes_ Tryd.func20 (by kernel_rfl) rfl #[.agg #[.slice A0_0 l0_0.length c0_0, .slice A0_1 l0_1.length c0_1, .int .i64 a0_2, .slice (some ad123) l0_3.length c0_3], .int .i64 (wrap64 ((-1) - ((rd_T52 l0_3 a1).f0)))] (by rfl) rfl rfl (by (try simp only [List.map_toArray, List.map_cons, List.map_nil]); first | done | rfl | (simp only [List.length_drop, List.length_take]; rfl)) ?_
               with_reducible refine (dovetailref05_Symbol.calls kj4 _ _ l0_0 _ _ l0_1 a0_2 _ _ l0_3 (wrap64 ((-1) - ((rd_T52 l0_3 a1).f0))) t124 _ ?side1 ?side2 ?side3 ?side4 ?side5 ?side6 A14.out).mono ?_
               (case side1 => repeat (first | exact (Kd.C_below HR0_0.out HB.out) | (with_reducible refine Kd.C_alloc ?_ _) | (with_reducible refine Kd.C_drewN ?_ _) | (with_reducible refine Kd.C_drew ?_)))
               (case side2 => exact HC0_0.out)
               (case side3 => repeat (first | exact (Kd.C_below HR0_1.out HB.out) | (with_reducible refine Kd.C_alloc ?_ _) | (with_reducible refine Kd.C_drewN ?_ _) | (with_reducible refine Kd.C_drew ?_)))
               (case side4 => exact HC0_1.out)
               (case side5 => repeat (first | exact (Kd.C_below HR0_3.out HB.out) | (with_reducible refine Kd.C_alloc ?_ _) | (with_reducible refine Kd.C_drewN ?_ _) | (with_reducible refine Kd.C_drew ?_)))
               (case side6 => exact HC0_3.out)
               rintro e w26 ⟨rfl, hb⟩
               refine ⟨_, rfl, ?_⟩
               have n0_ := Aside0.mk (blk_below (g := gb120) (o := .cells #[.slice A0_0 l0_0.length c0_0, .slice A0_1 l0_1.length c0_1, .int .i64 a0_2, .slice (some ad123) l0_3.length c0_3] 25 (0, 0)) (by (with_reducible repeat (first | refine blk_drewN ?_ _ | refine blk_drew ?_ | refine blk_alloc ?_ _)); exact BK120.out) hb)
               have n1_ := Aside0.mk (below_step (by repeat (first | (with_reducible first | exact HB.out | apply below_alloc | apply pw_below_drewN | apply below_drew1 | refine below_set ?_ GE120.out) | exact HB.out)) hb)
               clear BK120
               clear HB
               have BK120 := n0_
               have HB := n1_
               clear n0_ n1_
               (try clear hb)
               (try clear hb2)
               (try clear hk)
               (try clear hi)
               refine hK.out _ _ ⟨(blk_cell BK120.out 0).trans rfl, (blk_cell BK120.out 1).trans rfl, (blk_cell BK120.out 2).trans rfl, (blk_cell BK120.out 3).trans rfl, ((HB.out.cell (World.block_lt_of_cell? w _ hw123_0)).trans hw123_0), ((HB.out.cell (World.block_lt_of_cell? w _ hw123_1)).trans hw123_1)⟩ (fun hHeld => ?_)
               clear hK K
               refine norm_ (a' := ?_) ?_ ?_
               rotate_left
               · show Act.put _ (some 34) _ = _
                 simp only [Act.put, List.setIfInBounds_toArray, List.set_cons_zero, List.set_cons_succ, i64_w, i32_w]
                 rfl
               refine pure_ (i := 9) (N := some 35) (v := ?_) (a' := ?_) #[true, true, true, true, true, true, true, true, true, true, false] rfl rfl (any_of HT_.out (by kernel_rfl)) (fun _ _ _ h => h) (Or.inl ⟨by rfl, ?_⟩) ?_ ?_
               rotate_left
               · intro w'
                 go_simp
                 with_reducible rfl
               rotate_left
               · simp only [Act.put, List.setIfInBounds_toArray, List.set_cons_zero, List.set_cons_succ, i64_w, i32_w]
                 rfl
               refine pure_ (i := 10) (N := some 8) (v := ?_) (a' := ?_) #[true, true, true, true, true, true, true, true, true, true, true] rfl rfl (any_of HT_.out (by kernel_rfl)) (fun _ _ _ h => h) (Or.inl ⟨by rfl, ?_⟩) ?_ ?_
               rotate_left
               · intro w'
                 go_simp
                 with_reducible rfl
               rotate_left
               · simp only [Act.put, List.setIfInBounds_toArray, List.set_cons_zero, List.set_cons_succ, i64_w, i32_w]
                 rfl
               refine done_ (done_of HT_.out (by kernel_rfl)) ?_
               have hcz27_0 : w26.cell? ⟨gb120, 0, none⟩ = some (.slice A0_0 l0_0.length c0_0) := (blk_cell BK120.out 0).trans rfl
               have hcz27_1 : w26.cell? ⟨gb120, 1, none⟩ = some (.slice A0_1 l0_1.length c0_1) := (blk_cell BK120.out 1).trans rfl
               have hcz27_2 : w26.cell? ⟨gb120, 2, none⟩ = some (.int .i64 a0_2) := (blk_cell BK120.out 2).trans rfl
               have hcz27_3 : w26.cell? ⟨gb120, 3, none⟩ = some (.slice (some ad123) l0_3.length c0_3) := (blk_cell BK120.out 3).trans rfl
               have hfz27_0 := blk_frozen BK120.out 0
               have hfz27_1 := blk_frozen BK120.out 1
               have hfz27_2 := blk_frozen BK120.out 2
               have hfz27_3 := blk_frozen BK120.out 3
               have p125 : 0 ≤ (a1 : Int) := of_decide_eq_true (by first | (with_reducible assumption) | assumption)
               have q125 : a1 < (l0_3.length : Int) := of_decide_eq_true (by first | (with_reducible assumption) | assumption)
               obtain ⟨ad125, A125_1, c125_1, e125, hx125_0, hx125_1, hl125_1, hi125_1⟩ := at_T52 HR0_3.out a1 p125 q125
               obtain rfl : ad123 = ad125 := (by injection e125)
               replace hx125_0 := (HB.out.cell (World.block_lt_of_cell? w _ hx125_0)).trans hx125_0
               replace hx125_1 := (HB.out.cell (World.block_lt_of_cell? w _ hx125_1)).trans hx125_1
               have HR125_1 := Aside0.mk hi125_1
               have HC125_1 := Aside0.mk hl125_1
               clear hi125_1 hl125_1
               replace p125 := eq_true p125
               replace q125 := eq_true q125
               try go_wp2
               go_ret2
               exact ⟨by first | rfl | (simp [errW_none, errW_some] <;> rfl) | (simp [*, errW_none, errW_some] <;> rfl), by repeat (first | (with_reducible first | exact HB.out | apply below_alloc | apply pw_below_drewN | apply below_drew1 | refine below_set ?_ GE120.out) | exact HB.out)⟩
           · rw [if_neg c15] at H
             exact absurd H (by simp)
         · rw [if_neg c13] at H
           exact absurd H (by simp)
       · rw [if_neg c12] at H
         exact absurd H (by simp)
 · rw [if_neg c4] at H
   have c4b0 : (t121 == 0) = false := beq_eq_false_iff_ne.mpr c4
   have c4b1 : (t121 != 0) = true := bne_iff_ne.mpr c4
   simp only [Option.some.injEq, Prod.mk.injEq] at H
   obtain ⟨rfl, rfl⟩ := H
   go_enter Tryd.func18, Tryd.ntmps18
   go_wp2_with (first | ((with_reducible refine gate_dst (N := 2) rfl ?_); (try (refine gate_guard (by rfl) ?_; dsimp only)); refine box_event ?hg (N := 2) ?hd (cs := #[.slice A0_0 l0_0.length c0_0, .slice A0_1 l0_1.length c0_1, .int .i64 a0_2, .slice A0_3 l0_3.length c0_3]) (t := 25) ?hr ?_; (case hd => rfl); (case hg => rfl); (case hr => first | (go_simp; done) | (go_simp; rfl)); intro gb120 hg w28 hbox hb; have n0_ := Aside0.mk (below_step (by repeat (first | (with_reducible first | exact HB.out | apply below_alloc | apply pw_below_drewN | apply below_drew1) | exact HB.out)) hb); have n1_ := Aside0.mk (hbox); have n2_ := Aside0.mk ((by rw [hg]; exact (below_size (by repeat (first | (with_reducible first | exact HB.out | apply below_alloc | apply pw_below_drewN | apply below_drew1) | exact HB.out))) : w.heap.size ≤ gb120)); have n3_ := Aside0.mk ((by rw [hg]; exact (below_size (by repeat (first | (with_reducible first | exact HB.out | apply below_alloc | apply pw_below_drewN | apply below_drew1) | exact HB.out))) : w.heap.size ≤ gb120)); clear HB; have HB := n0_; have BK120 := n1_; have GW120 := n2_; have GE120 := n3_; clear n0_ n1_ n2_ n3_; clear hb hbox hg; have hcz29_0 : w28.cell? ⟨gb120, 0, none⟩ = some (.slice A0_0 l0_0.length c0_0) := (blk_cell BK120.out 0).trans rfl; have hcz29_1 : w28.cell? ⟨gb120, 1, none⟩ = some (.slice A0_1 l0_1.length c0_1) := (blk_cell BK120.out 1).trans rfl; have hcz29_2 : w28.cell? ⟨gb120, 2, none⟩ = some (.int .i64 a0_2) := (blk_cell BK120.out 2).trans rfl; have hcz29_3 : w28.cell? ⟨gb120, 3, none⟩ = some (.slice A0_3 l0_3.length c0_3) := (blk_cell BK120.out 3).trans rfl; have hfz29_0 := blk_frozen BK120.out 0; have hfz29_1 := blk_frozen BK120.out 1; have hfz29_2 := blk_frozen BK120.out 2; have hfz29_3 := blk_frozen BK120.out 3) | ((with_reducible refine gate_callee (f := 53) rfl ?_); refine goesL_ (some 11) rfl rfl Tryd.func53 (by kernel_rfl) rfl #[.agg #[.slice A0_0 l0_0.length c0_0, .slice A0_1 l0_1.length c0_1, .int .i64 a0_2, .slice A0_3 l0_3.length c0_3]] rfl (by (try simp only [List.map_toArray, List.map_cons, List.map_nil]); first | done | rfl | (simp only [List.length_drop, List.length_take]; rfl)) ?_; (with_reducible refine (dovetailref03_Check.calls k _ _ l0_0 _ _ l0_1 a0_2 _ _ l0_3 t121 t122 _ ?side1 ?side2 ?side3 ?side4 ?side5 ?side6 A3.out).mono ?_); (case side1 => repeat (first | exact (Kd.C_below HR0_0.out HB.out) | (with_reducible refine Kd.C_alloc ?_ _) | (with_reducible refine Kd.C_drewN ?_ _) | (with_reducible refine Kd.C_drew ?_))); (case side2 => exact HC0_0.out); (case side3 => repeat (first | exact (Kd.C_below HR0_1.out HB.out) | (with_reducible refine Kd.C_alloc ?_ _) | (with_reducible refine Kd.C_drewN ?_ _) | (with_reducible refine Kd.C_drew ?_))); (case side4 => exact HC0_1.out); (case side5 => repeat (first | exact (Kd.C_below HR0_3.out HB.out) | (with_reducible refine Kd.C_alloc ?_ _) | (with_reducible refine Kd.C_drewN ?_ _) | (with_reducible refine Kd.C_drew ?_))); (case side6 => exact HC0_3.out); rintro e w30 ⟨rfl, hb⟩; refine ⟨_, rfl, ?_⟩; have n0_ := Aside0.mk (blk_below (g := gb120) (o := .cells #[.slice A0_0 l0_0.length c0_0, .slice A0_1 l0_1.length c0_1, .int .i64 a0_2, .slice A0_3 l0_3.length c0_3] 25 (0, 0)) (by (with_reducible repeat (first | refine blk_drewN ?_ _ | refine blk_drew ?_ | refine blk_alloc ?_ _)); exact BK120.out) hb); have n1_ := Aside0.mk (below_step (by repeat (first | (with_reducible first | exact HB.out | apply below_alloc | apply pw_below_drewN | apply below_drew1 | refine below_set ?_ GE120.out) | exact HB.out)) hb); clear BK120; clear HB; have BK120 := n0_; have HB := n1_; clear n0_ n1_; (try clear hb); (try clear hb2); (try clear hk); (try clear hi)))
   go_ret2
   exact ⟨by first | rfl | (simp [errW_none, errW_some] <;> rfl) | (simp [*, errW_none, errW_some] <;> rfl), by repeat (first | (with_reducible first | exact HB.out | apply below_alloc | apply pw_below_drewN | apply below_drew1 | refine below_set ?_ GE120.out) | exact HB.out)⟩

end Go.Proofs.YthjhaogfpdkhbaaDoor.D
namespace Go.Proofs.YthjhaogfpdkhbaaDoor.D
open B (S52 z52 k52 k52_open rd_T52 at_T52 dovetailref03_Check.f dovetailref03_Check.calls dovetailref03_Check.mono dovetailref05_Symbol.f dovetailref05_Symbol.calls dovetailref05_Symbol.mono)
open Go.RowKit YthjhaogfpdkhbaaDoorW.PrintWords YthjhaogfpdkhbaaDoorW.PrintLast YthjhaogfpdkhbaaDoorW.PrintMore
attribute [local go_sem] max2_int min2_int max_two min_two max_three min_three max_four min_four   -- for this text's walks alone
set_option linter.unusedVariables false
set_option linter.unusedSimpArgs false

end Go.Proofs.YthjhaogfpdkhbaaDoor.D
/- Chapter 5: the document's Symbols, Rule, Readable, Text answer what the definitions say. -/
namespace Go.Proofs.YthjhaogfpdkhbaaDoor.Sh
open Go.RowKit YthjhaogfpdkhbaaDoorW.PrintWords YthjhaogfpdkhbaaDoorW.PrintLast YthjhaogfpdkhbaaDoorW.PrintMore
open B H D

theorem nbOf (a : ByteArray) : bytesOf a = nb a.data.toList := rfl
section
variable {l0 l1 : List ByteArray} {a2 : Int} {R : List S52} {m : Nat}
theorem rSymbols_f (hm : m ≤ 35184372088831) (h0 : ∀ x ∈ l0, x.size ≤ m) (h1 : ∀ x ∈ l1, x.size ≤ m) (hl0 : l0.length ≤ 9223372036854775806) (hl : l1.length ≤ 9223372036854775806) (l : List Int) (hb : (4 * m + 5) * l.length < 140737488355328) (k : Nat) (hk : l.length + (l1.length + 3 * m + 4) < k) :
 dovetailref05_Symbols.f k l0 l1 a2 R l = some ⟨(P.symsL l0 l1 l).toArray⟩ := by
 have hlen : ∀ i, (P.symsL l0 l1 (l.take i)).length ≤ (4 * m + 5) * l.length := fun i => Nat.le_trans (P.symsL_length h0 h1 (l.take i)) (Nat.mul_le_mul_left _ (List.length_take_le' _ _))
 have hll : l.length < 140737488355328 := Nat.lt_of_le_of_lt (Nat.le_mul_of_pos_left _ (by omega)) hb
 have main : ∀ (d i k : Nat), l.length - i = d → i ≤ l.length → d + (l1.length + 3 * m + 4) < k → dovetailref05_Symbols.l0 k l (nb (P.symsL l0 l1 (l.take i))) (i : Int) l0 l1 a2 R = some (strOfNums (nb (P.symsL l0 l1 l))) := by
  intro d
  induction d with
  | zero =>
   intro i k hd hi hk
   obtain ⟨k, rfl⟩ : ∃ j, k = j + 1 := ⟨k - 1, by omega⟩
   have : i = l.length := by omega
   subst this
   rw [dovetailref05_Symbols.l0, if_neg (by omega), List.take_length]
  | succ d ih =>
   intro i k hd hi hk
   obtain ⟨k, rfl⟩ : ∃ j, k = j + 1 := ⟨k - 1, by omega⟩
   have hlt : i < l.length := by omega
   have hs := hlen (i + 1)
   have hsn : P.symsL l0 l1 (l.take (i + 1)) = P.symsL l0 l1 (l.take i) ++ (if l.take i = [] then [] else [32]) ++ P.symL l0 l1 l[i] := by
    rw [List.take_succ_eq_append_getElem hlt, P.symsL_snoc]
   have hnext := ih (i + 1) k (by omega) (by omega) (by omega)
   rw [hsn] at hs hnext
   rw [List.length_append, List.length_append] at hs
   have hsym := rsym_f (a2 := a2) (R := R) hm h0 h1 hl0 hl l[i] k (by omega)
   have hrd : rd l (i : Int) = l[i] := by rw [rd_D, getD_lt _ _ _ hlt]
   rw [dovetailref05_Symbols.l0, if_pos (by omega), w64n i (by omega), hrd]
   by_cases c : i = 0
   · subst c
     rw [List.take_zero, if_pos rfl] at hnext hs
     rw [List.take_zero, if_neg (by omega), if_pos (by omega), hsym, Option.bind_some, nb_length, P.size_lit, if_pos (by simp only [List.length_nil] at hs; omega), nbOf]
     rw [List.append_nil, nb_append] at hnext
     exact hnext
   · have hne : l.take i ≠ [] := by
      intro h
      have := congrArg List.length h
      rw [List.length_take, List.length_nil] at this
      omega
     rw [if_neg hne, List.length_singleton] at hs
     rw [if_neg hne] at hnext
     rw [if_pos (by omega), nb_length, if_pos (by omega), Option.bind_some, if_pos (by omega), hsym, Option.bind_some, List.length_append, nb_length, P.size_lit, if_pos (by simp only [List.length_singleton]; omega), nbOf]
     rw [nb_append, nb_append] at hnext
     exact hnext
 unfold dovetailref05_Symbols.f
 have := main l.length 0 k (by omega) (by omega) hk
 rw [nb_str] at this
 exact this
theorem names_small {l : List ByteArray} (h : namesOK l = true) : ∀ x ∈ l, x.size ≤ 32 := by
 intro x hx
 obtain ⟨i, hi, rfl⟩ := List.getElem_of_mem hx
 unfold namesOK at h
 have := List.all_eq_true.1 h i (by simpa using hi)
 simp only [faultAt, Bool.not_eq_true', Bool.or_eq_false_iff, getD_lt _ _ _ hi, decide_eq_false_iff_not] at this
 omega
def ruleP (l0 l1 : List ByteArray) (a2 : Int) (R : List S52) (n : Int) : List UInt8 × (Int × Int) :=
 if (chk (namesOK l0) (namesOK l1) l0.length l1.length a2 R).1 = 0 then
  if n < 0 ∨ (R.length : Int) ≤ n then ([], (1, -1)) else (P.ruleL l0 l1 (R.getD n.toNat ⟨0, []⟩), (0, -1))
 else ([], chk (namesOK l0) (namesOK l1) l0.length l1.length a2 R)
theorem rRule_f (m0 : l0.length ≤ 9223372036854775807) (m1 : l1.length ≤ 9223372036854775807) (n : Int) : ∃ k, dovetailref05_Rule.f k l0 l1 a2 R n = some (⟨(ruleP l0 l1 a2 R n).1.toArray⟩, (ruleP l0 l1 a2 R n).2.1) := by
 unfold ruleP
 by_cases h : (chk (namesOK l0) (namesOK l1) l0.length l1.length a2 R).1 = 0
 · rw [if_pos h]
   obtain ⟨q1, q2, q3, q4, q5, q6, q7⟩ := chk_ok h
   have z0 := names_small q3
   have z1 := names_small q4
   by_cases ho : n < 0 ∨ (R.length : Int) ≤ n
   · rw [if_pos ho]
     refine ⟨20000, ?_⟩
     unfold dovetailref05_Rule.f
     rw [refCheck_f l0 l1 a2 R m0 m1 _ (Nat.le_refl _), Option.bind_some, if_pos h]
     have hj : dovetailref05_Rule.j0 20000 n true l0 l1 a2 R = some (⟨#[]⟩, 1) := by rw [dovetailref05_Rule.j0, if_pos rfl]
     by_cases c : n < 0
     · rw [if_pos c]; exact hj
     · rw [if_neg c, decide_eq_true (by omega)]; exact hj
   · rw [if_neg ho]
     obtain ⟨n, rfl⟩ : ∃ j : Nat, n = j := ⟨n.toNat, by omega⟩
     have hn : n < R.length := by omega
     have hx := okR_sides (q7 R[n] (List.getElem_mem hn))
     have hrd : rd_T52 R (n : Int) = R[n] := by rw [rdR_D, getD_lt R n _ hn]
     rw [Int.toNat_natCast, getD_lt R n _ hn]
     generalize R[n] = x at hx hrd
     have hs := P.symL_length z0 z1 (-1 - x.f0)
     have ht := P.symsL_length z0 z1 x.f1
     have ht2 : (4 * 32 + 5) * x.f1.length ≤ (4 * 32 + 5) * 32 := Nat.mul_le_mul_left _ hx.1
     refine ⟨20001, ?_⟩
     unfold dovetailref05_Rule.f
     rw [refCheck_f l0 l1 a2 R m0 m1 _ (by omega), Option.bind_some, if_pos h, if_neg (by omega), decide_eq_false (by omega)]
     rw [dovetailref05_Rule.j0, if_neg (by decide), if_pos (by omega), if_pos (by omega), hrd, w64m x.f0 (by omega) (by omega), rsym_f (m := 32) (by omega) z0 z1 (by omega) (by omega) _ _ (by omega), Option.bind_some, P.size_lit, if_pos (by omega)]
     unfold P.ruleL
     by_cases c : x.f1 = []
     · have e : (x.f1.length : Int) = 0 := by rw [c]; rfl
       rw [if_neg (by omega), c]
       congr 2
       refine ba_eq ?_
       rw [P.data_append]
       simp [P.tlL]
     · have e : 0 < x.f1.length := List.length_pos_iff.2 c
       rw [if_pos (by omega), P.size_append, P.size_lit, if_pos (by show (P.symL l0 l1 (-1 - x.f0)).length + 2 + 1 ≤ _; omega), rSymbols_f (m := 32) (by omega) z0 z1 (by omega) (by omega) _ (by omega) _ (by omega), Option.bind_some, P.size_append, P.size_append, P.size_lit, P.size_lit, if_pos (by show (P.symL l0 l1 (-1 - x.f0)).length + 2 + 1 + (P.symsL l0 l1 x.f1).length ≤ _; omega), P.tlL_syms l0 l1 x.f1 c]
       congr 2
       refine ba_eq ?_
       rw [P.data_append, P.data_append, P.data_append]
       simp
 · rw [if_neg h]
   refine ⟨20000, ?_⟩
   unfold dovetailref05_Rule.f
   rw [refCheck_f l0 l1 a2 R m0 m1 _ (Nat.le_refl _), Option.bind_some, if_neg h]
end
end Go.Proofs.YthjhaogfpdkhbaaDoor.Sh
/- errors.Is at a rule error, after the kit's worked example. -/
namespace Go.Proofs.YthjhaogfpdkhbaaDoor.E
open Go.RowKit Go.Extern.Stop Go.Stop Go.Extern
theorem noIsWR (v : Value) (xT : TypeId) (w : World) : (Instr.typeAssert (.iface 126 v) xT 152 true).run Tryd.prog w = .ok (.tuple #[.nilIface, .bool false]) w := run_typeAssert_lacksB Tryd.underlying152 (by kernel_rfl) (by kernel_rfl) v xT w
theorem hasUnwrapWR (v : Value) (xT : TypeId) (w : World) : (Instr.typeAssert (.iface 126 v) xT 155 true).run Tryd.prog w = .ok (.tuple #[.iface 126 v, .bool true]) w := run_typeAssert_hasB Tryd.underlying155 (by kernel_rfl) v xT w
theorem methodUnwrapR (v : Value) (w : World) : (Go.method 309 126 v "Unwrap").run Tryd.prog w = .ok (133, v) w := by kernel_rfl

theorem isR_same (pb po : Nat) (b : Addr) (w : World) (h1 : w.cell? ⟨pb, po + 1, none⟩ = some (.iface 178 (.pointer (some b)))) :
 Calls Tryd.prog 55 #[.iface 126 (.pointer (some ⟨pb, po, none⟩)), .iface 178 (.pointer (some b))] w fun e w' => e = .returned (.bool true) ∧ w = w' := by
 obtain ⟨i, hi, hcmp⟩ := Option.map_eq_some_iff.1 isComp
 obtain ⟨j, hj, hjs⟩ := Option.map_eq_some_iff.1 isSize
 have h8 := @run_callFunc_extern Tryd.prog 86 _ Extern.ReflectliteType.typeOf Tryd.func86 (by kernel_rfl) (by kernel_rfl) (by kernel_rfl) (by kernel_rfl)
 have h32 := @run_callFunc_extern Tryd.prog 136 _ compF Tryd.func136 (by kernel_rfl) (by kernel_rfl) (by kernel_rfl) (by kernel_rfl)
 have tT := isTypeOf
 have cT := isComparable
 have mR := isMethodComparable
 have nE := noIsE
 have uE := noUnwrapE
 have vE := noUnwrapsE
 have nW := noIsWR
 have uW := hasUnwrapWR
 have mU := methodUnwrapR
 have heq := run_eql_iface_ptr_same (P := Tryd.prog) w b Tryd.underlying30 Tryd.underlying178 hi hcmp hj
 have hty := run_eql_iface_types (P := Tryd.prog) 126 178 (.pointer (some ⟨pb, po, none⟩)) (.pointer (some b)) Tryd.underlying30 (by decide) w
 go_enter Tryd.func55, Tryd.ntmps55
 go_wp2
 refine wp_loop_rounds 2 ?_
 rw [rounds_succ]
 go_wp2
 rw [rounds_succ]
 go_wp2
 go_ret
 exact ⟨rfl, rfl⟩

theorem isR_other (pb po : Nat) (b a : Addr) (ca cb : Array Value) (ta tb : TypeId) (w : World) (h1 : w.cell? ⟨pb, po + 1, none⟩ = some (.iface 178 (.pointer (some a)))) (hne : a ≠ b) (ha : w.heap[a.block]? = some (.cells ca ta (0, 0))) (hb : w.heap[b.block]? = some (.cells cb tb (0, 0))) :
 Calls Tryd.prog 55 #[.iface 126 (.pointer (some ⟨pb, po, none⟩)), .iface 178 (.pointer (some b))] w fun e w' => e = .returned (.bool false) ∧ w = w' := by
 obtain ⟨i, hi, hcmp⟩ := Option.map_eq_some_iff.1 isComp
 obtain ⟨j, hj, hjs⟩ := Option.map_eq_some_iff.1 isSize
 have h8 := @run_callFunc_extern Tryd.prog 86 _ Extern.ReflectliteType.typeOf Tryd.func86 (by kernel_rfl) (by kernel_rfl) (by kernel_rfl) (by kernel_rfl)
 have h32 := @run_callFunc_extern Tryd.prog 136 _ compF Tryd.func136 (by kernel_rfl) (by kernel_rfl) (by kernel_rfl) (by kernel_rfl)
 have tT := isTypeOf
 have cT := isComparable
 have mR := isMethodComparable
 have nE := noIsE
 have uE := noUnwrapE
 have vE := noUnwrapsE
 have nW := noIsWR
 have uW := hasUnwrapWR
 have mU := methodUnwrapR
 have heq := run_eql_iface_ptr_other (P := Tryd.prog) w Tryd.underlying30 Tryd.underlying178 hi hcmp hj (by rw [hjs]; decide) hne ha hb
 have hty := run_eql_iface_types (P := Tryd.prog) 126 178 (.pointer (some ⟨pb, po, none⟩)) (.pointer (some b)) Tryd.underlying30 (by decide) w
 go_enter Tryd.func55, Tryd.ntmps55
 go_wp2
 refine wp_loop_rounds 2 ?_
 rw [rounds_succ]
 go_wp2
 rw [rounds_succ]
 go_wp2
 go_ret
 exact ⟨rfl, rfl⟩
end Go.Proofs.YthjhaogfpdkhbaaDoor.E
/- errors.As at a rule error, after the kit's worked example. -/
namespace Go.Proofs.YthjhaogfpdkhbaaDoor.E
open Go.RowKit Go.Extern.Stop Go.Stop Go.Extern

end Go.Proofs.YthjhaogfpdkhbaaDoor.E
/- kit.Kind and kit.Rule of what gram.Check answers. -/
namespace Go.Proofs.YthjhaogfpdkhbaaDoor.B
open Go.RowKit YthjhaogfpdkhbaaDoorW.PrintWords YthjhaogfpdkhbaaDoorW.PrintLast YthjhaogfpdkhbaaDoorW.PrintMore E

theorem IsK.rule {ad : Int → Addr} {w : World} (hs : SentsK ad w) (k : Int) (h1 : 1 ≤ k) (h2 : k ≤ 15) (b : Nat) (hc : w.cell? ⟨b, 1, none⟩ = some (.iface 178 (.pointer (some (ad k))))) : IsK ad w (.iface 126 (.pointer (some ⟨b, 0, none⟩))) k := by
 intro j hj1 hj2 W hW
 have hc' : W.cell? ⟨b, 0 + 1, none⟩ = some (.iface 178 (.pointer (some (ad k)))) := (hW.cell (World.block_lt_of_cell? w _ hc)).trans hc
 by_cases h : j = k
 · subst h
   rw [decide_eq_true rfl]
   exact isR_same b 0 (ad j) W hc'
 · rw [decide_eq_false h]
   obtain ⟨ca, ta, hca⟩ := (hs.below hW).box k h1 h2
   obtain ⟨cb, tb, hcb⟩ := (hs.below hW).box j hj1 hj2
   exact isR_other b 0 (ad j) (ad k) ca cb ta tb W hc' (hs.ne k j h1 h2 hj1 hj2 (fun e => h e.symm)) hca hcb
def Handle (w : World) : Prop := w.cell? ⟨15, 0, none⟩ = some (.iface 150 (.agg #[.pointer (some ⟨16, 30, none⟩)]))
theorem Handle.below {w w' : World} (h : Handle w) (hb : Below w.heap.size w w') : Handle w' := (hb.cell (World.block_lt_of_cell? w _ h)).trans h

end Go.Proofs.YthjhaogfpdkhbaaDoor.B
/- Errors of all kinds: none, a sentinel, a rule's; kit.Kind and kit.Rule of them; told by a number (kind + 16 * (rule + 1)). -/
namespace Go.Proofs.YthjhaogfpdkhbaaDoor.F
open Go.RowKit YthjhaogfpdkhbaaDoorW.PrintWords YthjhaogfpdkhbaaDoorW.PrintLast YthjhaogfpdkhbaaDoorW.PrintMore
open B E

def ErrW (ad : Int → Addr) (w : World) (v : Value) (p : Int × Int) : Prop :=
 (p.1 = 0 ∧ p.2 = -1 ∧ v = .nilIface) ∨ ((1 ≤ p.1 ∧ p.1 ≤ 15) ∧ p.2 = -1 ∧ v = .iface 178 (.pointer (some (ad p.1)))) ∨
 ((1 ≤ p.1 ∧ p.1 ≤ 15) ∧ 0 ≤ p.2 ∧ p.2 < 1000 ∧ ∃ b, v = .iface 126 (.pointer (some ⟨b, 0, none⟩)) ∧ w.heap[b]? = some (.cells #[.int .i64 p.2, .iface 178 (.pointer (some (ad p.1)))] 128 (0, 0)))
theorem ErrW.of {ad : Int → Addr} {w : World} {v : Value} {p : Int × Int} (h : ErrV ad w v p) : ErrW ad w v p := by
 rcases h with h | ⟨h1, h2, h3⟩ | ⟨h1, h2, h3, h4⟩
 · exact .inl h
 · exact .inr (.inl ⟨by omega, h2, h3⟩)
 · exact .inr (.inr ⟨by omega, h2, by omega, h4⟩)
theorem ErrW.below {ad : Int → Addr} {w w' : World} {v : Value} {p : Int × Int} (h : ErrW ad w v p) (hb : Below w.heap.size w w') : ErrW ad w' v p := by
 rcases h with h | h | ⟨h1, h2, h3, b, hv, hx⟩
 · exact .inl h
 · exact .inr (.inl h)
 · exact .inr (.inr ⟨h1, h2, h3, b, hv, Box.below (W := w) (W' := w') hx hb⟩)
theorem ErrW.nil {ad : Int → Addr} {w : World} {v : Value} {p : Int × Int} (h : ErrW ad w v p) (h0 : p.1 = 0) : v = .nilIface := by
 rcases h with h | h | h
 · exact h.2.2
 · have := h.1; omega
 · have := h.1; omega
theorem ErrW.any {ad : Int → Addr} {w : World} {v : Value} {p : Int × Int} (h : ErrW ad w v p) (h0 : p.1 ≠ 0) : ∃ t u, v = .iface t u := by
 rcases h with h | h | h
 · exact absurd h.1 h0
 · exact ⟨_, _, h.2.2⟩
 · obtain ⟨_, _, _, b, h, _⟩ := h; exact ⟨_, _, h⟩
theorem ErrW.sent {ad : Int → Addr} {w : World} {k : Int} (h1 : 1 ≤ k) (h2 : k ≤ 15) : ErrW ad w (.iface 178 (.pointer (some (ad k)))) (k, -1) := .inr (.inl ⟨⟨h1, h2⟩, rfl, rfl⟩)
theorem Kind_w {ad : Int → Addr} {w : World} (hs : SentsK ad w) {v : Value} {p : Int × Int} (hv : ErrW ad w v p) : Calls Tryd.prog 14 #[v] w fun e w' => e = .returned (.int .i64 p.1) ∧ Below w.heap.size w w' := by
 rcases hv with ⟨h0, _, rfl⟩ | ⟨h1, _, rfl⟩ | ⟨h1, _, _, b, rfl, hx⟩
 · rw [h0]; exact Kind_nil w
 · exact Kind_any ad _ _ p.1 h1.1 h1.2 w hs (IsK.sent hs p.1 h1.1 h1.2)
 · exact Kind_any ad _ _ p.1 h1.1 h1.2 w hs (IsK.rule hs p.1 h1.1 h1.2 b (Box.cell (W := w) hx 1 _ rfl))
def encE (p : Int × Int) : Option Int := if p.1 = 0 then none else some (p.1 + 16 * (p.2 + 1))
def kindE : Option Int → Int
 | none => 0
 | some c => c % 16
def ruleE : Option Int → Int
 | none => -1
 | some c => c / 16 - 1
def ErrF (ad : Int → Addr) (w : World) (v : Value) (r : Option Int) : Prop := ∃ p, ErrW ad w v p ∧ r = encE p
theorem ErrF.below {ad : Int → Addr} {w w' : World} {v : Value} {r : Option Int} (h : ErrF ad w v r) (hb : Below w.heap.size w w') : ErrF ad w' v r := by
 obtain ⟨p, h1, h2⟩ := h
 exact ⟨p, h1.below hb, h2⟩
theorem SentsK.three {ad : Int → Addr} {w : World} (h : SentsK ad w) : Go.Proofs.YthjhaogfpdkhbaaDoor.B.Sents ad w := by
 obtain ⟨⟨h1, h2, h3, h4, h5, h6, h7, h8, h9, h10, h11, h12, h13, h14, h15⟩, _, _⟩ := h
 exact ⟨h3, h10, h1⟩
theorem SentsK.arg {ad : Int → Addr} {w : World} (h : SentsK ad w) : w.cell? ⟨1, 0, none⟩ = some (.iface 178 (.pointer (some (ad 1)))) := by
 obtain ⟨⟨h1, h2, h3, h4, h5, h6, h7, h8, h9, h10, h11, h12, h13, h14, h15⟩, _, _⟩ := h
 exact h1
theorem Check_any (ad : Int → Addr) (A0 : Option Addr) (c0 : Nat) (l0 : List ByteArray) (A1 : Option Addr) (c1 : Nat) (l1 : List ByteArray) (a2 : Int) (A3 : Option Addr) (c3 : Nat) (l3 : List S52) (w : World) (hs : SentsK ad w) (hr0 : Kd.C Kd.string w A0 l0.length l0) (hc0 : l0.length ≤ c0) (hr1 : Kd.C Kd.string w A1 l1.length l1) (hc1 : l1.length ≤ c1) (hr3 : Kd.C k52 w A3 l3.length l3) (hc3 : l3.length ≤ c3) :
 Calls Tryd.prog 51 #[.agg #[.slice A0 l0.length c0, .slice A1 l1.length c1, .int .i64 a2, .slice A3 l3.length c3]] w fun e w' => (∃ v, e = .returned v ∧ ErrV ad w' v (chk (namesOK l0) (namesOK l1) l0.length l1.length a2 l3)) ∧ Below w.heap.size w w' := by
 have m0 := C_max hr0
 have m1 := C_max hr1
 exact Check_full ad _ A0 c0 l0 A1 c1 l1 a2 A3 c3 l3 _ _ w (SentsK.three hs) hr0 hc0 hr1 hc1 hr3 hc3 (Names_f l0 (l0.length + l0.length + l1.length + l1.length + 2) m0 (by omega)) (Names_f l1 (l0.length + l0.length + l1.length + l1.length + 2) m1 (by omega))
def dovetailkit_Kind.f (a0 : Option Int) : Option Int := some (kindE a0)
def dovetailkit_Rule.f (a0 : Option Int) : Option Int := some (ruleE a0)
end Go.Proofs.YthjhaogfpdkhbaaDoor.F
/- show.Rule, show.Readable: walked. -/
namespace Go.Proofs.YthjhaogfpdkhbaaDoor.Sh
open Go.RowKit YthjhaogfpdkhbaaDoorW.PrintWords YthjhaogfpdkhbaaDoorW.PrintLast YthjhaogfpdkhbaaDoorW.PrintMore
open B H F

theorem GS.alloc {w W : World} {cs : Array Value} (h : GS w cs W) (o : Obj) : GS w cs (W.alloc o) := h.more ((Below.refl _ W).alloc (Nat.le_refl _) o)
theorem GS.lt {w W : World} {cs : Array Value} (h : GS w cs W) : w.heap.size < W.heap.size := by
 have h2 : W.heap[w.heap.size]? = some (.cells cs 25 (0, 0)) := h.2
 rcases Nat.lt_or_ge w.heap.size W.heap.size with h1 | h1
 · exact h1
 · rw [Array.getElem?_eq_none h1] at h2; cases h2
set_option maxHeartbeats 4000000 in
set_option maxRecDepth 100000 in
theorem Rule_calls (ad : Int → Addr) (A0 : Option Addr) (c0 : Nat) (l0 : List ByteArray) (A1 : Option Addr) (c1 : Nat) (l1 : List ByteArray) (a2 : Int) (A3 : Option Addr) (c3 : Nat) (R : List S52) (n : Int) (w : World) (hs : SentsK ad w) (hr0 : Kd.C Kd.string w A0 l0.length l0) (hc0 : l0.length ≤ c0) (hr1 : Kd.C Kd.string w A1 l1.length l1) (hc1 : l1.length ≤ c1) (hr3 : Kd.C k52 w A3 R.length R) (hc3 : R.length ≤ c3) :
 Calls Tryd.prog 17 #[.agg #[.slice A0 l0.length c0, .slice A1 l1.length c1, .int .i64 a2, .slice A3 R.length c3], .int .i64 n] w fun e w' => ∃ E, e = .returned (.tuple #[.string ⟨(ruleP l0 l1 a2 R n).1.toArray⟩, E]) ∧ ErrW ad w' E (ruleP l0 l1 a2 R n).2 ∧ Below w.heap.size w w' := by
 have m0 := C_max hr0
 have m1 := C_max hr1
 obtain ⟨cs, hcs⟩ : ∃ cs : Array Value, cs = #[.slice A0 l0.length c0, .slice A1 l1.length c1, .int .i64 a2, .slice A3 R.length c3] := ⟨_, rfl⟩
 have st : GS w cs (w.alloc (.cells #[.slice A0 l0.length c0, .slice A1 l1.length c1, .int .i64 a2, .slice A3 R.length c3] 25)) := by subst hcs; exact GS.start w _
 have ce : ∀ W, GS w cs W → W.cell? ⟨w.heap.size, 0, none⟩ = some (.slice A0 l0.length c0) ∧ W.cell? ⟨w.heap.size, 1, none⟩ = some (.slice A1 l1.length c1) ∧ W.cell? ⟨w.heap.size, 2, none⟩ = some (.int .i64 a2) ∧ W.cell? ⟨w.heap.size, 3, none⟩ = some (.slice A3 R.length c3) := by
  intro W hW; subst hcs; exact hW.cells
 have kC : ∀ W, GS w cs W → Calls Tryd.prog 51 #[.agg #[.slice A0 l0.length c0, .slice A1 l1.length c1, .int .i64 a2, .slice A3 R.length c3]] W fun e w' => (∃ v, e = .returned v ∧ ErrW ad w' v (chk (namesOK l0) (namesOK l1) l0.length l1.length a2 R)) ∧ Aside0 (GS w cs w') := fun W hW =>
  (Check_any ad A0 c0 l0 A1 c1 l1 a2 A3 c3 R W (hs.below hW.low) (Kd.C_below hr0 hW.low) hc0 (Kd.C_below hr1 hW.low) hc1 (Kd.C_below hr3 hW.low) hc3).mono fun _ _ ⟨⟨v, he, hv⟩, hb⟩ => ⟨⟨v, he, ErrW.of hv⟩, ⟨hW.more hb⟩⟩
 have ST := Aside0.mk st
 have CE := Aside0.mk ce
 have HCS := Lib.hid hcs
 unfold ruleP
 by_cases hp : (chk (namesOK l0) (namesOK l1) l0.length l1.length a2 R).1 = 0
 rotate_left
 · rw [if_neg hp]
   have KC : Aside0 (∀ W, GS w cs W → Calls Tryd.prog 51 #[.agg #[.slice A0 l0.length c0, .slice A1 l1.length c1, .int .i64 a2, .slice A3 R.length c3]] W fun e w' => ∃ t u, e = .returned (.iface t u) ∧ Aside0 (ErrW ad w' (.iface t u) (chk (namesOK l0) (namesOK l1) l0.length l1.length a2 R) ∧ GS w cs w')) := ⟨fun W hW => (kC W hW).mono fun e w' ⟨⟨v, he, hv⟩, hg⟩ => by
    obtain ⟨t, u, rfl⟩ := hv.any hp
    exact ⟨t, u, he, ⟨hv, hg.out⟩⟩⟩
   have HS := Aside0.mk hs
   clear kC st ce hcs hr0 hr1 hr3 hp hs
   generalize chk (namesOK l0) (namesOK l1) l0.length l1.length a2 R = pr at KC ⊢
   go_enter Tryd.func17, Tryd.ntmps17
   go_wp2_with (first
    | (go_at_call 51; (with_reducible refine (KC.out _ ST.out).mono ?_); rintro e w1 ⟨t, u, rfl, t1⟩))
   (try rw [Exit.noGoto_ret])
   exact bodyPost_ret (v := .tuple #[.string ⟨#[]⟩, .iface t u]) (by simp [results, Tryd.results17, go_sem]) rfl ⟨_, rfl, t1.out.1, t1.out.2.low⟩
 · rw [if_pos hp]
   obtain ⟨q1, q2, q3, q4, q5, q6, q7⟩ := chk_ok hp
   have KC : Aside0 (∀ W, GS w cs W → Calls Tryd.prog 51 #[.agg #[.slice A0 l0.length c0, .slice A1 l1.length c1, .int .i64 a2, .slice A3 R.length c3]] W fun e w' => e = .returned .nilIface ∧ Aside0 (GS w cs w')) := ⟨fun W hW => (kC W hW).mono fun e w' ⟨⟨v, he, hv⟩, hg⟩ => ⟨by rw [he, hv.nil hp], hg⟩⟩
   have HS := Aside0.mk hs
   have hR120 : ¬ 120 < R.length := by omega
   by_cases ho : n < 0 ∨ (R.length : Int) ≤ n
   · rw [if_pos ho]
     have HE : Aside0 (∀ W, GS w cs W → W.cell? ⟨1, 0, none⟩ = some (.iface 178 (.pointer (some (ad 1))))) := ⟨fun W hW => SentsK.arg (hs.below hW.low)⟩
     have hcase : n < 0 ∨ (¬ n < 0 ∧ (R.length : Int) ≤ n) := by omega
     clear kC st ce hcs hr0 hr1 hr3 hp hs ho
     rcases hcase with b1 | ⟨b1, b2⟩
     · have d1 := decide_eq_true b1
       have HB1 := Lib.hid b1
       clear b1
       go_enter Tryd.func17, Tryd.ntmps17
       go_wp2_with (first
        | (go_at_call 51; (with_reducible refine (KC.out _ ST.out).mono ?_); rintro e w1 ⟨rfl, t1⟩; obtain ⟨f0, f1, f2, f3⟩ := CE.out _ t1.out; have he := HE.out _ t1.out))
       go_quiet (fail)
       go_wp2_with fail
       (try rw [Exit.noGoto_ret])
       exact bodyPost_ret (v := .tuple #[.string ⟨#[]⟩, .iface 178 (.pointer (some (ad 1)))]) (by simp [results, Tryd.results17, go_sem]) rfl ⟨_, rfl, ErrW.sent (by decide) (by decide), pw_below_drewN t1.out.low _⟩
     · have d1 := decide_eq_false b1
       have d2 := decide_eq_true b2
       have HB1 := Lib.hid b1
       have HB2 := Lib.hid b2
       clear b1 b2
       go_enter Tryd.func17, Tryd.ntmps17
       go_wp2_with (first
        | (go_at_call 51; (with_reducible refine (KC.out _ ST.out).mono ?_); rintro e w1 ⟨rfl, t1⟩; obtain ⟨f0, f1, f2, f3⟩ := CE.out _ t1.out; have he := HE.out _ t1.out))
       go_quiet (fail)
       go_wp2_with fail
       (try rw [Exit.noGoto_ret])
       exact bodyPost_ret (v := .tuple #[.string ⟨#[]⟩, .iface 178 (.pointer (some (ad 1)))]) (by simp [results, Tryd.results17, go_sem]) rfl ⟨_, rfl, ErrW.sent (by decide) (by decide), pw_below_drewN t1.out.low _⟩
   · rw [if_neg ho]
     obtain ⟨n, rfl⟩ : ∃ j : Nat, n = j := ⟨n.toNat, by omega⟩
     have hn : n < R.length := by omega
     have z0 := names_small q3
     have z1 := names_small q4
     have hxo := okR_sides (q7 R[n] (List.getElem_mem hn))
     rw [Int.toNat_natCast, getD_lt R n _ hn]
     have hrd : rd_T52 R (n : Int) = R[n] := by rw [rdR_D, getD_lt R n _ hn]
     have kX : ∀ W, GS w cs W → ∃ ad3 A1' c1', A3 = some ad3 ∧ W.cell? (ad3.add (n * 2)) = some (.int .i64 R[n].f0) ∧ W.cell? ⟨(ad3.add (n * 2)).block, (ad3.add (n * 2)).off + 1, none⟩ = some (.slice A1' R[n].f1.length c1') ∧ R[n].f1.length ≤ c1' ∧ Kd.C (Kd.int .i64) W A1' R[n].f1.length R[n].f1 := by
      intro W hW
      obtain ⟨ad3, A', c', e1, e2, e3, e4, e5⟩ := at_T52 (Kd.C_below hr3 hW.low) (n : Int) (by omega) (by omega)
      rw [Int.toNat_natCast, hrd] at e2 e3
      rw [hrd] at e4 e5
      exact ⟨ad3, A', c', e1, e2, e3, e4, e5⟩
     generalize R[n] = x at hxo kX
     have hsl := P.symL_length z0 z1 (-1 - x.f0)
     have htl := P.symsL_length z0 z1 x.f1
     have htl2 : (4 * 32 + 5) * x.f1.length ≤ (4 * 32 + 5) * 32 := Nat.mul_le_mul_left _ hxo.1
     have hw1 : wrap64 ((-1) - x.f0) = -1 - x.f0 := w64m x.f0 (by omega) (by omega)
     have kS : ∀ W, GS w cs W → Calls Tryd.prog 19 #[.agg #[.slice A0 l0.length c0, .slice A1 l1.length c1, .int .i64 a2, .slice A3 R.length c3], .int .i64 (-1 - x.f0)] W fun e w' => e = .returned (.string ⟨(P.symL l0 l1 (-1 - x.f0)).toArray⟩) ∧ Below W.heap.size W w' := fun W hW =>
      Symbol_calls A0 c0 l0 A1 c1 l1 a2 A3 c3 R _ 32 W (Kd.C_below hr0 hW.low) hc0 (Kd.C_below hr1 hW.low) hc1 (Kd.C_below hr3 hW.low) hc3 (by omega) z0 z1 (by omega) (by omega)
     have kY : ∀ A' c' W, GS w cs W → Kd.C (Kd.int .i64) W A' x.f1.length x.f1 → x.f1.length ≤ c' → Calls Tryd.prog 21 #[.agg #[.slice A0 l0.length c0, .slice A1 l1.length c1, .int .i64 a2, .slice A3 R.length c3], .slice A' x.f1.length c'] W fun e w' => e = .returned (.string ⟨(P.symsL l0 l1 x.f1).toArray⟩) ∧ Below W.heap.size W w' := fun A' c' W hW h1 h2 =>
      Symbols_calls A0 c0 l0 A1 c1 l1 a2 A3 c3 R A' c' x.f1 32 W (Kd.C_below hr0 hW.low) hc0 (Kd.C_below hr1 hW.low) hc1 (Kd.C_below hr3 hW.low) hc3 h1 h2 (by omega) z0 z1 (by omega) (fun s hs => by have := hxo.2.2.2 s hs; omega)
     have hS1 : (⟨(P.symL l0 l1 (-1 - x.f0)).toArray⟩ : ByteArray).size ≤ 132 := by rw [P.size_lit]; omega
     have hY1 : (⟨(P.symsL l0 l1 x.f1).toArray⟩ : ByteArray).size ≤ 4256 := by rw [P.size_lit]; omega
     have hfin1 : x.f1 = [] → (⟨(P.ruleL l0 l1 x).toArray⟩ : ByteArray) = (⟨(P.symL l0 l1 (-1 - x.f0)).toArray⟩ : ByteArray) ++ (⟨#[32, 58]⟩ : ByteArray) := by
      intro h
      refine ba_eq ?_
      rw [P.data_append]
      unfold P.ruleL
      rw [h]
      simp [P.tlL]
     have hfin2 : x.f1 ≠ [] → (⟨(P.ruleL l0 l1 x).toArray⟩ : ByteArray) = (⟨(P.symL l0 l1 (-1 - x.f0)).toArray⟩ : ByteArray) ++ (⟨#[32, 58]⟩ : ByteArray) ++ ((⟨#[32]⟩ : ByteArray) ++ (⟨(P.symsL l0 l1 x.f1).toArray⟩ : ByteArray)) := by
      intro h
      refine ba_eq ?_
      rw [P.data_append, P.data_append, P.data_append]
      unfold P.ruleL
      rw [P.tlL_syms l0 l1 x.f1 h]
      simp
     generalize (⟨(P.symL l0 l1 (-1 - x.f0)).toArray⟩ : ByteArray) = qs at kS hS1 hfin1 hfin2
     generalize (⟨(P.symsL l0 l1 x.f1).toArray⟩ : ByteArray) = qy at kY hY1 hfin2
     have KX := Aside0.mk kX
     have KS := Aside0.mk kS
     have KY := Aside0.mk kY
     have d1 : decide ((n : Int) < 0) = false := decide_eq_false (by omega)
     have d2 : decide ((R.length : Int) ≤ (n : Int)) = false := decide_eq_false (by omega)
     have d3 : decide (R.length ≤ n) = false := decide_eq_false (by omega)
     have b1 : ¬ 9223372036854775807 < qs.size + 2 := by omega
     have b2 : ¬ 9223372036854775807 < 1 + qy.size := by omega
     have b3 : ¬ 9223372036854775807 < qs.size + 2 + (1 + qy.size) := by omega
     have HSO := Lib.hid hxo
     clear kC st ce hcs hr0 hr1 hr3 hp hs ho q3 q4 q5 q6 q7 z0 z1 hrd kX kS kY hsl htl htl2 hS1 hY1 hxo
     by_cases he0 : x.f1 = []
     · have hfin := hfin1 he0
       have hl0 : x.f1.length = 0 := by rw [he0]; rfl
       have HF := Lib.hid hfin
       clear hfin hfin1 hfin2 he0
       rw [hl0] at KX
       go_enter Tryd.func17, Tryd.ntmps17
       go_wp2_with (first
        | (go_at_call 51; (with_reducible refine (KC.out _ ST.out).mono ?_); rintro e w1 ⟨rfl, t1⟩; obtain ⟨f0, f1, f2, f3⟩ := CE.out _ t1.out; obtain ⟨ad3, A1', c1', rfl, g0, g1, g2, g3⟩ := KX.out _ t1.out; have G3 := Aside0.mk g3; clear g3; have t2 : Aside0 (GS w cs (w1.alloc (.cells #[.int .i64 x.f0, .slice A1' 0 c1'] 52))) := ⟨t1.out.alloc _⟩; obtain ⟨k0, k1, k2, k3⟩ := CE.out _ t2.out)
        | (go_at_call 19; (with_reducible refine (KS.out _ t2.out).mono ?_); rintro e w3 ⟨rfl, hb3⟩; have hlt2 := t2.out.lt; have hbx : Box w1.heap.size #[.int .i64 x.f0, .slice A1' 0 c1'] 52 w3 := (Box.new w1 _ _).below hb3; have g4 := hbx.cell 0 _ rfl; have g5 := hbx.cell 1 _ rfl; have t3 := Aside0.mk (t2.out.more hb3); clear hb3 f0 f1 f2 f3 g0 g1 k0 k1 k2 k3 hbx; obtain ⟨f0, f1, f2, f3⟩ := CE.out _ t3.out))
       (try rw [Exit.noGoto_ret])
       exact bodyPost_ret (v := .tuple #[.string (qs ++ (⟨#[32, 58]⟩ : ByteArray)), .nilIface]) (by simp [results, Tryd.results17, go_sem]) rfl ⟨_, by rw [HF.out], .inl ⟨rfl, rfl, rfl⟩, t3.out.low⟩
     · have hfin := hfin2 he0
       have hl0 : 0 < x.f1.length := List.length_pos_iff.2 he0
       have d4 : decide (0 < (x.f1.length : Int)) = true := decide_eq_true (by omega)
       have d5 : decide (0 < x.f1.length) = true := decide_eq_true hl0
       have HF := Lib.hid hfin
       clear hfin hfin1 hfin2 he0
       go_enter Tryd.func17, Tryd.ntmps17
       go_wp2_with (first
        | (go_at_call 51; (with_reducible refine (KC.out _ ST.out).mono ?_); rintro e w1 ⟨rfl, t1⟩; obtain ⟨f0, f1, f2, f3⟩ := CE.out _ t1.out; obtain ⟨ad3, A1', c1', rfl, g0, g1, g2, g3⟩ := KX.out _ t1.out; have G3 := Aside0.mk g3; clear g3; have t2 : Aside0 (GS w cs (w1.alloc (.cells #[.int .i64 x.f0, .slice A1' x.f1.length c1'] 52))) := ⟨t1.out.alloc _⟩; obtain ⟨k0, k1, k2, k3⟩ := CE.out _ t2.out)
        | (go_at_call 19; (with_reducible refine (KS.out _ t2.out).mono ?_); rintro e w3 ⟨rfl, hb3⟩; have hlt2 := t2.out.lt; have hbx : Box w1.heap.size #[.int .i64 x.f0, .slice A1' x.f1.length c1'] 52 w3 := (Box.new w1 _ _).below hb3; have g4 := hbx.cell 0 _ rfl; have g5 := hbx.cell 1 _ rfl; have t3 := Aside0.mk (t2.out.more hb3); have G4 := Aside0.mk (Kd.C_below (Kd.C_below G3.out ((Below.refl _ w1).alloc (Nat.le_refl _) _)) hb3); clear hb3 f0 f1 f2 f3 g0 g1 k0 k1 k2 k3 hbx; obtain ⟨f0, f1, f2, f3⟩ := CE.out _ t3.out)
        | (go_at_call 21; (with_reducible refine (KY.out _ _ _ t3.out G4.out g2).mono ?_); rintro e w4 ⟨rfl, hb4⟩; have t4 := Aside0.mk (t3.out.more hb4); clear hb4))
       (try rw [Exit.noGoto_ret])
       exact bodyPost_ret (v := .tuple #[.string (qs ++ (⟨#[32, 58]⟩ : ByteArray) ++ ((⟨#[32]⟩ : ByteArray) ++ qy)), .nilIface]) (by simp [results, Tryd.results17, go_sem]) rfl ⟨_, by rw [HF.out], .inl ⟨rfl, rfl, rfl⟩, t4.out.low⟩
end Go.Proofs.YthjhaogfpdkhbaaDoor.Sh
/- kit.Ints, kit.Strings: are two the same? (taken from GramSm and GramKi, for seats without rules' ties) -/
namespace Go.Proofs.YthjhaogfpdkhbaaDoor.B
open Go.RowKit YthjhaogfpdkhbaaDoorW.PrintWords YthjhaogfpdkhbaaDoorW.PrintLast YthjhaogfpdkhbaaDoorW.PrintMore

theorem wrap_succ (i : Nat) (h : i < 9223372036854775807) : wrap64 ((i : Int) + 1) = ((i + 1 : Nat) : Int) := by unfold wrap64; omega
theorem toList_eq (a b : ByteArray) : a.toList = b.toList ↔ a = b := by
 constructor
 · intro h
   rw [ByteArray.toList_eq, ByteArray.toList_eq] at h
   have := Array.ext' h
   cases a; cases b; simp_all
 · rintro rfl; rfl

theorem rd_nat (l : List Int) (i : Nat) (h : i < l.length) : rd l (i : Int) = l[i] := by simp [rd, List.getD_eq_getElem?_getD, List.getElem?_eq_getElem h]
theorem rdS_nat (l : List ByteArray) (i : Nat) (h : i < l.length) : rdOf ByteArray.empty l (i : Int) = l[i] := by simp [rdOf, List.getD_eq_getElem?_getD, List.getElem?_eq_getElem h]
theorem KInts_l (l0 l1 : List Int) (hl : l0.length = l1.length) (hm : l0.length ≤ 9223372036854775807) : ∀ (d i k : Nat), l0.length - i = d → i ≤ l0.length → d < k → dovetailkit_Ints.l0 k l0 l1 (i : Int) = some (decide (l0.drop i = l1.drop i)) := by
 intro d
 induction d with
 | zero =>
  intro i k hi hle hk
  obtain ⟨k, rfl⟩ : ∃ j, k = j + 1 := ⟨k - 1, by omega⟩
  have : i = l0.length := by omega
  subst this
  rw [dovetailkit_Ints.l0, if_neg (by omega), List.drop_length, hl, List.drop_length]
  simp
 | succ d ih =>
  intro i k hi hle hk
  obtain ⟨k, rfl⟩ : ∃ j, k = j + 1 := ⟨k - 1, by omega⟩
  have hlt : i < l0.length := by omega
  have hlt1 : i < l1.length := by omega
  rw [dovetailkit_Ints.l0, if_pos (by omega), if_pos (by omega), if_pos (by omega), List.drop_eq_getElem_cons hlt, List.drop_eq_getElem_cons hlt1, rd_nat l0 i hlt, rd_nat l1 i hlt1]
  by_cases he : l0[i] = l1[i]
  · rw [if_pos he, wrap_succ i (by omega), ih (i + 1) k (by omega) (by omega) (by omega)]
    rw [he]; congr 1; rw [decide_eq_decide]; simp only [List.cons.injEq, true_and]
  · rw [if_neg he]; congr 1; symm; rw [decide_eq_false_iff_not]; intro h; exact he (List.cons.inj h).1
theorem KInts_f (l0 l1 : List Int) (k : Nat) (hm : l0.length ≤ 9223372036854775807) (hk : l0.length < k) : dovetailkit_Ints.f k l0 l1 = some (decide (l0 = l1)) := by
 unfold dovetailkit_Ints.f
 by_cases h : l0.length = l1.length
 · rw [if_pos (by omega)]
   have := KInts_l l0 l1 h hm l0.length 0 k (by omega) (by omega) hk
   simpa using this
 · rw [if_neg (by omega)]
   have : l0 ≠ l1 := fun e => h (by rw [e])
   simp [this]
theorem KStrings_l (l0 l1 : List ByteArray) (hl : l0.length = l1.length) (hm : l0.length ≤ 9223372036854775807) : ∀ (d i k : Nat), l0.length - i = d → i ≤ l0.length → d < k → dovetailkit_Strings.l0 k l0 l1 (i : Int) = some (decide (l0.drop i = l1.drop i)) := by
 intro d
 induction d with
 | zero =>
  intro i k hi hle hk
  obtain ⟨k, rfl⟩ : ∃ j, k = j + 1 := ⟨k - 1, by omega⟩
  have : i = l0.length := by omega
  subst this
  rw [dovetailkit_Strings.l0, if_neg (by omega), List.drop_length, hl, List.drop_length]
  simp
 | succ d ih =>
  intro i k hi hle hk
  obtain ⟨k, rfl⟩ : ∃ j, k = j + 1 := ⟨k - 1, by omega⟩
  have hlt : i < l0.length := by omega
  have hlt1 : i < l1.length := by omega
  rw [dovetailkit_Strings.l0, if_pos (by omega), if_pos (by omega), if_pos (by omega), List.drop_eq_getElem_cons hlt, List.drop_eq_getElem_cons hlt1, rdS_nat l0 i hlt, rdS_nat l1 i hlt1]
  by_cases he : l0[i] = l1[i]
  · rw [if_pos ((toList_eq _ _).2 he), wrap_succ i (by omega), ih (i + 1) k (by omega) (by omega) (by omega)]
    rw [he]; congr 1; rw [decide_eq_decide]; simp only [List.cons.injEq, true_and]
  · rw [if_neg (fun h => he ((toList_eq _ _).1 h))]; congr 1; symm; rw [decide_eq_false_iff_not]; intro h; exact he (List.cons.inj h).1
theorem KStrings_f (l0 l1 : List ByteArray) (k : Nat) (hm : l0.length ≤ 9223372036854775807) (hk : l0.length < k) : dovetailkit_Strings.f k l0 l1 = some (decide (l0 = l1)) := by
 unfold dovetailkit_Strings.f
 by_cases h : l0.length = l1.length
 · rw [if_pos (by omega)]
   have := KStrings_l l0 l1 h hm l0.length 0 k (by omega) (by omega) hk
   simpa using this
 · rw [if_neg (by omega)]
   have : l0 ≠ l1 := fun e => h (by rw [e])
   simp [this]
end Go.Proofs.YthjhaogfpdkhbaaDoor.B
/- What Lent and Kept stand on, in this seat. -/

/- kit.Lent..: lists in memory of their own, a mark behind each. -/
namespace Go.Proofs.YthjhaogfpdkhbaaDoor.B
open Go.RowKit YthjhaogfpdkhbaaDoorW.PrintWords YthjhaogfpdkhbaaDoorW.PrintLast YthjhaogfpdkhbaaDoorW.PrintMore

def kmx : Kd (List Int × Bool) where
 sz := 1
 E := [3]
 K := fun w x cs => ∃ A c, cs = [.slice A x.1.length c] ∧ match x.2 with
  | true => x.1.length + 1 ≤ c ∧ Kd.C (Kd.int .i64) w A (x.1.length + 1) (x.1 ++ [-7171])
  | false => x.1.length ≤ c ∧ Kd.C (Kd.int .i64) w A x.1.length x.1
 M := fun w base ok x cs => ∃ A c, cs = [.slice A x.1.length c] ∧ match x.2 with
  | true => Kd.R (Kd.int .i64) 3 w base ok (.slice A (x.1.length + 1) c) (x.1 ++ [-7171])
  | false => Kd.R (Kd.int .i64) 3 w base ok (.slice A x.1.length c) x.1
 K_len := by
  rintro w x cs ⟨A, c, rfl, _⟩
  rfl
 K_one := by
  rintro w x cs ⟨A, c, rfl, _⟩ u hu
  rw [List.mem_singleton.1 hu]
  rfl
 K_below := by
  rintro w w1 ⟨xs, b⟩ cs hb ⟨A, c, rfl, h⟩
  cases b
  · exact ⟨A, c, rfl, h.1, Kd.C_below h.2 hb⟩
  · exact ⟨A, c, rfl, h.1, Kd.C_below h.2 hb⟩
 K_of_M := by
  rintro w base ok ⟨xs, b⟩ cs ⟨A, c, rfl, h⟩
  cases b
  · exact ⟨A, c, rfl, (Kd.R_reads' h).2⟩
  · have := Kd.R_reads' h
    rw [List.length_append, List.length_singleton] at this
    exact ⟨A, c, rfl, this.2⟩
 M_mono := by
  rintro w base ok ok' ⟨xs, b⟩ cs hok ⟨A, c, rfl, h⟩
  cases b
  · exact ⟨A, c, rfl, Kd.R_mono h hok⟩
  · exact ⟨A, c, rfl, Kd.R_mono h hok⟩
 M_bound := by
  rintro w base ok ⟨xs, b⟩ cs ⟨A, c, rfl, h⟩
  cases b
  · exact ⟨A, c, rfl, Kd.R_bound h⟩
  · exact ⟨A, c, rfl, Kd.R_bound h⟩
 M_move := by
  rintro w w1 base ok ⟨xs, b⟩ cs hm ⟨A, c, rfl, h⟩
  cases b
  · exact ⟨A, c, rfl, Kd.R_move h hm⟩
  · exact ⟨A, c, rfl, Kd.R_move h hm⟩
 M_lower := by
  rintro w base base' ok ⟨xs, b⟩ cs hb ⟨A, c, rfl, h⟩
  cases b
  · exact ⟨A, c, rfl, Kd.R_lower h hb⟩
  · exact ⟨A, c, rfl, Kd.R_lower h hb⟩
def kRx : Kd (S52 × Bool) := Kd.iso (Kd.pair (Kd.int .i64) kmx) (fun x => (x.1.f0, (x.1.f1, x.2)))
theorem C_pre {α : Type} {d : Kd α} {w : World} {A : Option Addr} {xs ys : List α} {n : Nat} (h : d.C w A n (xs ++ ys)) : d.C w A xs.length xs := by
 refine ⟨rfl, by have := h.1; have := h.2.1; rw [List.length_append] at *; omega, fun hp => ?_⟩
 obtain ⟨ad, e, hc⟩ := h.2.2 (by have := h.1; rw [List.length_append] at this; omega)
 refine ⟨ad, e, fun j p hj => hc j p ?_⟩
 have hlt := (List.getElem?_eq_some_iff.1 hj).1
 rw [List.getElem?_append_left hlt]; exact hj
theorem C_imp {α β : Type} {d : Kd α} {d' : Kd β} {w : World} {A : Option Addr} {n : Nat} {xs : List α} (f : α → β) (h : d.C w A n xs) (hs : d.sz = d'.sz) (hK : ∀ x c, x ∈ xs → d.K w x c → d'.K w (f x) c) : d'.C w A n (xs.map f) := by
 refine ⟨by rw [List.length_map]; exact h.1, h.2.1, fun hp => ?_⟩
 obtain ⟨ad, e, hc⟩ := h.2.2 hp
 refine ⟨ad, e, fun j p hj => ?_⟩
 rw [List.getElem?_map] at hj
 obtain ⟨x, hx, rfl⟩ := Option.map_eq_some_iff.1 hj
 obtain ⟨c, h1, h2, h3⟩ := hc j x hx
 exact ⟨c, by rw [← hs]; exact h1, hK x c (List.mem_of_getElem? hx) h2, by rw [← hs]; exact h3⟩
def mk1 (l : List S52) : List (S52 × Bool) := l.map fun x => (x, true)
theorem mk1_length (l : List S52) : (mk1 l).length = l.length := by simp [mk1]
def MR (w : World) (A : Option Addr) (c : Nat) (l : List S52) : Prop := l.length + 1 ≤ c ∧ Kd.C kRx w A (l.length + 1) (mk1 l ++ [(⟨-7171, []⟩, false)])
theorem MR.below {w w' : World} {A : Option Addr} {c : Nat} {l : List S52} (h : MR w A c l) (hb : Below w.heap.size w w') : MR w' A c l := ⟨h.1, Kd.C_below h.2 hb⟩
theorem MR.of {w : World} {base : Nat} {ok : Nat → Prop} {A : Option Addr} {c : Nat} {l : List S52} (h : Kd.R kRx 52 w base ok (.slice A (l.length + 1) c) (mk1 l ++ [((⟨-7171, []⟩ : S52), false)])) : MR w A c l := by
 have h1 := Kd.R_reads' h
 refine ⟨h1.2.1, ?_⟩
 rw [h1.1]; exact h1.2.2
theorem kRx_K {w : World} {x : S52} {cs : List Value} (h : kRx.K w (x, true) cs) : k52.K w x cs := by
 obtain ⟨a, b, rfl, h1, A, c, rfl, h2, h3⟩ := h
 dsimp only at h2 h3
 exact ⟨a, _, rfl, h1, A, c, rfl, by dsimp only; omega, C_pre h3⟩
theorem MR.reads {w : World} {A : Option Addr} {c : Nat} {l : List S52} (h : MR w A c l) : Kd.C k52 w A l.length l := by
 have h1 := C_pre h.2
 rw [mk1_length] at h1
 have h2 := C_imp (d := kRx) (d' := k52) (fun x => x.1) h1 rfl (fun x c hx hk => by
  obtain ⟨y, _, rfl⟩ := List.mem_map.1 hx
  exact kRx_K hk)
 have : (mk1 l).map (fun x => x.1) = l := List.ext_getElem (by simp [mk1]) (fun i h1 h2 => by simp [mk1])
 rwa [this] at h2

set_option maxHeartbeats 4000000 in
set_option maxRecDepth 100000 in
theorem LentInts_m (A0 : Option Addr) (c0 : Nat) (l : List Int) (w : World) (hr : Kd.C (Kd.int .i64) w A0 l.length l) (hl : l.length < 17592186044415) :
 Calls Tryd.prog 11 #[.slice A0 l.length c0] w fun e w' => ∃ A c, e = .returned (.slice A l.length c) ∧ Aside0 (Kd.R (Kd.int .i64) 3 w' w.heap.size (fun _ => True) (.slice A (l.length + 1) c) (l ++ [(-7171)]) ∧ Below w.heap.size w w') := by
 obtain ⟨y1, hy1⟩ : ∃ y_ : List Int, y_ = ([] : List Int) ++ l := ⟨_, rfl⟩
 obtain ⟨y2, hy2⟩ : ∃ y_ : List Int, y_ = y1 ++ [(-7171)] := ⟨_, rfl⟩
 have q8 : y1.length < 17592186044415 := by rw [hy1]; simpa using hl
 have q9 : ((l.length : Int)) ≤ ((y2.length : Int)) := by rw [hy2, hy1]; simp; omega
 have q7 : ([] : List Int).length + l.length < 17592186044415 := by simpa using hl
 have hy3 : y2.length = l.length + 1 := by rw [hy2, hy1]; simp
 have hy4 : y2 = l ++ [(-7171)] := by rw [hy2, hy1]; simp
 have HR0 := Aside0.mk hr
 have HB := Aside0.mk (Below.refl w.heap.size w)
 have N1 := Aside0.mk hy1
 have N2 := Aside0.mk hy2
 have N3 := Aside0.mk hy3
 have N4 := Aside0.mk hy4
 have Q7 := Aside0.mk q7
 have Q8 := Aside0.mk q8
 have Q9 := Aside0.mk q9
 clear hr hy1 hy2 hy3 hy4 q7 q8 q9 hl
 go_enter Tryd.func11, Tryd.ntmps11
 go_wp2_with (first
  | ((with_reducible refine gate_builtin (b := .append) (xs := #[.tmp 4, .tmp 5]) rfl ?_); at_builtin; refine Kd.R_append_rows (Kd.int .i64) (w0 := w) w.heap.size rfl (.tmp 4) (.tmp 5) 26 3 (.int .i64 0) 8 rfl Tryd.underlying26 info3 rfl (by decide) (by omega) (.slice none 0 0) ([] : List Int) l _ _ _ (fun _ => True) (fun _ => False) rfl rfl ?aO ?aR (fun _ _ h => h) (fun _ h => h.elim) ?aF ?aB ?aS ?aL ?_; (case aR => exact HR0.out); (case aB => exact HB.out); (case aF => exact (fun _ _ => trivial)); (case aO => exact ((Kd.R_nil _ _ _ _ (fun _ => True)))); (case aS => exact Nat.le_refl _); (case aL => have := Q7.out; omega); intro v1 w1 ho hb hg hat; rw [← N1.out] at ho; have n0_ := Aside0.mk hb; have n1_ := Aside0.mk ho; clear HB; have HB := n0_; have HO1 := n1_; clear n0_ n1_ ho hb hg hat)
  | ((with_reducible refine gate_builtin (b := .append) (xs := #[.tmp 7, .tmp 8]) rfl ?_); at_builtin; refine Kd.R_append (Kd.int .i64) (w0 := w) w.heap.size rfl (.tmp 7) (.tmp 8) 26 3 (.int .i64 0) 8 rfl Tryd.underlying26 info3 rfl (by decide) (by omega) v1 y1 (-7171) [.int .i64 (-7171)] (fun _ => True) (fun _ => False) rfl rfl ?aP (fun _ hk => hk.elim) ?aF ?aO ?aB ?aS ?aL ?_; (case aP => exact rfl); (case aB => exact HB.out); (case aF => exact (fun _ _ => trivial)); (case aO => exact HO1.out); (case aS => exact (below_size HB.out)); (case aL => have := Q8.out; omega); intro v2 w2 ho hb hg hat; rw [← N2.out] at ho; have n0_ := Aside0.mk hb; have n1_ := Aside0.mk ho; clear HB HO1; have HB := n0_; have HO2 := n1_; clear n0_ n1_ ho hb hg hat; obtain ⟨Ao, co, eo⟩ := Kd.R_slice HO2.out; subst eo; obtain ⟨i0, hi0, _, hsz0, _⟩ := info_parts info3; have hcut := cut_to (P := Tryd.prog) 26 3 .i64 Tryd.underlying26 hi0 Ao y2.length co (l.length : Int) (by omega) Q9.out (Kd.R_reads' HO2.out).2.1; clear hi0 hsz0))
 go_ret
 refine ⟨Ao, co, rfl, ⟨?_, HB.out⟩⟩
 have h := HO2.out
 rw [N3.out] at h
 rw [← N4.out]
 exact h

set_option maxHeartbeats 4000000 in
set_option maxRecDepth 100000 in
theorem LentStrings_m (A0 : Option Addr) (c0 : Nat) (l : List ByteArray) (w : World) (hr : Kd.C Kd.string w A0 l.length l) (hl : l.length < 8796093022207) :
 Calls Tryd.prog 49 #[.slice A0 l.length c0] w fun e w' => ∃ A c, e = .returned (.slice A l.length c) ∧ Aside0 (Kd.R Kd.string 9 w' w.heap.size (fun _ => True) (.slice A (l.length + 1) c) (l ++ [(⟨#[109, 97, 114, 107]⟩ : ByteArray)]) ∧ Below w.heap.size w w') := by
 obtain ⟨y1, hy1⟩ : ∃ y_ : List ByteArray, y_ = ([] : List ByteArray) ++ l := ⟨_, rfl⟩
 obtain ⟨y2, hy2⟩ : ∃ y_ : List ByteArray, y_ = y1 ++ [(⟨#[109, 97, 114, 107]⟩ : ByteArray)] := ⟨_, rfl⟩
 have q8 : y1.length < 8796093022207 := by rw [hy1]; simpa using hl
 have q9 : ((l.length : Int)) ≤ ((y2.length : Int)) := by rw [hy2, hy1]; simp; omega
 have q7 : ([] : List ByteArray).length + l.length < 8796093022207 := by simpa using hl
 have hy3 : y2.length = l.length + 1 := by rw [hy2, hy1]; simp
 have hy4 : y2 = l ++ [(⟨#[109, 97, 114, 107]⟩ : ByteArray)] := by rw [hy2, hy1]; simp
 have HR0 := Aside0.mk hr
 have HB := Aside0.mk (Below.refl w.heap.size w)
 have N1 := Aside0.mk hy1
 have N2 := Aside0.mk hy2
 have N3 := Aside0.mk hy3
 have N4 := Aside0.mk hy4
 have Q7 := Aside0.mk q7
 have Q8 := Aside0.mk q8
 have Q9 := Aside0.mk q9
 clear hr hy1 hy2 hy3 hy4 q7 q8 q9 hl
 go_enter Tryd.func49, Tryd.ntmps49
 go_wp2_with (first
  | ((with_reducible refine gate_builtin (b := .append) (xs := #[.tmp 4, .tmp 5]) rfl ?_); at_builtin; refine Kd.R_append_rows Kd.string (w0 := w) w.heap.size rfl (.tmp 4) (.tmp 5) 22 9 (.string ⟨#[]⟩) 16 rfl Tryd.underlying22 info9 rfl (by decide) (by omega) (.slice none 0 0) ([] : List ByteArray) l _ _ _ (fun _ => True) (fun _ => False) rfl rfl ?aO ?aR (fun _ _ h => h) (fun _ h => h.elim) ?aF ?aB ?aS ?aL ?_; (case aR => exact HR0.out); (case aB => exact HB.out); (case aF => exact (fun _ _ => trivial)); (case aO => exact ((Kd.R_nil _ _ _ _ (fun _ => True)))); (case aS => exact Nat.le_refl _); (case aL => have := Q7.out; omega); intro v1 w1 ho hb hg hat; rw [← N1.out] at ho; have n0_ := Aside0.mk hb; have n1_ := Aside0.mk ho; clear HB; have HB := n0_; have HO1 := n1_; clear n0_ n1_ ho hb hg hat)
  | ((with_reducible refine gate_builtin (b := .append) (xs := #[.tmp 7, .tmp 8]) rfl ?_); at_builtin; refine Kd.R_append Kd.string (w0 := w) w.heap.size rfl (.tmp 7) (.tmp 8) 22 9 (.string ⟨#[]⟩) 16 rfl Tryd.underlying22 info9 rfl (by decide) (by omega) v1 y1 (⟨#[109, 97, 114, 107]⟩ : ByteArray) [.string ⟨#[109, 97, 114, 107]⟩] (fun _ => True) (fun _ => False) rfl rfl ?aP (fun _ hk => hk.elim) ?aF ?aO ?aB ?aS ?aL ?_; (case aP => exact rfl); (case aB => exact HB.out); (case aF => exact (fun _ _ => trivial)); (case aO => exact HO1.out); (case aS => exact (below_size HB.out)); (case aL => have := Q8.out; omega); intro v2 w2 ho hb hg hat; rw [← N2.out] at ho; have n0_ := Aside0.mk hb; have n1_ := Aside0.mk ho; clear HB HO1; have HB := n0_; have HO2 := n1_; clear n0_ n1_ ho hb hg hat; obtain ⟨Ao, co, eo⟩ := Kd.R_slice HO2.out; subst eo; obtain ⟨i0, hi0, _, hsz0, _⟩ := info_parts info9; have hcut := cut_to (P := Tryd.prog) 22 9 .i64 Tryd.underlying22 hi0 Ao y2.length co (l.length : Int) (by omega) Q9.out (Kd.R_reads' HO2.out).2.1; clear hi0 hsz0))
 go_ret
 refine ⟨Ao, co, rfl, ⟨?_, HB.out⟩⟩
 have h := HO2.out
 rw [N3.out] at h
 rw [← N4.out]
 exact h

set_option maxHeartbeats 8000000 in
set_option maxRecDepth 100000 in
theorem LentRules_m (A0 : Option Addr) (c0 : Nat) (l : List S52) (w : World) (hr : Kd.C k52 w A0 l.length l) (hl : l.length < 4398046511104) (hx : ∀ x ∈ l, x.f1.length < 17592186044415) :
 Calls Tryd.prog 50 #[.slice A0 l.length c0] w fun e w' => ∃ A c, e = .returned (.slice A l.length c) ∧ Aside0 (Kd.R kRx 52 w' w.heap.size (fun _ => True) (.slice A (l.length + 1) c) (mk1 l ++ [((⟨-7171, []⟩ : S52), false)]) ∧ Below w.heap.size w w') := by
 have HR0 := Aside0.mk hr
 have HX := Aside0.mk hx
 have HL := Aside0.mk hl
 have hm := C_max hr
 have HU := Aside0.mk (show True from trivial)
 clear hr hx hl
 go_enter Tryd.func50, Tryd.ntmps50
 go_wp2_with fail
 go_loopw [3, 4, 5] (fun v i _ wr => ∃ k : Nat, k ≤ l.length ∧ i = .int .i64 k ∧ Aside0 (Kd.R kRx 52 wr w.heap.size (fun _ => True) v (mk1 (l.take k)) ∧ Below w.heap.size w wr)) (fun _ i _ _ => l.length - (intOf i).toNat)
 case atStart => exact ⟨0, Nat.zero_le _, rfl, ⟨by simpa [mk1] using Kd.R_nil kRx _ w w.heap.size (fun _ => True), Below.refl _ w⟩⟩
 case round =>
  obtain ⟨k, hk, rfl, tr⟩ := hrel
  by_cases hlt : k < l.length
  · obtain ⟨ad, A, c, rfl, h0, h1, h2, h3⟩ := at_T52 (Kd.C_below HR0.out tr.out.2) (k : Int) (by omega) (by omega)
    have q0 : rd_T52 l (k : Int) = l[k] := by simp [rd_T52, List.getD_eq_getElem?_getD, List.getElem?_eq_getElem hlt]
    have hxk := HX.out l[k] (List.getElem_mem hlt)
    have hnx : mk1 (l.take (k + 1)) = mk1 (l.take k) ++ [(l[k], true)] := by rw [mk1, List.take_succ_eq_append_getElem hlt, List.map_append]; rfl
    rw [Int.toNat_natCast] at h0 h1
    rw [q0] at h0 h1 h2 h3
    generalize l[k] = x at h0 h1 h2 h3 hxk hnx
    have hcall : Calls Tryd.prog 11 #[.slice A x.f1.length c] wr fun e w' => ∃ A' c', e = .returned (.slice A' x.f1.length c') ∧ Aside0 (Kd.R (Kd.int .i64) 3 w' w.heap.size (fun k_ => some k_ = (.slice A' (x.f1.length + 1) c' : Value).ownBlock) (.slice A' (x.f1.length + 1) c') (x.f1 ++ [-7171]) ∧ Kd.R kRx 52 w' w.heap.size (fun _ => True) u3 (mk1 (l.take k)) ∧ Below w.heap.size w w') ∧ w'.cell? (ad.add (k * 2)) = some (.int .i64 x.f0) := by
     refine (LentInts_m A c x.f1 wr h3 hxk).mono ?_
     rintro e w' ⟨A', c', rfl, h⟩
     exact ⟨A', c', rfl, ⟨Kd.R_lower (Kd.R_tight rfl h.out.1) (below_size tr.out.2), Kd.R_below tr.out.1 h.out.2, tr.out.2.trans (h.out.2.mono (below_size tr.out.2))⟩, (h.out.2.cell (World.block_lt_of_cell? wr _ h0)).trans h0⟩
    have HC := Aside0.mk hcall
    have HN := Aside0.mk hnx
    clear hcall h2 h3 q0 hxk hnx
    go_wp2_with (first
     | (go_at_call 11; (with_reducible refine HC.out.mono ?_); rintro e w6 ⟨A', c', rfl, t6, e0⟩)
     | ((with_reducible refine gate_builtin (b := .append) (xs := #[.tmp 18, .tmp 26]) rfl ?_); at_builtin; refine Kd.R_append kRx (w0 := w) w.heap.size rfl (.tmp 18) (.tmp 26) 23 52 (.agg #[(.int .i64 0), (.slice none 0 0)]) 32 rfl Tryd.underlying23 info52 rfl (by decide) (by omega) u3 (mk1 (l.take k)) (x, true) [.int .i64 x.f0, .slice A' x.f1.length c'] (fun _ => True) (fun k_ => some k_ = (.slice A' (x.f1.length + 1) c' : Value).ownBlock) rfl rfl ?aP ?aA ?aF ?aO ?aB ?aS ?aL ?_; (case aP => exact ⟨[.int .i64 x.f0], [.slice A' x.f1.length c'], rfl, rfl, A', c', rfl, t6.out.1⟩); (case aA => exact (fun k_ hk_ => ⟨trivial, ((Kd.R_apart' t6.out.1 (Kd.R_typed t6.out.2.1) (by decide)).1 k_ hk_.symm).2⟩)); (case aB => exact t6.out.2.2); (case aF => exact (fun _ _ => trivial)); (case aO => exact t6.out.2.1); (case aS => exact (below_size t6.out.2.2)); (case aL => have := HL.out; simp only [mk1_length, List.length_take]; omega); intro v8 w8 ho hb hg hat; rw [← HN.out] at ho; have n0_ := Aside0.mk hb; have n1_ := Aside0.mk ho; clear ho hb hg hat))
    go_roundw
    case measure => simp [intOf]; omega
    case rel => exact ⟨k + 1, by omega, rfl, ⟨n1_.out, n0_.out⟩⟩
  · have hkn : k = l.length := by omega
    subst hkn
    have h1 : Kd.R kRx 52 wr w.heap.size (fun _ => True) u3 (mk1 l) := by have := tr.out.1; rwa [List.take_length] at this
    obtain ⟨y2, hy2⟩ : ∃ y_, y_ = mk1 l ++ [((⟨-7171, []⟩ : S52), false)] := ⟨_, rfl⟩
    have q9 : ((l.length : Int)) ≤ ((y2.length : Int)) := by rw [hy2]; simp [mk1_length]; omega
    have hy3 : y2.length = l.length + 1 := by rw [hy2]; simp [mk1_length]
    have N2 := Aside0.mk hy2
    have N3 := Aside0.mk hy3
    have Q9 := Aside0.mk q9
    have H1 := Aside0.mk h1
    clear hy2 hy3 q9 h1
    go_wp2_with (first
     | ((with_reducible refine gate_builtin (b := .append) (xs := #[.tmp 28, .tmp 30]) rfl ?_); at_builtin; refine Kd.R_append kRx (w0 := w) w.heap.size rfl (.tmp 28) (.tmp 30) 23 52 (.agg #[(.int .i64 0), (.slice none 0 0)]) 32 rfl Tryd.underlying23 info52 rfl (by decide) (by omega) u3 (mk1 l) ((⟨-7171, []⟩ : S52), false) [.int .i64 (-7171), .slice none 0 0] (fun _ => True) (fun _ => False) rfl rfl ?aP (fun k_ hk_ => hk_.elim) ?aF ?aO ?aB ?aS ?aL ?_; (case aP => exact ⟨[.int .i64 (-7171)], [.slice none 0 0], rfl, rfl, none, 0, rfl, Kd.R_nil _ _ _ _ _⟩); (case aB => exact tr.out.2); (case aF => exact (fun _ _ => trivial)); (case aO => exact H1.out); (case aS => exact (below_size tr.out.2)); (case aL => have := HL.out; simp only [mk1_length]; omega); intro v2 w2 ho hb hg hat; rw [← N2.out] at ho; have n0_ := Aside0.mk hb; have n1_ := Aside0.mk ho; clear ho hb hg hat; obtain ⟨Ao, co, eo⟩ := Kd.R_slice n1_.out; subst eo; obtain ⟨i0, hi0, _, hsz0, _⟩ := info_parts info52; have hcut := cut_to (P := Tryd.prog) 23 52 .i64 Tryd.underlying23 hi0 Ao y2.length co (l.length : Int) (by omega) Q9.out (Kd.R_reads' n1_.out).2.1; clear hi0 hsz0))
    go_ret
    refine ⟨Ao, co, rfl, ⟨?_, n0_.out⟩⟩
    have h := n1_.out
    rw [N3.out] at h
    rw [← N2.out]
    exact h
end Go.Proofs.YthjhaogfpdkhbaaDoor.B
/- kit.Kept..: what was lent is as it was. -/
namespace Go.Proofs.YthjhaogfpdkhbaaDoor.B
open Go.RowKit YthjhaogfpdkhbaaDoorW.PrintWords YthjhaogfpdkhbaaDoorW.PrintLast YthjhaogfpdkhbaaDoorW.PrintMore

theorem cut_cap {P : Program} (t e : TypeId) (kh : IntKind) {i : TypeInfo} (ht : P.underlying t = some (.slice e)) (hi : P.info? e = some i) (A : Option Addr) (n c : Nat) (j : Int) (h0 : 0 ≤ j) (hm : j ≤ c) :
 ∀ W : World, (Instr.slice t (.slice A n c) none (some (.int kh j)) none).run P W = .ok (.slice A j.toNat c) W := by
 intro W
 have hel : P.elem t = e := by simp [Program.elem, ht]
 have hu : P.underlying t = some (.slice (P.elem t)) := by rw [hel]; exact ht
 have ha : (A.map fun x => x.add 0) = A := by cases A <;> simp [Addr.add]
 rw [run_slice_h W t A n c hu kh j h0 hm, hel]
 simp [sizeOf, typeInfo, hi, sliced, Result.andThen, ha]

set_option maxHeartbeats 2000000 in
set_option maxRecDepth 100000 in
theorem KeptInts_yes (A : Option Addr) (c : Nat) (A' : Option Addr) (c' : Nat) (l : List Int) (w : World) (hc : l.length + 1 ≤ c) (hr : Kd.C (Kd.int .i64) w A (l.length + 1) (l ++ [-7171])) (hc' : l.length ≤ c') (hr' : Kd.C (Kd.int .i64) w A' l.length l) :
 Calls Tryd.prog 16 #[.slice A l.length c, .slice A' l.length c'] w fun e w' => e = .returned (.bool true) ∧ Below w.heap.size w w' := by
 have hm := C_max hr'
 have hm1 := C_max hr
 have hm2 : l.length + 1 ≤ 9223372036854775807 := hm1
 have hf := KInts_f l l (l.length + 1) hm (by omega)
 rw [decide_eq_true (rfl : l = l)] at hf
 obtain ⟨ad, rfl, hx⟩ := Kd.at_int hr ((l.length : Nat) : Int) (by omega) (by omega)
 have hmk : w.cell? (ad.add l.length) = some (.int .i64 (-7171)) := by
  rw [Int.toNat_natCast] at hx
  rw [hx]
  simp [rd, List.getD_eq_getElem?_getD]
 have hcall : Calls Tryd.prog 58 #[.slice (some ad) l.length c, .slice A' l.length c'] w fun e w' => e = .returned (.bool true) ∧ Aside0 (Below w.heap.size w w') ∧ w'.cell? (ad.add l.length) = some (.int .i64 (-7171)) := by
  refine (dovetailkit_Ints.calls (l.length + 1) (some ad) c l A' c' l true w (C_pre hr) (by omega) hr' hc' hf).mono ?_
  rintro e w' ⟨he, hb⟩
  have hb' : Below w.heap.size w w' := by first | exact hb | exact hb.below
  exact ⟨he, ⟨hb'⟩, (hb'.cell (World.block_lt_of_cell? w _ hmk)).trans hmk⟩
 obtain ⟨i0, hi0, _, _, _⟩ := info_parts info3
 have hcut : ∀ W : World, (Instr.slice 26 (.slice (some ad) l.length c) none (some (.int .i64 ((l.length : Int) + 1))) none).run Tryd.prog W = .ok (.slice (some ad) (l.length + 1) c) W := fun W => by
  have := cut_cap (P := Tryd.prog) 26 3 .i64 Tryd.underlying26 hi0 (some ad) l.length c ((l.length : Int) + 1) (by omega) (by omega) W
  rwa [show ((l.length : Int) + 1).toNat = l.length + 1 from by omega] at this
 have HC := Aside0.mk hcall
 clear hcall hr hr' hx hf hmk hi0 hm1
 go_enter Tryd.func16, Tryd.ntmps16
 go_wp2_with (go_at_call 58; (with_reducible refine HC.out.mono ?_); rintro e w1 ⟨rfl, hb, f0⟩)
 go_ret
 exact ⟨rfl, hb.out⟩

set_option maxHeartbeats 2000000 in
set_option maxRecDepth 100000 in
theorem KeptStrings_yes (A : Option Addr) (c : Nat) (A' : Option Addr) (c' : Nat) (l : List ByteArray) (w : World) (hc : l.length + 1 ≤ c) (hr : Kd.C Kd.string w A (l.length + 1) (l ++ [(⟨#[109, 97, 114, 107]⟩ : ByteArray)])) (hc' : l.length ≤ c') (hr' : Kd.C Kd.string w A' l.length l) :
 Calls Tryd.prog 56 #[.slice A l.length c, .slice A' l.length c'] w fun e w' => e = .returned (.bool true) ∧ Below w.heap.size w w' := by
 have hm := C_max hr'
 have hm1 := C_max hr
 have hm2 : l.length + 1 ≤ 9223372036854775807 := hm1
 have hf := KStrings_f l l (l.length + 1) hm (by omega)
 rw [decide_eq_true (rfl : l = l)] at hf
 obtain ⟨ad, rfl, hx⟩ := Kd.at_string hr ((l.length : Nat) : Int) (by omega) (by omega)
 have hmk : w.cell? (ad.add l.length) = some (.string ⟨#[109, 97, 114, 107]⟩) := by
  rw [Int.toNat_natCast] at hx
  rw [hx]
  simp [rdOf, List.getD_eq_getElem?_getD]
 have hcall : Calls Tryd.prog 69 #[.slice (some ad) l.length c, .slice A' l.length c'] w fun e w' => e = .returned (.bool true) ∧ Aside0 (Below w.heap.size w w') ∧ w'.cell? (ad.add l.length) = some (.string ⟨#[109, 97, 114, 107]⟩) := by
  refine (dovetailkit_Strings.calls (l.length + 1) (some ad) c l A' c' l true w (C_pre hr) (by omega) hr' hc' hf).mono ?_
  rintro e w' ⟨he, hb⟩
  have hb' : Below w.heap.size w w' := by first | exact hb | exact hb.below
  exact ⟨he, ⟨hb'⟩, (hb'.cell (World.block_lt_of_cell? w _ hmk)).trans hmk⟩
 obtain ⟨i0, hi0, _, _, _⟩ := info_parts info9
 have hcut : ∀ W : World, (Instr.slice 22 (.slice (some ad) l.length c) none (some (.int .i64 ((l.length : Int) + 1))) none).run Tryd.prog W = .ok (.slice (some ad) (l.length + 1) c) W := fun W => by
  have := cut_cap (P := Tryd.prog) 22 9 .i64 Tryd.underlying22 hi0 (some ad) l.length c ((l.length : Int) + 1) (by omega) (by omega) W
  rwa [show ((l.length : Int) + 1).toNat = l.length + 1 from by omega] at this
 have HC := Aside0.mk hcall
 clear hcall hr hr' hx hf hmk hi0 hm1
 go_enter Tryd.func56, Tryd.ntmps56
 go_wp2_with (go_at_call 69; (with_reducible refine HC.out.mono ?_); rintro e w1 ⟨rfl, hb, f0⟩)
 go_ret
 exact ⟨rfl, hb.out⟩

theorem MR.addr {w : World} {A : Option Addr} {c : Nat} {l : List S52} (h : MR w A c l) : ∃ ad, A = some ad := by
 obtain ⟨ad, e, _⟩ := h.2.2.2 (by omega)
 exact ⟨ad, e⟩
theorem MR.cells {w : World} {ad : Addr} {c : Nat} {l : List S52} (h : MR w (some ad) c l) (i : Nat) (hi : i < l.length) : ∃ A1 c1, w.cell? (ad.add (i * 2)) = some (.int .i64 l[i].f0) ∧ w.cell? ⟨(ad.add (i * 2)).block, (ad.add (i * 2)).off + 1, none⟩ = some (.slice A1 l[i].f1.length c1) ∧ l[i].f1.length + 1 ≤ c1 ∧ Kd.C (Kd.int .i64) w A1 (l[i].f1.length + 1) (l[i].f1 ++ [-7171]) := by
 obtain ⟨ad', e, hc⟩ := h.2.2.2 (by omega)
 obtain rfl := Option.some.inj e
 obtain ⟨cs, h1, h2, h3⟩ := hc i (l[i], true) (by rw [List.getElem?_append_left (by rw [mk1_length]; exact hi)]; simp [mk1, List.getElem?_eq_getElem hi])
 obtain ⟨a, b, rfl, q1, A1, c1, rfl, q2⟩ := h2
 have q1' : a = [.int .i64 l[i].f0] := q1
 subst q1'
 refine ⟨A1, c1, h3 0 _ rfl, ?_, q2.1, q2.2⟩
 rw [← add_field _ _ 1 (by omega)]
 exact h3 1 _ rfl
theorem MR.mark {w : World} {ad : Addr} {c : Nat} {l : List S52} (h : MR w (some ad) c l) : w.cell? (ad.add (l.length * 2)) = some (.int .i64 (-7171)) := by
 obtain ⟨ad', e, hc⟩ := h.2.2.2 (by omega)
 obtain rfl := Option.some.inj e
 obtain ⟨cs, h1, h2, h3⟩ := hc l.length (⟨-7171, []⟩, false) (by rw [List.getElem?_append_right (by rw [mk1_length]; exact Nat.le_refl _), mk1_length, Nat.sub_self]; rfl)
 obtain ⟨a, b, rfl, q1, _⟩ := h2
 have q1' : a = [.int .i64 (-7171)] := q1
 subst q1'
 exact h3 0 _ rfl
set_option maxHeartbeats 4000000 in
set_option maxRecDepth 100000 in
theorem KeptRules_yes (A : Option Addr) (c : Nat) (A' : Option Addr) (c' : Nat) (l : List S52) (w : World) (hr : MR w A c l) (hc' : l.length ≤ c') (hr' : Kd.C k52 w A' l.length l) :
 Calls Tryd.prog 57 #[.slice A l.length c, .slice A' l.length c'] w fun e w' => e = .returned (.bool true) ∧ Below w.heap.size w w' := by
 have hm := C_max hr'
 have hm1 := C_max hr.2
 have hm2 : l.length + 1 ≤ 9223372036854775807 := hm1
 have hc := hr.1
 obtain ⟨ad, rfl⟩ := hr.addr
 have hmk := hr.mark
 obtain ⟨i0, hi0, _, _, _⟩ := info_parts info52
 have hcut : ∀ W : World, (Instr.slice 23 (.slice (some ad) l.length c) none (some (.int .i64 ((l.length : Int) + 1))) none).run Tryd.prog W = .ok (.slice (some ad) (l.length + 1) c) W := fun W => by
  have := cut_cap (P := Tryd.prog) 23 52 .i64 Tryd.underlying23 hi0 (some ad) l.length c ((l.length : Int) + 1) (by omega) (by omega) W
  rwa [show ((l.length : Int) + 1).toNat = l.length + 1 from by omega] at this
 have HR := Aside0.mk hr
 have HR' := Aside0.mk hr'
 clear hr hr' hi0 hm1
 go_enter Tryd.func57, Tryd.ntmps57
 go_wp2_with fail
 clear hcut hmk
 go_loopw [5] (fun i wr => ∃ k : Nat, k ≤ l.length ∧ i = .int .i64 k ∧ Aside0 (Below w.heap.size w wr)) (fun i _ => l.length - (intOf i).toNat)
 case atStart => exact ⟨0, Nat.zero_le _, rfl, ⟨Below.refl _ w⟩⟩
 case round =>
  obtain ⟨k, hk, rfl, tr⟩ := hrel
  by_cases hlt : k < l.length
  · obtain ⟨A1, c1, g0, g1, g2, g3⟩ := (HR.out.below tr.out).cells k hlt
    obtain ⟨ad', A2, c2, rfl, h0, h1, h2, h3⟩ := at_T52 (Kd.C_below HR'.out tr.out) (k : Int) (by omega) (by omega)
    have q0 : rd_T52 l (k : Int) = l[k] := by simp [rd_T52, List.getD_eq_getElem?_getD, List.getElem?_eq_getElem hlt]
    rw [Int.toNat_natCast] at h0 h1
    rw [q0] at h0 h1 h2 h3
    have hcall : ∀ W, Below wr.heap.size wr W → Calls Tryd.prog 16 #[.slice A1 l[k].f1.length c1, .slice A2 l[k].f1.length c2] W fun e w' => e = .returned (.bool true) ∧ Aside0 (Below w.heap.size w w') := by
     intro W hW
     refine (KeptInts_yes A1 c1 A2 c2 l[k].f1 W g2 (Kd.C_below g3 hW) h2 (Kd.C_below h3 hW)).mono ?_
     rintro e w' ⟨he, hb⟩
     exact ⟨he, ⟨(tr.out.trans (hW.mono (below_size tr.out))).trans (hb.mono (Nat.le_trans (below_size tr.out) hW.size))⟩⟩
    generalize l[k] = x at g0 g1 h0 h1 hcall
    have HC := Aside0.mk hcall
    clear hcall g2 g3 h2 h3 q0
    go_wp2_with fail
    go_still_tail 22, (by kernel_rfl)
    change wpList _ _ _ _ _ wr.drew
    go_wp2_with (go_at_call 16; (with_reducible refine (HC.out _ (Below.refl _ wr).drew).mono ?_); rintro e w6 ⟨rfl, t6⟩)
    go_roundw
    case measure => simp [intOf]; omega
    case rel => exact ⟨k + 1, by omega, rfl, t6⟩
  · have hkn : k = l.length := by omega
    subst hkn
    go_wp2_with fail
    go_ret
    exact ⟨rfl, tr.out⟩
end Go.Proofs.YthjhaogfpdkhbaaDoor.B
/- kit.LentGrammar, kit.KeptGrammar. -/
namespace Go.Proofs.YthjhaogfpdkhbaaDoor.B
open Go.RowKit YthjhaogfpdkhbaaDoorW.PrintWords YthjhaogfpdkhbaaDoorW.PrintLast YthjhaogfpdkhbaaDoorW.PrintMore

structure MG (w : World) (A0 : Option Addr) (c0 : Nat) (l0 : List ByteArray) (A1 : Option Addr) (c1 : Nat) (l1 : List ByteArray) (A3 : Option Addr) (c3 : Nat) (l3 : List S52) : Prop where
 h0 : l0.length + 1 ≤ c0
 r0 : Kd.C Kd.string w A0 (l0.length + 1) (l0 ++ [(⟨#[109, 97, 114, 107]⟩ : ByteArray)])
 h1 : l1.length + 1 ≤ c1
 r1 : Kd.C Kd.string w A1 (l1.length + 1) (l1 ++ [(⟨#[109, 97, 114, 107]⟩ : ByteArray)])
 r3 : MR w A3 c3 l3
theorem MG.below {w w' : World} {A0 A1 A3 : Option Addr} {c0 c1 c3 : Nat} {l0 l1 : List ByteArray} {l3 : List S52} (h : MG w A0 c0 l0 A1 c1 l1 A3 c3 l3) (hb : Below w.heap.size w w') : MG w' A0 c0 l0 A1 c1 l1 A3 c3 l3 :=
 ⟨h.h0, Kd.C_below h.r0 hb, h.h1, Kd.C_below h.r1 hb, h.r3.below hb⟩
def GG (w : World) (cs cs' : Array Value) (W : World) : Prop := Below w.heap.size w W ∧ Box w.heap.size cs 25 W ∧ Box (w.heap.size + 1) cs' 25 W
theorem GG.low {w : World} {cs cs' : Array Value} {W : World} (h : GG w cs cs' W) : Below w.heap.size w W := h.1
theorem GG.start (w : World) (cs cs' : Array Value) : GG w cs cs' ((w.alloc (.cells cs 25)).alloc (.cells cs' 25)) :=
 ⟨((Below.refl _ w).alloc (Nat.le_refl _) _).alloc (by simp) _, (Box.new w _ _).alloc _, by have := Box.new (w.alloc (.cells cs 25)) cs' 25; simpa using this⟩
theorem GG.more {w : World} {cs cs' : Array Value} {W W' : World} (h : GG w cs cs' W) (hb : Below W.heap.size W W') : GG w cs cs' W' := ⟨h.1.trans (hb.mono h.1.size), h.2.1.below hb, h.2.2.below hb⟩
theorem GG.two {w : World} {cs cs' : Array Value} {W : World} (h : GG w cs cs' W) : w.heap.size + 2 ≤ W.heap.size := by
 have h2 : W.heap[w.heap.size + 1]? = some (.cells cs' 25 (0, 0)) := h.2.2
 rcases Nat.lt_or_ge (w.heap.size + 1) W.heap.size with h1 | h1
 · exact h1
 · rw [Array.getElem?_eq_none h1] at h2; cases h2
theorem GG.cells {w : World} {v0 v1 v2 v3 u0 u1 u2 u3 : Value} {W : World} (h : GG w #[v0, v1, v2, v3] #[u0, u1, u2, u3] W) : (W.cell? ⟨w.heap.size, 0, none⟩ = some v0 ∧ W.cell? ⟨w.heap.size, 1, none⟩ = some v1 ∧ W.cell? ⟨w.heap.size, 2, none⟩ = some v2 ∧ W.cell? ⟨w.heap.size, 3, none⟩ = some v3) ∧
 W.cell? ⟨w.heap.size + 1, 0, none⟩ = some u0 ∧ W.cell? ⟨w.heap.size + 1, 1, none⟩ = some u1 ∧ W.cell? ⟨w.heap.size + 1, 2, none⟩ = some u2 ∧ W.cell? ⟨w.heap.size + 1, 3, none⟩ = some u3 :=
 ⟨⟨h.2.1.cell 0 _ rfl, h.2.1.cell 1 _ rfl, h.2.1.cell 2 _ rfl, h.2.1.cell 3 _ rfl⟩, h.2.2.cell 0 _ rfl, h.2.2.cell 1 _ rfl, h.2.2.cell 2 _ rfl, h.2.2.cell 3 _ rfl⟩
set_option maxHeartbeats 4000000 in
set_option maxRecDepth 100000 in
theorem KeptGrammar_yes (B0 : Option Addr) (d0 : Nat) (B1 : Option Addr) (d1 : Nat) (B3 : Option Addr) (d3 : Nat) (A0 : Option Addr) (c0 : Nat) (l0 : List ByteArray) (A1 : Option Addr) (c1 : Nat) (l1 : List ByteArray) (a2 : Int) (A3 : Option Addr) (c3 : Nat) (l3 : List S52) (w : World) (hm : MG w B0 d0 l0 B1 d1 l1 B3 d3 l3) (hr0 : Kd.C Kd.string w A0 l0.length l0) (hc0 : l0.length ≤ c0) (hr1 : Kd.C Kd.string w A1 l1.length l1) (hc1 : l1.length ≤ c1) (hr3 : Kd.C k52 w A3 l3.length l3) (hc3 : l3.length ≤ c3) :
 Calls Tryd.prog 15 #[.agg #[.slice B0 l0.length d0, .slice B1 l1.length d1, .int .i64 a2, .slice B3 l3.length d3], .agg #[.slice A0 l0.length c0, .slice A1 l1.length c1, .int .i64 a2, .slice A3 l3.length c3]] w fun e w' => e = .returned (.bool true) ∧ Below w.heap.size w w' := by
 obtain ⟨cs, hcs⟩ : ∃ cs : Array Value, cs = #[.slice B0 l0.length d0, .slice B1 l1.length d1, .int .i64 a2, .slice B3 l3.length d3] := ⟨_, rfl⟩
 obtain ⟨cs', hcs'⟩ : ∃ cs : Array Value, cs = #[.slice A0 l0.length c0, .slice A1 l1.length c1, .int .i64 a2, .slice A3 l3.length c3] := ⟨_, rfl⟩
 have CE : ∀ W, GG w cs cs' W → (W.cell? ⟨w.heap.size, 0, none⟩ = some (.slice B0 l0.length d0) ∧ W.cell? ⟨w.heap.size, 1, none⟩ = some (.slice B1 l1.length d1) ∧ W.cell? ⟨w.heap.size, 2, none⟩ = some (.int .i64 a2) ∧ W.cell? ⟨w.heap.size, 3, none⟩ = some (.slice B3 l3.length d3)) ∧ W.cell? ⟨w.heap.size + 1, 0, none⟩ = some (.slice A0 l0.length c0) ∧ W.cell? ⟨w.heap.size + 1, 1, none⟩ = some (.slice A1 l1.length c1) ∧ W.cell? ⟨w.heap.size + 1, 2, none⟩ = some (.int .i64 a2) ∧ W.cell? ⟨w.heap.size + 1, 3, none⟩ = some (.slice A3 l3.length c3) := by
  intro W hW; subst hcs hcs'; exact hW.cells
 have st : GG w cs cs' ((w.alloc (.cells #[.slice B0 l0.length d0, .slice B1 l1.length d1, .int .i64 a2, .slice B3 l3.length d3] 25)).alloc (.cells #[.slice A0 l0.length c0, .slice A1 l1.length c1, .int .i64 a2, .slice A3 l3.length c3] 25)) := by subst hcs hcs'; exact GG.start w _ _
 have k0 : ∀ W, Below w.heap.size w W → Calls Tryd.prog 56 #[.slice B0 l0.length d0, .slice A0 l0.length c0] W fun e w' => e = .returned (.bool true) ∧ Aside0 (Below W.heap.size W w') := fun W hW => (KeptStrings_yes B0 d0 A0 c0 l0 W hm.h0 (Kd.C_below hm.r0 hW) hc0 (Kd.C_below hr0 hW)).mono fun _ _ h => ⟨h.1, ⟨h.2⟩⟩
 have k1 : ∀ W, Below w.heap.size w W → Calls Tryd.prog 56 #[.slice B1 l1.length d1, .slice A1 l1.length c1] W fun e w' => e = .returned (.bool true) ∧ Aside0 (Below W.heap.size W w') := fun W hW => (KeptStrings_yes B1 d1 A1 c1 l1 W hm.h1 (Kd.C_below hm.r1 hW) hc1 (Kd.C_below hr1 hW)).mono fun _ _ h => ⟨h.1, ⟨h.2⟩⟩
 have k3 : ∀ W, Below w.heap.size w W → Calls Tryd.prog 57 #[.slice B3 l3.length d3, .slice A3 l3.length c3] W fun e w' => e = .returned (.bool true) ∧ Aside0 (Below W.heap.size W w') := fun W hW => (KeptRules_yes B3 d3 A3 c3 l3 W (hm.r3.below hW) hc3 (Kd.C_below hr3 hW)).mono fun _ _ h => ⟨h.1, ⟨h.2⟩⟩
 have CE' := Aside0.mk CE
 have ST := Aside0.mk st
 have K0 := Aside0.mk k0
 have K1 := Aside0.mk k1
 have K3 := Aside0.mk k3
 have HCS := Lib.hid hcs
 have HCS' := Lib.hid hcs'
 clear CE st k0 k1 k3 hm hr0 hr1 hr3 hcs hcs'
 go_enter Tryd.func15, Tryd.ntmps15
 go_wp2_with (first
  | (go_at_call 56; (with_reducible refine (K0.out _ ST.out.low).mono ?_); rintro e w1 ⟨rfl, b1⟩; have t1 := Aside0.mk (ST.out.more b1.out); clear b1; obtain ⟨⟨f0, f1, f2, f3⟩, g0, g1, g2, g3⟩ := CE'.out _ t1.out)
  | (go_at_call 56; (with_reducible refine (K1.out _ t1.out.low).mono ?_); rintro e w2 ⟨rfl, b2⟩; have t2 := Aside0.mk (t1.out.more b2.out); clear b2 f0 f1 f2 f3 g0 g1 g2 g3; obtain ⟨⟨f0, f1, f2, f3⟩, g0, g1, g2, g3⟩ := CE'.out _ t2.out)
  | (go_at_call 57; (with_reducible refine (K3.out _ t2.out.low).mono ?_); rintro e w3 ⟨rfl, b3⟩; have t3 := Aside0.mk (t2.out.more b3.out); clear b3))
 go_ret
 exact ⟨rfl, t3.out.low⟩
set_option maxHeartbeats 8000000 in
set_option maxRecDepth 100000 in
theorem LentGrammar_m (A0 : Option Addr) (c0 : Nat) (l0 : List ByteArray) (A1 : Option Addr) (c1 : Nat) (l1 : List ByteArray) (a2 : Int) (A3 : Option Addr) (c3 : Nat) (l3 : List S52) (w : World) (hr0 : Kd.C Kd.string w A0 l0.length l0) (hr1 : Kd.C Kd.string w A1 l1.length l1) (hr3 : Kd.C k52 w A3 l3.length l3)
 (b0 : l0.length < 8796093022207) (b1 : l1.length < 8796093022207) (b3 : l3.length < 4398046511104) (bx : ∀ x ∈ l3, x.f1.length < 17592186044415) :
 Calls Tryd.prog 10 #[.agg #[.slice A0 l0.length c0, .slice A1 l1.length c1, .int .i64 a2, .slice A3 l3.length c3]] w fun e w' => ∃ B0 d0 B1 d1 B3 d3, e = .returned (.agg #[.slice B0 l0.length d0, .slice B1 l1.length d1, .int .i64 a2, .slice B3 l3.length d3]) ∧ Aside0 (MG w' B0 d0 l0 B1 d1 l1 B3 d3 l3 ∧ Below w.heap.size w w') := by
 obtain ⟨cs, hcs⟩ : ∃ cs : Array Value, cs = #[.slice A0 l0.length c0, .slice A1 l1.length c1, .int .i64 a2, .slice A3 l3.length c3] := ⟨_, rfl⟩
 obtain ⟨cs', hcs'⟩ : ∃ cs : Array Value, cs = #[.slice none 0 0, .slice none 0 0, .int .i64 0, .slice none 0 0] := ⟨_, rfl⟩
 have CE : ∀ W, GG w cs cs' W → W.cell? ⟨w.heap.size, 0, none⟩ = some (.slice A0 l0.length c0) ∧ W.cell? ⟨w.heap.size, 1, none⟩ = some (.slice A1 l1.length c1) ∧ W.cell? ⟨w.heap.size, 2, none⟩ = some (.int .i64 a2) ∧ W.cell? ⟨w.heap.size, 3, none⟩ = some (.slice A3 l3.length c3) ∧ W.heap[w.heap.size + 1]? = some (.cells #[.slice none 0 0, .slice none 0 0, .int .i64 0, .slice none 0 0] 25 (0, 0)) := by
  intro W hW; subst hcs hcs'; obtain ⟨⟨h0, h1, h2, h3⟩, _⟩ := hW.cells; exact ⟨h0, h1, h2, h3, hW.2.2⟩
 have st : GG w cs cs' ((w.alloc (.cells #[.slice A0 l0.length c0, .slice A1 l1.length c1, .int .i64 a2, .slice A3 l3.length c3] 25)).alloc (.cells #[.slice none 0 0, .slice none 0 0, .int .i64 0, .slice none 0 0] 25)) := by subst hcs hcs'; exact GG.start w _ _
 have SF : ∀ W', GG w cs cs' W' → (W'.cell? ⟨w.heap.size, 0, none⟩ = some (.slice A0 l0.length c0) ∧ W'.cell? ⟨w.heap.size, 1, none⟩ = some (.slice A1 l1.length c1) ∧ W'.cell? ⟨w.heap.size, 2, none⟩ = some (.int .i64 a2) ∧ W'.cell? ⟨w.heap.size, 3, none⟩ = some (.slice A3 l3.length c3) ∧ W'.cell? ⟨w.heap.size + 1, 0, none⟩ = some (.slice none 0 0) ∧ W'.cell? ⟨w.heap.size + 1, 1, none⟩ = some (.slice none 0 0) ∧ W'.cell? ⟨w.heap.size + 1, 2, none⟩ = some (.int .i64 0) ∧ W'.cell? ⟨w.heap.size + 1, 3, none⟩ = some (.slice none 0 0) ∧ W'.frozen? ⟨w.heap.size + 1, 0, none⟩ = false ∧ W'.frozen? ⟨w.heap.size + 1, 1, none⟩ = false ∧ W'.frozen? ⟨w.heap.size + 1, 2, none⟩ = false ∧ W'.frozen? ⟨w.heap.size + 1, 3, none⟩ = false) := by
  intro W' hW
  obtain ⟨h0, h1, h2, h3, h4⟩ := CE W' hW
  have hb : Box (w.heap.size + 1) #[.slice none 0 0, .slice none 0 0, .int .i64 0, .slice none 0 0] 25 W' := h4
  have hf : ∀ j, W'.frozen? ⟨w.heap.size + 1, j, none⟩ = false := fun j => by unfold World.frozen?; rw [show W'.heap[(⟨w.heap.size + 1, j, none⟩ : Addr).block]? = _ from h4]; rfl
  exact ⟨h0, h1, h2, h3, hb.cell 0 _ rfl, hb.cell 1 _ rfl, hb.cell 2 _ rfl, hb.cell 3 _ rfl, hf 0, hf 1, hf 2, hf 3⟩
 have k0 : ∀ W, GG w cs cs' W → Calls Tryd.prog 49 #[.slice A0 l0.length c0] W fun e W' => (∃ B d, e = .returned (.slice B l0.length d) ∧ Aside0 (Kd.R Kd.string 9 W' w.heap.size (fun k => w.heap.size + 2 ≤ k) (.slice B (l0.length + 1) d) (l0 ++ [(⟨#[109, 97, 114, 107]⟩ : ByteArray)]) ∧ GG w cs cs' W' ∧ Below W.heap.size W W')) ∧ (W'.cell? ⟨w.heap.size, 0, none⟩ = some (.slice A0 l0.length c0) ∧ W'.cell? ⟨w.heap.size, 1, none⟩ = some (.slice A1 l1.length c1) ∧ W'.cell? ⟨w.heap.size, 2, none⟩ = some (.int .i64 a2) ∧ W'.cell? ⟨w.heap.size, 3, none⟩ = some (.slice A3 l3.length c3) ∧ W'.cell? ⟨w.heap.size + 1, 0, none⟩ = some (.slice none 0 0) ∧ W'.cell? ⟨w.heap.size + 1, 1, none⟩ = some (.slice none 0 0) ∧ W'.cell? ⟨w.heap.size + 1, 2, none⟩ = some (.int .i64 0) ∧ W'.cell? ⟨w.heap.size + 1, 3, none⟩ = some (.slice none 0 0) ∧ W'.frozen? ⟨w.heap.size + 1, 0, none⟩ = false ∧ W'.frozen? ⟨w.heap.size + 1, 1, none⟩ = false ∧ W'.frozen? ⟨w.heap.size + 1, 2, none⟩ = false ∧ W'.frozen? ⟨w.heap.size + 1, 3, none⟩ = false) := by
  intro W hW
  refine (LentStrings_m A0 c0 l0 W (Kd.C_below hr0 hW.low) b0).mono ?_
  rintro e w' ⟨B, d, rfl, h⟩
  exact ⟨⟨B, d, rfl, ⟨Kd.R_lower (Kd.R_mono (Kd.R_bound h.out.1) (fun k hk => Nat.le_trans hW.two hk.2.1)) (Nat.le_trans (by omega) hW.two), hW.more h.out.2, h.out.2⟩⟩, SF _ (hW.more h.out.2)⟩
 have k1 : ∀ W, GG w cs cs' W → Calls Tryd.prog 49 #[.slice A1 l1.length c1] W fun e W' => (∃ B d, e = .returned (.slice B l1.length d) ∧ Aside0 (Kd.R Kd.string 9 W' w.heap.size (fun k => w.heap.size + 2 ≤ k) (.slice B (l1.length + 1) d) (l1 ++ [(⟨#[109, 97, 114, 107]⟩ : ByteArray)]) ∧ GG w cs cs' W' ∧ Below W.heap.size W W')) ∧ (W'.cell? ⟨w.heap.size, 0, none⟩ = some (.slice A0 l0.length c0) ∧ W'.cell? ⟨w.heap.size, 1, none⟩ = some (.slice A1 l1.length c1) ∧ W'.cell? ⟨w.heap.size, 2, none⟩ = some (.int .i64 a2) ∧ W'.cell? ⟨w.heap.size, 3, none⟩ = some (.slice A3 l3.length c3) ∧ W'.cell? ⟨w.heap.size + 1, 0, none⟩ = some (.slice none 0 0) ∧ W'.cell? ⟨w.heap.size + 1, 1, none⟩ = some (.slice none 0 0) ∧ W'.cell? ⟨w.heap.size + 1, 2, none⟩ = some (.int .i64 0) ∧ W'.cell? ⟨w.heap.size + 1, 3, none⟩ = some (.slice none 0 0) ∧ W'.frozen? ⟨w.heap.size + 1, 0, none⟩ = false ∧ W'.frozen? ⟨w.heap.size + 1, 1, none⟩ = false ∧ W'.frozen? ⟨w.heap.size + 1, 2, none⟩ = false ∧ W'.frozen? ⟨w.heap.size + 1, 3, none⟩ = false) := by
  intro W hW
  refine (LentStrings_m A1 c1 l1 W (Kd.C_below hr1 hW.low) b1).mono ?_
  rintro e w' ⟨B, d, rfl, h⟩
  exact ⟨⟨B, d, rfl, ⟨Kd.R_lower (Kd.R_mono (Kd.R_bound h.out.1) (fun k hk => Nat.le_trans hW.two hk.2.1)) (Nat.le_trans (by omega) hW.two), hW.more h.out.2, h.out.2⟩⟩, SF _ (hW.more h.out.2)⟩
 have k3 : ∀ W, GG w cs cs' W → Calls Tryd.prog 50 #[.slice A3 l3.length c3] W fun e W' => (∃ B d, e = .returned (.slice B l3.length d) ∧ Aside0 (Kd.R kRx 52 W' w.heap.size (fun k => w.heap.size + 2 ≤ k) (.slice B (l3.length + 1) d) (mk1 l3 ++ [((⟨-7171, []⟩ : S52), false)]) ∧ GG w cs cs' W' ∧ Below W.heap.size W W')) ∧ (W'.cell? ⟨w.heap.size, 0, none⟩ = some (.slice A0 l0.length c0) ∧ W'.cell? ⟨w.heap.size, 1, none⟩ = some (.slice A1 l1.length c1) ∧ W'.cell? ⟨w.heap.size, 2, none⟩ = some (.int .i64 a2) ∧ W'.cell? ⟨w.heap.size, 3, none⟩ = some (.slice A3 l3.length c3) ∧ W'.cell? ⟨w.heap.size + 1, 0, none⟩ = some (.slice none 0 0) ∧ W'.cell? ⟨w.heap.size + 1, 1, none⟩ = some (.slice none 0 0) ∧ W'.cell? ⟨w.heap.size + 1, 2, none⟩ = some (.int .i64 0) ∧ W'.cell? ⟨w.heap.size + 1, 3, none⟩ = some (.slice none 0 0) ∧ W'.frozen? ⟨w.heap.size + 1, 0, none⟩ = false ∧ W'.frozen? ⟨w.heap.size + 1, 1, none⟩ = false ∧ W'.frozen? ⟨w.heap.size + 1, 2, none⟩ = false ∧ W'.frozen? ⟨w.heap.size + 1, 3, none⟩ = false) := by
  intro W hW
  refine (LentRules_m A3 c3 l3 W (Kd.C_below hr3 hW.low) b3 bx).mono ?_
  rintro e w' ⟨B, d, rfl, h⟩
  exact ⟨⟨B, d, rfl, ⟨Kd.R_lower (Kd.R_mono (Kd.R_bound h.out.1) (fun k hk => Nat.le_trans hW.two hk.2.1)) (Nat.le_trans (by omega) hW.two), hW.more h.out.2, h.out.2⟩⟩, SF _ (hW.more h.out.2)⟩
 obtain ⟨f0, f1, f2, f3, f4, f5, f6, f7, f8, f9, f10, f11⟩ := SF _ st
 have ST := Aside0.mk st
 have HCS := Lib.hid hcs
 have HCS' := Lib.hid hcs'
 have K0 := Aside0.mk k0
 have K1 := Aside0.mk k1
 have K3 := Aside0.mk k3
 clear CE st k0 k1 k3 hr0 hr1 hr3 hcs hcs' SF bx
 go_enter Tryd.func10, Tryd.ntmps10
 go_wp2_with fail
 go_region_held3 (fun W' => W'.cell? ⟨w.heap.size, 0, none⟩ = some (.slice A0 l0.length c0) ∧ W'.cell? ⟨w.heap.size, 1, none⟩ = some (.slice A1 l1.length c1) ∧ W'.cell? ⟨w.heap.size, 2, none⟩ = some (.int .i64 a2) ∧ W'.cell? ⟨w.heap.size, 3, none⟩ = some (.slice A3 l3.length c3))
  (go_keep)
  ((first
   | (go_at_call 49; (with_reducible refine (K0.out _ ?_).mono ?_); exact (by first | exact ST.out | exact ST.out.more (Below.refl _ _).drew); rintro e w1 ⟨⟨B0, d0, rfl, t1⟩, g0, g1, g2, g3, g4, g5, g6, g7, g8, g9, g10, g11⟩)
   | (go_at_call 49; (with_reducible refine (K1.out _ t1.out.2.1).mono ?_); rintro e w2 ⟨⟨B1, d1, rfl, t2⟩, g0, g1, g2, g3, g4, g5, g6, g7, g8, g9, g10, g11⟩)
   | (go_at_call 50; (with_reducible refine (K3.out _ t2.out.2.1).mono ?_); rintro e w3 ⟨⟨B3, d3, rfl, t3⟩, g0, g1, g2, g3, g4, g5, g6, g7, g8, g9, g10, g11⟩)))
 go_wp2_with fail
 refine bodyPost_ret (v := .agg #[.slice B0 l0.length d0, .slice B1 l1.length d1, .int .i64 a2, .slice B3 l3.length d3]) (by simp [results, Tryd.results10, go_sem, g4, g5, g6, g7]) rfl ⟨B0, d0, B1, d1, B3, d3, rfl, ⟨?_, ?_⟩⟩
 · have e0 := Kd.R_reads' (Kd.R_far (Kd.R_far (Kd.R_far (Kd.R_far (Kd.R_below (Kd.R_below t1.out.1 t2.out.2.2) t3.out.2.2) (p := ⟨w.heap.size + 1, 0, none⟩) (fun k hk => by dsimp only; omega) (.slice B0 l0.length d0)) (p := ⟨w.heap.size + 1, 1, none⟩) (fun k hk => by dsimp only; omega) (.slice B1 l1.length d1)) (p := ⟨w.heap.size + 1, 2, none⟩) (fun k hk => by dsimp only; omega) (.int .i64 a2)) (p := ⟨w.heap.size + 1, 3, none⟩) (fun k hk => by dsimp only; omega) (.slice B3 l3.length d3))
   have e1 := Kd.R_reads' (Kd.R_far (Kd.R_far (Kd.R_far (Kd.R_far (Kd.R_below t2.out.1 t3.out.2.2) (p := ⟨w.heap.size + 1, 0, none⟩) (fun k hk => by dsimp only; omega) (.slice B0 l0.length d0)) (p := ⟨w.heap.size + 1, 1, none⟩) (fun k hk => by dsimp only; omega) (.slice B1 l1.length d1)) (p := ⟨w.heap.size + 1, 2, none⟩) (fun k hk => by dsimp only; omega) (.int .i64 a2)) (p := ⟨w.heap.size + 1, 3, none⟩) (fun k hk => by dsimp only; omega) (.slice B3 l3.length d3))
   have e3 := MR.of (Kd.R_far (Kd.R_far (Kd.R_far (Kd.R_far t3.out.1 (p := ⟨w.heap.size + 1, 0, none⟩) (fun k hk => by dsimp only; omega) (.slice B0 l0.length d0)) (p := ⟨w.heap.size + 1, 1, none⟩) (fun k hk => by dsimp only; omega) (.slice B1 l1.length d1)) (p := ⟨w.heap.size + 1, 2, none⟩) (fun k hk => by dsimp only; omega) (.int .i64 a2)) (p := ⟨w.heap.size + 1, 3, none⟩) (fun k hk => by dsimp only; omega) (.slice B3 l3.length d3))
   rw [← e0.1] at e0
   rw [← e1.1] at e1
   exact ⟨e0.2.1, e0.2.2, e1.2.1, e1.2.2, e3⟩
 · have hb := t3.out.2.1.low
   exact (((hb.setCell (p := ⟨w.heap.size + 1, 0, none⟩) (by dsimp only; omega) _).setCell (p := ⟨w.heap.size + 1, 1, none⟩) (by dsimp only; omega) _).setCell (p := ⟨w.heap.size + 1, 2, none⟩) (by dsimp only; omega) _).setCell (p := ⟨w.heap.size + 1, 3, none⟩) (by dsimp only; omega) _
end Go.Proofs.YthjhaogfpdkhbaaDoor.B
/- Where two grammars' boxes lie: the one that is handed in, the one that was lent. -/
namespace Go.Proofs.YthjhaogfpdkhbaaDoor.Sh
open Go.RowKit YthjhaogfpdkhbaaDoorW.PrintWords YthjhaogfpdkhbaaDoorW.PrintLast YthjhaogfpdkhbaaDoorW.PrintMore
open B H F

def TN (w w1 : World) (cs bs : Array Value) (W : World) : Prop := Below w.heap.size w W ∧ Below w1.heap.size w1 W ∧ Box w.heap.size cs 25 W ∧ Box w1.heap.size bs 25 W
theorem TN.low {w w1 : World} {cs bs : Array Value} {W : World} (h : TN w w1 cs bs W) : Below w.heap.size w W := h.1
theorem TN.low1 {w w1 : World} {cs bs : Array Value} {W : World} (h : TN w w1 cs bs W) : Below w1.heap.size w1 W := h.2.1
theorem Box.in_ {b : Nat} {cs : Array Value} {t : TypeId} {W : World} (h : Box b cs t W) : b < W.heap.size := by
 have h2 : W.heap[b]? = some (.cells cs t (0, 0)) := h
 rcases Nat.lt_or_ge b W.heap.size with h1 | h1
 · exact h1
 · rw [Array.getElem?_eq_none h1] at h2; cases h2
theorem TN.base {w w1 : World} {cs bs : Array Value} {W W' : World} (h : TN w w1 cs bs W) (base : Nat) (hb : Below base W W') (h0 : w.heap.size < base) (h1 : w1.heap.size < base) (hbW : base ≤ W.heap.size) : TN w w1 cs bs W' :=
 ⟨h.1.trans (hb.mono (by omega)), h.2.1.trans (hb.mono (by omega)), (hb.block _ h0).trans h.2.2.1, (hb.block _ h1).trans h.2.2.2⟩
theorem TN.more {w w1 : World} {cs bs : Array Value} {W W' : World} (h : TN w w1 cs bs W) (hb : Below W.heap.size W W') : TN w w1 cs bs W' := h.base W.heap.size hb (Box.in_ h.2.2.1) (Box.in_ h.2.2.2) (Nat.le_refl _)
theorem TN.cells {w w1 : World} {v0 v1 v2 v3 u0 u1 u2 u3 : Value} {W : World} (h : TN w w1 #[v0, v1, v2, v3] #[u0, u1, u2, u3] W) : W.cell? ⟨w.heap.size, 0, none⟩ = some v0 ∧ W.cell? ⟨w.heap.size, 1, none⟩ = some v1 ∧ W.cell? ⟨w.heap.size, 2, none⟩ = some v2 ∧ W.cell? ⟨w.heap.size, 3, none⟩ = some v3 ∧
 W.cell? ⟨w1.heap.size, 0, none⟩ = some u0 ∧ W.cell? ⟨w1.heap.size, 1, none⟩ = some u1 ∧ W.cell? ⟨w1.heap.size, 2, none⟩ = some u2 ∧ W.cell? ⟨w1.heap.size, 3, none⟩ = some u3 :=
 ⟨h.2.2.1.cell 0 _ rfl, h.2.2.1.cell 1 _ rfl, h.2.2.1.cell 2 _ rfl, h.2.2.1.cell 3 _ rfl, h.2.2.2.cell 0 _ rfl, h.2.2.2.cell 1 _ rfl, h.2.2.2.cell 2 _ rfl, h.2.2.2.cell 3 _ rfl⟩
def TZ (ad : Int → Addr) (E : Value) (p : Int × Int) (w w1 : World) (cs bs : Array Value) (W : World) : Prop := TN w w1 cs bs W ∧ ErrW ad W E p
theorem TZ.tn {ad : Int → Addr} {E : Value} {p : Int × Int} {w w1 : World} {cs bs : Array Value} {W : World} (h : TZ ad E p w w1 cs bs W) : TN w w1 cs bs W := h.1
theorem TZ.more {ad : Int → Addr} {E : Value} {p : Int × Int} {w w1 : World} {cs bs : Array Value} {W W' : World} (h : TZ ad E p w w1 cs bs W) (hb : Below W.heap.size W W') : TZ ad E p w w1 cs bs W' := ⟨h.1.more hb, h.2.below hb⟩
theorem TN.start {w w1 : World} {cs bs : Array Value} (h : GS w cs w1) : TN w w1 cs bs (w1.alloc (.cells bs 25)) := by
 have hb := (Below.refl w1.heap.size w1).alloc (Nat.le_refl _) (.cells bs 25)
 exact ⟨h.low.trans (hb.mono h.low.size), hb, h.2.below hb, Box.new w1 _ _⟩
end Go.Proofs.YthjhaogfpdkhbaaDoor.Sh
/- dovetaillaw05.ShowParts: the walk (printed by tools/mk_showw.py). -/
namespace Go.Proofs.YthjhaogfpdkhbaaDoor.Sh
open Go.RowKit YthjhaogfpdkhbaaDoorW.PrintWords YthjhaogfpdkhbaaDoorW.PrintLast YthjhaogfpdkhbaaDoorW.PrintMore
open B H F D
set_option maxHeartbeats 8000000 in
set_option maxRecDepth 100000 in
theorem ShowParts_calls (ad : Int → Addr) (A0 : Option Addr) (c0 : Nat) (l0 : List ByteArray) (A1 : Option Addr) (c1 : Nat) (l1 : List ByteArray) (a2 : Int) (A3 : Option Addr) (c3 : Nat) (R : List S52) (n s : Int) (A : Option Addr) (c : Nat) (l : List Int) (m : Nat) (w : World) (hs : SentsK ad w) (hr0 : Kd.C Kd.string w A0 l0.length l0) (hc0 : l0.length ≤ c0) (hr1 : Kd.C Kd.string w A1 l1.length l1) (hc1 : l1.length ≤ c1) (hr3 : Kd.C k52 w A3 R.length R) (hc3 : R.length ≤ c3) (hr : Kd.C (Kd.int .i64) w A l.length l) (hc : l.length ≤ c)
 (b0 : l0.length < 8796093022207) (b1 : l1.length < 8796093022207) (b3 : R.length < 4398046511104) (bx : ∀ x ∈ R, x.f1.length < 17592186044415) (bl : l.length < 17592186044415) (hm : m ≤ 35184372088000) (z0 : ∀ x ∈ l0, x.size ≤ m) (z1 : ∀ x ∈ l1, x.size ≤ m) (hb : (4 * m + 5) * l.length < 140737488355328) (s0 : -9223372036854775808 ≤ s) (s1 : s < 9223372036854775808) (hl : ∀ s ∈ l, -9223372036854775808 ≤ s ∧ s < 9223372036854775808) :
 Calls Tryd.prog 4 #[.agg #[.slice A0 l0.length c0, .slice A1 l1.length c1, .int .i64 a2, .slice A3 R.length c3], .int .i64 n, .int .i64 s, .slice A l.length c] w fun e w' => e = .returned (.bool true) ∧ Below w.heap.size w w' := by
 obtain ⟨cs, hcs⟩ : ∃ cs : Array Value, cs = #[.slice A0 l0.length c0, .slice A1 l1.length c1, .int .i64 a2, .slice A3 R.length c3] := ⟨_, rfl⟩
 have st : GS w cs (w.alloc (.cells #[.slice A0 l0.length c0, .slice A1 l1.length c1, .int .i64 a2, .slice A3 R.length c3] 25)) := by subst hcs; exact GS.start w _
 have kL : ∀ W, GS w cs W → Calls Tryd.prog 10 #[.agg #[.slice A0 l0.length c0, .slice A1 l1.length c1, .int .i64 a2, .slice A3 R.length c3]] W fun e w' => ∃ B0 d0 B1 d1 B3 d3, e = .returned (.agg #[.slice B0 l0.length d0, .slice B1 l1.length d1, .int .i64 a2, .slice B3 R.length d3]) ∧ Aside0 (MG w' B0 d0 l0 B1 d1 l1 B3 d3 R ∧ GS w cs w') :=
  fun W hW => (LentGrammar_m A0 c0 l0 A1 c1 l1 a2 A3 c3 R W (Kd.C_below hr0 hW.low) (Kd.C_below hr1 hW.low) (Kd.C_below hr3 hW.low) b0 b1 b3 bx).mono fun e w' ⟨B0, d0, B1, d1, B3, d3, he, hm⟩ => ⟨B0, d0, B1, d1, B3, d3, he, ⟨hm.out.1, hW.more hm.out.2⟩⟩
 have kI : ∀ W, GS w cs W → Calls Tryd.prog 11 #[.slice A l.length c] W fun e w' => ∃ B d, e = .returned (.slice B l.length d) ∧ Aside0 (l.length + 1 ≤ d ∧ Kd.C (Kd.int .i64) w' B (l.length + 1) (l ++ [-7171]) ∧ Below W.heap.size W w') := by
  intro W hW
  refine (LentInts_m A c l W (Kd.C_below hr hW.low) bl).mono ?_
  rintro e w' ⟨B, d, he, h⟩
  obtain ⟨h1, h2, h3⟩ := Kd.R_reads' h.out.1
  rw [← h1] at h3
  exact ⟨B, d, he, ⟨h2, h3, h.out.2⟩⟩
 have ST := Aside0.mk st
 have KL := Aside0.mk kL
 have KI := Aside0.mk kI
 have HS := Aside0.mk hs
 have HR0 := Aside0.mk hr0
 have HR1 := Aside0.mk hr1
 have HR3 := Aside0.mk hr3
 have HR := Aside0.mk hr
 have HCS := Lib.hid hcs
 have HB := Lib.hid (And.intro hb (And.intro s0 (And.intro s1 (And.intro b0 (And.intro b1 (And.intro b3 bl))))))
 have HL := Lib.hid hl
 have HX := Lib.hid bx
 clear hs hr0 hr1 hr3 hr st kL kI hcs hb s0 s1 b0 b1 b3 bl hl bx
 go_enter Tryd.func4, Tryd.ntmps4
 go_wp2_with (first
  | (go_at_call 10; (with_reducible refine (KL.out _ ST.out).mono ?_); rintro e w1 ⟨B0, d0, B1, d1, B3, d3, rfl, hm1⟩)
  | (go_at_call 11; (with_reducible refine (KI.out _ hm1.out.2).mono ?_); rintro e w2 ⟨D, d, rfl, hm2⟩)
  | (go_at_call 17; refine Aside0.out ?_))
 refine Aside0.mk ?_
 have hr0 := HR0.out
 have hr1 := HR1.out
 have hr3 := HR3.out
 have hr := HR.out
 have hs := HS.out
 obtain ⟨hmg, hgw⟩ := hm1.out
 obtain ⟨hd, hri, hbi⟩ := hm2.out
 obtain ⟨hb, s0, s1, b0, b1, b3, bl⟩ := HB.out
 have hl := HL.out
 have m0 := C_max hr0
 have m1 := C_max hr1
 obtain ⟨bs, hbs⟩ : ∃ bs : Array Value, bs = #[.slice B0 l0.length d0, .slice B1 l1.length d1, .int .i64 a2, .slice B3 R.length d3] := ⟨_, rfl⟩
 have t1 : TN w w2 cs bs (w2.alloc (.cells #[.slice B0 l0.length d0, .slice B1 l1.length d1, .int .i64 a2, .slice B3 R.length d3] 25)) := by
  subst hbs
  exact TN.start (hgw.more hbi)
 have CE : ∀ W, TN w w2 cs bs W → W.cell? ⟨w.heap.size, 0, none⟩ = some (.slice A0 l0.length c0) ∧ W.cell? ⟨w.heap.size, 1, none⟩ = some (.slice A1 l1.length c1) ∧ W.cell? ⟨w.heap.size, 2, none⟩ = some (.int .i64 a2) ∧ W.cell? ⟨w.heap.size, 3, none⟩ = some (.slice A3 R.length c3) ∧ W.cell? ⟨w2.heap.size, 0, none⟩ = some (.slice B0 l0.length d0) ∧ W.cell? ⟨w2.heap.size, 1, none⟩ = some (.slice B1 l1.length d1) ∧ W.cell? ⟨w2.heap.size, 2, none⟩ = some (.int .i64 a2) ∧ W.cell? ⟨w2.heap.size, 3, none⟩ = some (.slice B3 R.length d3) := by
  intro W hW; have hcs := HCS.out; subst hcs hbs; exact hW.cells
 have e0 := hmg.h0
 have e1 := hmg.h1
 have e3 := hmg.r3.1
 have q0 : ∀ W, TN w w2 cs bs W → Kd.C Kd.string W A0 l0.length l0 := fun W hW => Kd.C_below hr0 hW.low
 have q1 : ∀ W, TN w w2 cs bs W → Kd.C Kd.string W A1 l1.length l1 := fun W hW => Kd.C_below hr1 hW.low
 have q3 : ∀ W, TN w w2 cs bs W → Kd.C k52 W A3 R.length R := fun W hW => Kd.C_below hr3 hW.low
 have qm : ∀ W, TN w w2 cs bs W → MG W B0 d0 l0 B1 d1 l1 B3 d3 R := fun W hW => (hmg.below hbi).below hW.low1
 have p0 : ∀ W, TN w w2 cs bs W → Kd.C Kd.string W B0 l0.length l0 := fun W hW => C_pre (qm W hW).r0
 have p1 : ∀ W, TN w w2 cs bs W → Kd.C Kd.string W B1 l1.length l1 := fun W hW => C_pre (qm W hW).r1
 have p3 : ∀ W, TN w w2 cs bs W → Kd.C k52 W B3 R.length R := fun W hW => (qm W hW).r3.reads
 have kU : ∀ W, TN w w2 cs bs W → Calls Tryd.prog 17 #[.agg #[.slice B0 l0.length d0, .slice B1 l1.length d1, .int .i64 a2, .slice B3 R.length d3], .int .i64 n] W fun e w' => ∃ E, e = .returned (.tuple #[.string ⟨(ruleP l0 l1 a2 R n).1.toArray⟩, E]) ∧ Aside0 (TZ ad E (ruleP l0 l1 a2 R n).2 w w2 cs bs w') :=
  fun W hW => (Rule_calls ad B0 d0 l0 B1 d1 l1 a2 B3 d3 R n W (hs.below hW.low) (p0 W hW) (by omega) (p1 W hW) (by omega) (p3 W hW) (by omega)).mono fun e w' ⟨E, he, hE, hb⟩ => ⟨E, he, ⟨hW.more hb, hE⟩⟩
 have kV : ∀ W, TN w w2 cs bs W → Calls Tryd.prog 18 #[.agg #[.slice A0 l0.length c0, .slice A1 l1.length c1, .int .i64 a2, .slice A3 R.length c3], .int .i64 n] W fun e w' => e = .returned (.tuple #[.string ⟨(ruleP l0 l1 a2 R n).1.toArray⟩, .int .i64 (ruleP l0 l1 a2 R n).2.1]) ∧ Below W.heap.size W w' := by
  intro W hW
  obtain ⟨kk, hrf⟩ := rRule_f (l0 := l0) (l1 := l1) (a2 := a2) (R := R) m0 m1 n
  exact dovetailref05_Rule.calls kk A0 c0 l0 A1 c1 l1 a2 A3 c3 R n _ _ W (q0 W hW) hc0 (q1 W hW) hc1 (q3 W hW) hc3 hrf
 have kS : ∀ W, TN w w2 cs bs W → Calls Tryd.prog 19 #[.agg #[.slice B0 l0.length d0, .slice B1 l1.length d1, .int .i64 a2, .slice B3 R.length d3], .int .i64 s] W fun e w' => e = .returned (.string ⟨(P.symL l0 l1 s).toArray⟩) ∧ Aside0 (TN w w2 cs bs w') ∧ w'.cell? ⟨w.heap.size, 0, none⟩ = some (.slice A0 l0.length c0) ∧ w'.cell? ⟨w.heap.size, 1, none⟩ = some (.slice A1 l1.length c1) ∧ w'.cell? ⟨w.heap.size, 2, none⟩ = some (.int .i64 a2) ∧ w'.cell? ⟨w.heap.size, 3, none⟩ = some (.slice A3 R.length c3) ∧ w'.cell? ⟨w2.heap.size, 0, none⟩ = some (.slice B0 l0.length d0) ∧ w'.cell? ⟨w2.heap.size, 1, none⟩ = some (.slice B1 l1.length d1) ∧ w'.cell? ⟨w2.heap.size, 2, none⟩ = some (.int .i64 a2) ∧ w'.cell? ⟨w2.heap.size, 3, none⟩ = some (.slice B3 R.length d3) :=
  fun W hW => (Symbol_calls B0 d0 l0 B1 d1 l1 a2 B3 d3 R s m W (p0 W hW) (by omega) (p1 W hW) (by omega) (p3 W hW) (by omega) hm z0 z1 s0 s1).mono fun e w' ⟨he, hb⟩ => ⟨he, ⟨hW.more hb⟩, CE _ (hW.more hb)⟩
 have kT : ∀ W, TN w w2 cs bs W → Calls Tryd.prog 20 #[.agg #[.slice A0 l0.length c0, .slice A1 l1.length c1, .int .i64 a2, .slice A3 R.length c3], .int .i64 s] W fun e w' => e = .returned (.string ⟨(P.symL l0 l1 s).toArray⟩) ∧ Aside0 (TN w w2 cs bs w') ∧ w'.cell? ⟨w.heap.size, 0, none⟩ = some (.slice A0 l0.length c0) ∧ w'.cell? ⟨w.heap.size, 1, none⟩ = some (.slice A1 l1.length c1) ∧ w'.cell? ⟨w.heap.size, 2, none⟩ = some (.int .i64 a2) ∧ w'.cell? ⟨w.heap.size, 3, none⟩ = some (.slice A3 R.length c3) ∧ w'.cell? ⟨w2.heap.size, 0, none⟩ = some (.slice B0 l0.length d0) ∧ w'.cell? ⟨w2.heap.size, 1, none⟩ = some (.slice B1 l1.length d1) ∧ w'.cell? ⟨w2.heap.size, 2, none⟩ = some (.int .i64 a2) ∧ w'.cell? ⟨w2.heap.size, 3, none⟩ = some (.slice B3 R.length d3) :=
  fun W hW => (dovetailref05_Symbol.calls _ A0 c0 l0 A1 c1 l1 a2 A3 c3 R s _ W (q0 W hW) hc0 (q1 W hW) hc1 (q3 W hW) hc3 (rsym_f (by omega) z0 z1 (by omega) (by omega) s _ (Nat.le_refl _))).mono fun e w' ⟨he, hb⟩ => ⟨he, ⟨hW.more hb⟩, CE _ (hW.more hb)⟩
 have kY : ∀ W, TN w w2 cs bs W → Calls Tryd.prog 21 #[.agg #[.slice B0 l0.length d0, .slice B1 l1.length d1, .int .i64 a2, .slice B3 R.length d3], .slice D l.length d] W fun e w' => e = .returned (.string ⟨(P.symsL l0 l1 l).toArray⟩) ∧ Aside0 (TN w w2 cs bs w') ∧ w'.cell? ⟨w.heap.size, 0, none⟩ = some (.slice A0 l0.length c0) ∧ w'.cell? ⟨w.heap.size, 1, none⟩ = some (.slice A1 l1.length c1) ∧ w'.cell? ⟨w.heap.size, 2, none⟩ = some (.int .i64 a2) ∧ w'.cell? ⟨w.heap.size, 3, none⟩ = some (.slice A3 R.length c3) ∧ w'.cell? ⟨w2.heap.size, 0, none⟩ = some (.slice B0 l0.length d0) ∧ w'.cell? ⟨w2.heap.size, 1, none⟩ = some (.slice B1 l1.length d1) ∧ w'.cell? ⟨w2.heap.size, 2, none⟩ = some (.int .i64 a2) ∧ w'.cell? ⟨w2.heap.size, 3, none⟩ = some (.slice B3 R.length d3) :=
  fun W hW => (Symbols_calls B0 d0 l0 B1 d1 l1 a2 B3 d3 R D d l m W (p0 W hW) (by omega) (p1 W hW) (by omega) (p3 W hW) (by omega) (C_pre (Kd.C_below hri hW.low1)) (by omega) hm z0 z1 (by omega) hl).mono fun e w' ⟨he, hb⟩ => ⟨he, ⟨hW.more hb⟩, CE _ (hW.more hb)⟩
 have kZ : ∀ W, TN w w2 cs bs W → Calls Tryd.prog 22 #[.agg #[.slice A0 l0.length c0, .slice A1 l1.length c1, .int .i64 a2, .slice A3 R.length c3], .slice A l.length c] W fun e w' => e = .returned (.string ⟨(P.symsL l0 l1 l).toArray⟩) ∧ Aside0 (TN w w2 cs bs w') ∧ w'.cell? ⟨w.heap.size, 0, none⟩ = some (.slice A0 l0.length c0) ∧ w'.cell? ⟨w.heap.size, 1, none⟩ = some (.slice A1 l1.length c1) ∧ w'.cell? ⟨w.heap.size, 2, none⟩ = some (.int .i64 a2) ∧ w'.cell? ⟨w.heap.size, 3, none⟩ = some (.slice A3 R.length c3) ∧ w'.cell? ⟨w2.heap.size, 0, none⟩ = some (.slice B0 l0.length d0) ∧ w'.cell? ⟨w2.heap.size, 1, none⟩ = some (.slice B1 l1.length d1) ∧ w'.cell? ⟨w2.heap.size, 2, none⟩ = some (.int .i64 a2) ∧ w'.cell? ⟨w2.heap.size, 3, none⟩ = some (.slice B3 R.length d3) :=
  fun W hW => (dovetailref05_Symbols.calls _ A0 c0 l0 A1 c1 l1 a2 A3 c3 R A c l _ W (q0 W hW) hc0 (q1 W hW) hc1 (q3 W hW) hc3 (Kd.C_below hr hW.low) hc (rSymbols_f (by omega) z0 z1 (by omega) (by omega) l hb _ (Nat.lt_succ_self _))).mono fun e w' ⟨he, hb⟩ => ⟨he, ⟨hW.more hb⟩, CE _ (hW.more hb)⟩
 have kK : ∀ W, TN w w2 cs bs W → Calls Tryd.prog 15 #[.agg #[.slice B0 l0.length d0, .slice B1 l1.length d1, .int .i64 a2, .slice B3 R.length d3], .agg #[.slice A0 l0.length c0, .slice A1 l1.length c1, .int .i64 a2, .slice A3 R.length c3]] W fun e w' => e = .returned (.bool true) ∧ Aside0 (TN w w2 cs bs w') ∧ w'.cell? ⟨w.heap.size, 0, none⟩ = some (.slice A0 l0.length c0) ∧ w'.cell? ⟨w.heap.size, 1, none⟩ = some (.slice A1 l1.length c1) ∧ w'.cell? ⟨w.heap.size, 2, none⟩ = some (.int .i64 a2) ∧ w'.cell? ⟨w.heap.size, 3, none⟩ = some (.slice A3 R.length c3) ∧ w'.cell? ⟨w2.heap.size, 0, none⟩ = some (.slice B0 l0.length d0) ∧ w'.cell? ⟨w2.heap.size, 1, none⟩ = some (.slice B1 l1.length d1) ∧ w'.cell? ⟨w2.heap.size, 2, none⟩ = some (.int .i64 a2) ∧ w'.cell? ⟨w2.heap.size, 3, none⟩ = some (.slice B3 R.length d3) :=
  fun W hW => (KeptGrammar_yes B0 d0 B1 d1 B3 d3 A0 c0 l0 A1 c1 l1 a2 A3 c3 R W (qm W hW) (q0 W hW) hc0 (q1 W hW) hc1 (q3 W hW) hc3).mono fun e w' ⟨he, hb⟩ => ⟨he, ⟨hW.more hb⟩, CE _ (hW.more hb)⟩
 have kJ : ∀ W, TN w w2 cs bs W → Calls Tryd.prog 16 #[.slice D l.length d, .slice A l.length c] W fun e w' => e = .returned (.bool true) ∧ Aside0 (TN w w2 cs bs w') ∧ w'.cell? ⟨w.heap.size, 0, none⟩ = some (.slice A0 l0.length c0) ∧ w'.cell? ⟨w.heap.size, 1, none⟩ = some (.slice A1 l1.length c1) ∧ w'.cell? ⟨w.heap.size, 2, none⟩ = some (.int .i64 a2) ∧ w'.cell? ⟨w.heap.size, 3, none⟩ = some (.slice A3 R.length c3) ∧ w'.cell? ⟨w2.heap.size, 0, none⟩ = some (.slice B0 l0.length d0) ∧ w'.cell? ⟨w2.heap.size, 1, none⟩ = some (.slice B1 l1.length d1) ∧ w'.cell? ⟨w2.heap.size, 2, none⟩ = some (.int .i64 a2) ∧ w'.cell? ⟨w2.heap.size, 3, none⟩ = some (.slice B3 R.length d3) :=
  fun W hW => (KeptInts_yes D d A c l W hd (Kd.C_below hri hW.low1) hc (Kd.C_below hr hW.low)).mono fun e w' ⟨he, hb⟩ => ⟨he, ⟨hW.more hb⟩, CE _ (hW.more hb)⟩
 generalize ruleP l0 l1 a2 R n = pr at kU kV
 generalize (⟨(P.symL l0 l1 s).toArray⟩ : ByteArray) = sy at kS kT
 generalize (⟨(P.symsL l0 l1 l).toArray⟩ : ByteArray) = sz at kY kZ
 obtain ⟨rl, kn, rn⟩ := pr
 dsimp only at kU kV
 generalize (⟨rl.toArray⟩ : ByteArray) = rs at kU kV
 have kD : ∀ E W, TZ ad E (kn, rn) w w2 cs bs W → Calls Tryd.prog 14 #[E] W fun e w' => e = .returned (.int .i64 kn) ∧ Aside0 (TN w w2 cs bs w') ∧ w'.cell? ⟨w.heap.size, 0, none⟩ = some (.slice A0 l0.length c0) ∧ w'.cell? ⟨w.heap.size, 1, none⟩ = some (.slice A1 l1.length c1) ∧ w'.cell? ⟨w.heap.size, 2, none⟩ = some (.int .i64 a2) ∧ w'.cell? ⟨w.heap.size, 3, none⟩ = some (.slice A3 R.length c3) ∧ w'.cell? ⟨w2.heap.size, 0, none⟩ = some (.slice B0 l0.length d0) ∧ w'.cell? ⟨w2.heap.size, 1, none⟩ = some (.slice B1 l1.length d1) ∧ w'.cell? ⟨w2.heap.size, 2, none⟩ = some (.int .i64 a2) ∧ w'.cell? ⟨w2.heap.size, 3, none⟩ = some (.slice B3 R.length d3) := fun E W hW => (Kind_w (hs.below hW.1.low) hW.2).mono fun e w' ⟨he, hb⟩ => ⟨he, ⟨hW.1.more hb⟩, CE _ (hW.1.more hb)⟩
 have T1 := Aside0.mk t1
 have CE' := Aside0.mk CE
 have KU := Aside0.mk kU
 have KV := Aside0.mk kV
 have KS := Aside0.mk kS
 have KT := Aside0.mk kT
 have KY := Aside0.mk kY
 have KZ := Aside0.mk kZ
 have KK := Aside0.mk kK
 have KJ := Aside0.mk kJ
 have KD := Aside0.mk kD
 have HBS := Lib.hid hbs
 clear hr0 hr1 hr3 hr hs hmg hgw hri hbi HR0 HR1 HR3 HR HS KL KI ST hm1 hm2 t1 CE q0 q1 q3 qm p0 p1 p3 kU kV kS kT kY kZ kK kJ kD hbs hb s0 s1 b0 b1 b3 bl hl m0 m1 e0 e1 e3 HB HL HX hd z0 z1
 (with_reducible refine (KU.out _ T1.out).mono ?_); rintro e w3 ⟨E, rfl, u3⟩
 obtain ⟨f0, f1, f2, f3, f4, f5, f6, f7⟩ := CE'.out _ u3.out.tn
 go_wp2_with (first
  | (go_at_call 18; go_loud ((with_reducible refine (KV.out _ u3.out.tn).mono ?_); clear f0 f1 f2 f3 f4 f5 f6 f7; rintro e w4 ⟨rfl, b4⟩; have u4 := Aside0.mk (u3.out.more b4); clear b4; obtain ⟨f0, f1, f2, f3, f4, f5, f6, f7⟩ := CE'.out _ u4.out.tn)))
 clear u3
 go_region_held3 (fun W' => W'.cell? ⟨w.heap.size, 0, none⟩ = some (.slice A0 l0.length c0) ∧ W'.cell? ⟨w.heap.size, 1, none⟩ = some (.slice A1 l1.length c1) ∧ W'.cell? ⟨w.heap.size, 2, none⟩ = some (.int .i64 a2) ∧ W'.cell? ⟨w.heap.size, 3, none⟩ = some (.slice A3 R.length c3) ∧ W'.cell? ⟨w2.heap.size, 0, none⟩ = some (.slice B0 l0.length d0) ∧ W'.cell? ⟨w2.heap.size, 1, none⟩ = some (.slice B1 l1.length d1) ∧ W'.cell? ⟨w2.heap.size, 2, none⟩ = some (.int .i64 a2) ∧ W'.cell? ⟨w2.heap.size, 3, none⟩ = some (.slice B3 R.length d3))
  (go_keep)
  ((first
   | (go_at_call 14; (with_reducible refine (KD.out _ _ ?_).mono ?_); exact (by first | exact u4.out | exact u4.out.more (Below.refl _ _).drew | exact u4.out.more (pw_below_drewN (Below.refl _ _) _)); rintro e w5 ⟨rfl, t5, g0, g1, g2, g3, g4, g5, g6, g7⟩)
   | (go_at_call 19; (with_reducible refine (KS.out _ ?_).mono ?_); exact (by first | exact t5.out | exact t5.out.more (Below.refl _ _).drew | exact t5.out.more (pw_below_drewN (Below.refl _ _) _)); rintro e w6 ⟨rfl, t6, g0, g1, g2, g3, g4, g5, g6, g7⟩)
   | (go_at_call 20; (with_reducible refine (KT.out _ ?_).mono ?_); exact (by first | exact t6.out | exact t6.out.more (Below.refl _ _).drew | exact t6.out.more (pw_below_drewN (Below.refl _ _) _)); rintro e w7 ⟨rfl, t7, g0, g1, g2, g3, g4, g5, g6, g7⟩)))
 clear f0 f1 f2 f3 f4 f5 f6 f7
 go_wp2_with fail
 go_region_held3 (fun W' => W'.cell? ⟨w.heap.size, 0, none⟩ = some (.slice A0 l0.length c0) ∧ W'.cell? ⟨w.heap.size, 1, none⟩ = some (.slice A1 l1.length c1) ∧ W'.cell? ⟨w.heap.size, 2, none⟩ = some (.int .i64 a2) ∧ W'.cell? ⟨w.heap.size, 3, none⟩ = some (.slice A3 R.length c3) ∧ W'.cell? ⟨w2.heap.size, 0, none⟩ = some (.slice B0 l0.length d0) ∧ W'.cell? ⟨w2.heap.size, 1, none⟩ = some (.slice B1 l1.length d1) ∧ W'.cell? ⟨w2.heap.size, 2, none⟩ = some (.int .i64 a2) ∧ W'.cell? ⟨w2.heap.size, 3, none⟩ = some (.slice B3 R.length d3))
  (go_keep)
  ((first
   | (go_at_call 21; (with_reducible refine (KY.out _ ?_).mono ?_); exact (by first | exact t7.out | exact t7.out.more (Below.refl _ _).drew | exact t7.out.more (pw_below_drewN (Below.refl _ _) _)); rintro e w8 ⟨rfl, t8, h0, h1, h2, h3, h4, h5, h6, h7⟩)
   | (go_at_call 22; (with_reducible refine (KZ.out _ ?_).mono ?_); exact (by first | exact t8.out | exact t8.out.more (Below.refl _ _).drew | exact t8.out.more (pw_below_drewN (Below.refl _ _) _)); rintro e w9 ⟨rfl, t9, h0, h1, h2, h3, h4, h5, h6, h7⟩)
   | (go_at_call 15; (with_reducible refine (KK.out _ ?_).mono ?_); exact (by first | exact t9.out | exact t9.out.more (Below.refl _ _).drew | exact t9.out.more (pw_below_drewN (Below.refl _ _) _)); rintro e y1 ⟨rfl, t10, h0, h1, h2, h3, h4, h5, h6, h7⟩)
   | (go_at_call 16; (with_reducible refine (KJ.out _ ?_).mono ?_); exact (by first | exact t10.out | exact t10.out.more (Below.refl _ _).drew | exact t10.out.more (pw_below_drewN (Below.refl _ _) _)); rintro e y2 ⟨rfl, t11, h0, h1, h2, h3, h4, h5, h6, h7⟩)))
 go_wp2_with fail
 go_ret
 exact ⟨rfl, by first | exact t11.out.low | exact (t11.out.more (pw_below_drewN (Below.refl _ _) _)).low⟩
theorem ShowParts_upto (ad : Int → Addr) (A0 : Option Addr) (c0 : Nat) (l0 : List ByteArray) (A1 : Option Addr) (c1 : Nat) (l1 : List ByteArray) (a2 : Int) (A3 : Option Addr) (c3 : Nat) (R : List S52) (n s : Int) (A : Option Addr) (c : Nat) (l : List Int) (w : World) (hs : SentsK ad w) (hr0 : Kd.C Kd.string w A0 l0.length l0) (hc0 : l0.length ≤ c0) (hr1 : Kd.C Kd.string w A1 l1.length l1) (hc1 : l1.length ≤ c1) (hr3 : Kd.C k52 w A3 R.length R) (hc3 : R.length ≤ c3) (hr : Kd.C (Kd.int .i64) w A l.length l) (hc : l.length ≤ c)
 (u : l0.length ≤ 1048576 ∧ l1.length ≤ 1048576 ∧ R.length ≤ 1048576 ∧ (∀ a ∈ R, a.f1.length ≤ 1048576) ∧ (∀ a ∈ l0, a.size ≤ 1048576) ∧ ∀ a ∈ l1, a.size ≤ 1048576) (n0 : (Lit.int .i64 n).wf = true) (s0 : (Lit.int .i64 s).wf = true) (ul : l.length ≤ 1048576 ∧ ∀ a ∈ l, (Lit.int .i64 a).wf = true) :
 Calls Tryd.prog 4 #[.agg #[.slice A0 l0.length c0, .slice A1 l1.length c1, .int .i64 a2, .slice A3 R.length c3], .int .i64 n, .int .i64 s, .slice A l.length c] w fun e w' => e = .returned (.bool true) ∧ Below w.heap.size w w' := by
 obtain ⟨b0, b1, b3, bx, z0, z1⟩ := u
 have hb : (4 * 1048576 + 5) * l.length ≤ (4 * 1048576 + 5) * 1048576 := Nat.mul_le_mul_left _ ul.1
 have h1 := OG.bounds_i s0
 exact ShowParts_calls ad A0 c0 l0 A1 c1 l1 a2 A3 c3 R n s A c l 1048576 w hs hr0 hc0 hr1 hc1 hr3 hc3 hr hc (by omega) (by omega) (by omega) (fun x hx => by have := bx x hx; omega) (by omega) (by decide) z0 z1 (by omega) h1.1 h1.2 (fun s hs => OG.bounds_i (ul.2 s hs))
end Go.Proofs.YthjhaogfpdkhbaaDoor.Sh
namespace Go.Proofs.YthjhaogfpdkhbaaDoor.showParts
open Go.ChangeShapes Go.WideShapes Go.ChangeAt Go.RowKit YthjhaogfpdkhbaaDoorW.PrintWords H B

theorem own : ownKnob Tryd.prog.godebug = none := by kernel_rfl
theorem laidOut : laidOutB Tryd.prog = true := by kernel_rfl

set_option maxRecDepth 100000 in
theorem contract (H : Type) (enc : TypeId × Value → H) (W : World) (base : Nat) (args : Array Value) (ds gs : List (DataW H)) (before : List MemPlace)
 (hval : ∀ (j : Nat) t v, Tryd.f4.params[j]? = some t → args[j]? = some v → Value.okWide Tryd.prog W .any base t v)
 (ad : Int → Addr) (hs : SentsK ad W)
 (hz : (DataW.weightsEach Tryd.prog (Tryd.f4.params.toList ++ (Rows.OpenSpec.upto Rows.showPartsSpec).bare.plain.varTypes Tryd.prog) (ds ++ gs)).all (· ≤ reachBytes) = true)
 (hW : DataW.Whole enc Tryd.prog Tryd.f4.params.toList Rows.showPartsSpec.vars false W args.toList ds gs before) (hk : Rows.uptoSmall H (ds ++ gs) = true) :
 Calls Tryd.prog 4 args W fun e W' => ∃ v, e = .returned v ∧ Rows.showPartsSpec.post enc Tryd.prog Tryd.f4 false true false false W args v W' := by
 have hW' := hW
 obtain ⟨p, q, hA0, hV, rfl, hfz, hnd⟩ := hW
 have hA : DataW.TrodAll enc Tryd.prog W 0 (fun _ => true) true Tryd.f4.params.toList args.toList ds p := hA0
 rw [Tryd.params4] at hA hval
 obtain ⟨v0, vs0, d0, ds0, p0, q0, hargs, rfl, rfl, h0, r0⟩ := trodAll_cons hA
 obtain ⟨v1, vs1, d1, ds1, p1, q1, rfl, rfl, rfl, h1, r1⟩ := trodAll_cons r0
 obtain ⟨v2, vs2, d2, ds2, p2, q2, rfl, rfl, rfl, h2, r2⟩ := trodAll_cons r1
 obtain ⟨v3, vs3, d3, ds3, p3, q3, rfl, rfl, rfl, h3, r3⟩ := trodAll_cons r2
 obtain ⟨rfl, rfl, rfl⟩ := trodAll_nil r3
 obtain rfl : args = #[v0, v1, v2, v3] := by cases args; simp_all
 obtain ⟨rfl, rfl⟩ := trodVars_none hV
 have hb : Rows.uptoBulkAll ([d0, d1, d2, d3] ++ []) ≤ 1048576 := of_decide_eq_true hk
 simp only [List.append_nil, Rows.uptoBulkAll] at hb
 obtain ⟨g0, A00, c00, A01, c01, A03, c03, rfl, l00, k00, l01, k01, l03, k03, u0⟩ := OG.open_gu (hval 0 25 v0 rfl rfl) h0 (by omega)
 have e1 := h1
 obtain ⟨n1, rfl, rfl, rfl, w1⟩ := open_int Tryd.underlying3 (hval 1 3 v1 rfl rfl) e1
 have e2 := h2
 obtain ⟨n2, rfl, rfl, rfl, w2⟩ := open_int Tryd.underlying3 (hval 2 3 v2 rfl rfl) e2
 obtain ⟨x3, A3, c3, rfl, l3, k3, u3⟩ := OG.open_ints_u (hval 3 26 v3 rfl rfl) h3 (by omega)
 refine (Sh.ShowParts_upto ad A00 c00 g0.f0 A01 c01 g0.f1 g0.f2 A03 c03 g0.f3 n1 n2 A3 c3 x3 W hs k00 l00 k01 l01 k03 l03 k3 l3 u0 w1 w2 u3).mono fun e W' ⟨he, bel⟩ => ?_
 subst he
 simp only [List.append_nil] at hW'
 exact ⟨_, rfl, _, _, _, [], _, [], hW', trodAll_mk1 (shut_bool Tryd.underlying4 _), (trodAll_cons_mk (Below.trod laidOut (by kernel_rfl) (of_decide_eq_true (by kernel_rfl)) h0 bel (trod_below h0)) (trodAll_cons_mk (Below.trod laidOut (by kernel_rfl) (of_decide_eq_true (by kernel_rfl)) h1 bel (trod_below h1)) (trodAll_cons_mk (Below.trod laidOut (by kernel_rfl) (of_decide_eq_true (by kernel_rfl)) h2 bel (trod_below h2)) (trodAll_cons_mk (Below.trod laidOut (by kernel_rfl) (of_decide_eq_true (by kernel_rfl)) h3 bel (trod_below h3)) trodAll_mk0)))), rfl, bel.frame _, fun h => by cases h⟩

theorem laid_met (os : Os) (args : Array Value) : laidMetH Tryd.prog Rows.showPartsUptoRow.laid ((laidWorld16 os).forCall (fun _ _ => 0) ⟨#[], args, []⟩).memory := L15.laid_met os args
theorem sents {W : World} (h : laidMetH Tryd.prog Rows.showPartsUptoRow.laid W) : ∃ ad, SentsK ad W := L15.sents h
theorem reads (os : Os) {H : Type} (enc : TypeId × Value → H) : ∃ places, DataW.whole enc Tryd.prog ((laidWorld16 os).forCall (fun _ _ => 0) ⟨#[], #[Value.agg #[.slice none 0 0, .slice none 0 0, .int .i64 0, .slice none 0 0], Value.int .i64 0, Value.int .i64 0, Value.slice none 0 0], []⟩).memory Tryd.f4.params.toList Rows.showPartsSpec.vars false (#[Value.agg #[.slice none 0 0, .slice none 0 0, .int .i64 0, .slice none 0 0], Value.int .i64 0, Value.int .i64 0, Value.slice none 0 0] : Array Value).toList 8 = some ([.agg [.nil, .nil, .lit (.int .i64 0), .nil], .lit (.int .i64 0), .lit (.int .i64 0), .nil], [], places) :=
 ⟨[], by kernel_rfl⟩

set_option maxRecDepth 100000 in
theorem lifted (os : Os) (started : os.Started) (H : Type) (enc : TypeId × Value → H) (F : Stop.Interp) :
 ReturnsInHanded {} Tryd.checked os 4 .any ((Rows.OpenSpec.upto Rows.showPartsSpec).preRow enc Tryd.prog Tryd.f4 Rows.showPartsUptoRow.domain false Rows.showPartsUptoRow.laid) (((Rows.OpenSpec.upto Rows.showPartsSpec).at F).post enc Tryd.prog Tryd.f4 false true false false) := by
 obtain ⟨places, hx⟩ := reads os enc
 refine returnsInHanded_of_row (C := Tryd.checked) (s := Rows.OpenSpec.upto Rows.showPartsSpec) own started (by kernel_rfl) Tryd.func4
  (witness_row_atRef (enc := enc) (C := Tryd.checked) false (laidWorld16 os) #[Value.agg #[.slice none 0 0, .slice none 0 0, .int .i64 0, .slice none 0 0], Value.int .i64 0, Value.int .i64 0, Value.slice none 0 0] rfl (by kernel_rfl) (by kernel_rfl) (by kernel_rfl)
   (OpenSpec.preRow_of_cond 8 hx (by kernel_rfl) (fun k hk => by cases hk; kernel_rfl) (by kernel_rfl) (laid_met os _))) ?_
 intro W base args ds gs before hval hW _ hcond hz hL _ _
 obtain ⟨ad, hs⟩ := sents hL
 exact contract H enc W base args ds gs before hval ad hs hz hW (hcond _ rfl)

theorem said : Rows.ShowPartsUptoSaid :=
 OpenClaim.holds_of_cond 4 Tryd.f4 rfl rfl rfl rfl rfl rfl rfl ⟨rfl, rfl, rfl, rfl, rfl⟩ rfl rfl rfl rfl rfl (by kernel_rfl) Tryd.func4 (by kernel_rfl)
  (of_decide_eq_true (by kernel_rfl)) (by unfold Func.isWrapper; first | (rw [if_pos (by decide +kernel)]; kernel_rfl) | (rw [if_neg (by decide +kernel)]; exact ⟨rfl, rfl⟩))
  (fun os started H enc _ F => by rw [OpenClaim.pre_eq_preRow]; exact lifted os started H enc F)

theorem plain (f : FuncId) (fn : Func) (hf : Tryd.pinned.checked.prog.funcNamed "dovetail/dovetaillaw05.ShowParts" = some f) (hfn : Tryd.pinned.checked.prog.funcs[f]? = some fn) :
 true = Tryd.pinned.checked.prog.looks [] ∧ ∀ (j : Nat) t, fn.params[j]? = some t → Tryd.pinned.checked.prog.wantsStandIn t = false := by
 obtain rfl : f = 4 := Option.some.inj ((show Tryd.prog.funcNamed "dovetail/dovetaillaw05.ShowParts" = some 4 by kernel_rfl).symm.trans hf) |>.symm
 obtain rfl : fn = Tryd.f4 := (Option.some.inj (Tryd.func4.symm.trans hfn)).symm
 refine ⟨by kernel_rfl, fun j t ht => ?_⟩
 rw [Tryd.params4] at ht
 have hm : t = 25 ∨ t = 3 ∨ t = 3 ∨ t = 26 := by simpa using Array.mem_of_getElem? ht
 rcases hm with rfl | rfl | rfl | rfl
 · exact (show Tryd.prog.wantsStandIn 25 = false by kernel_rfl)
 · exact (show Tryd.prog.wantsStandIn 3 = false by kernel_rfl)
 · exact (show Tryd.prog.wantsStandIn 3 = false by kernel_rfl)
 · exact (show Tryd.prog.wantsStandIn 26 = false by kernel_rfl)

theorem proved : Rows.ShowPartsUptoCardSaid :=
 Claim7.holds_tied_plain_at .later [] _ _ _ _ said (fun _ h => by cases h) (by kernel_rfl) (fun _ h => by cases h) showPartsUpto_row_tie rfl ⟨rfl, rfl⟩ (by kernel_rfl) rfl plain (by kernel_rfl)
#print axioms proved
end Go.Proofs.YthjhaogfpdkhbaaDoor.showParts
