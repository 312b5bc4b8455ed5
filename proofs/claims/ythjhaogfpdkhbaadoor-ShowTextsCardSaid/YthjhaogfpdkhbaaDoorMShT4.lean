/-
 dovetaillaw05.ShowTexts: whatever is handed in, the call answers true, and each argument reads as it did.
 Conditions: those of the given statement ShowTextsCardSaid alone.
-/
import Derived.Test.YthjhaogfpdkhbaaDoorMShT2
import Derived.StillTailTactics
import Derived.Deep.RegionHeld3
import Derived.Test.YthjhaogfpdkhbaaDoorMShT3
import Derived.BigQuiet
import Derived.Test.YthjhaogfpdkhbaaDoorCards
import Derived.Test.YthjhaogfpdkhbaaDoorTie
import Derived.LaidLaws
import Derived.LaidHandle
import Derived.Lib.LaidTab
import Derived.Lib.LaidIn
import Derived.SevenTiedAt
import Derived.WideShapes
import Derived.JoinedCond
import Derived.ChangeMaps5
import Derived.SizedLaws
import Derived.Deep.DeepHandedRow
import Derived.Deep.DeepWitnessRowRef
/- kit.Ints, kit.Strings: are two the same? (taken from GramSm and GramKi, for seats without rules' ties) -/
set_option linter.unusedVariables false
namespace Go.Proofs.YthjhaogfpdkhbaaDoor.B
open Go.RowKit YthjhaogfpdkhbaaDoorW.PrintWords YthjhaogfpdkhbaaDoorW.PrintLast YthjhaogfpdkhbaaDoorW.PrintMore

theorem wrap_succ (i : Nat) (h : i < 9223372036854775807) : wrap64 ((i : Int) + 1) = ((i + 1 : Nat) : Int) := by unfold wrap64; omega
theorem toList_eq (a b : ByteArray) : a.toList = b.toList ↔ a = b := by
 constructor
 · intro h
   rw [ByteArray.toList_eq, ByteArray.toList_eq] at h
   have := Array.ext' h
   cases a; cases b; simp_all
 · rintro rfl; rfl

theorem rd_nat (l : List Int) (i : Nat) (h : i < l.length) : rd l (i : Int) = l[i] := by simp [rd, List.getD_eq_getElem?_getD, List.getElem?_eq_getElem h]
theorem rdS_nat (l : List ByteArray) (i : Nat) (h : i < l.length) : rdOf ByteArray.empty l (i : Int) = l[i] := by simp [rdOf, List.getD_eq_getElem?_getD, List.getElem?_eq_getElem h]
theorem KInts_l (l0 l1 : List Int) (hl : l0.length = l1.length) (hm : l0.length ≤ 9223372036854775807) : ∀ (d i k : Nat), l0.length - i = d → i ≤ l0.length → d < k → dovetailkit_Ints.l0 k l0 l1 (i : Int) = some (decide (l0.drop i = l1.drop i)) := by
 intro d
 induction d with
 | zero =>
  intro i k hi hle hk
  obtain ⟨k, rfl⟩ : ∃ j, k = j + 1 := ⟨k - 1, by omega⟩
  have : i = l0.length := by omega
  subst this
  rw [dovetailkit_Ints.l0, if_neg (by omega), List.drop_length, hl, List.drop_length]
  simp
 | succ d ih =>
  intro i k hi hle hk
  obtain ⟨k, rfl⟩ : ∃ j, k = j + 1 := ⟨k - 1, by omega⟩
  have hlt : i < l0.length := by omega
  have hlt1 : i < l1.length := by omega
  rw [dovetailkit_Ints.l0, if_pos (by omega), if_pos (by omega), if_pos (by omega), List.drop_eq_getElem_cons hlt, List.drop_eq_getElem_cons hlt1, rd_nat l0 i hlt, rd_nat l1 i hlt1]
  by_cases he : l0[i] = l1[i]
  · rw [if_pos he, wrap_succ i (by omega), ih (i + 1) k (by omega) (by omega) (by omega)]
    rw [he]; congr 1; rw [decide_eq_decide]; simp only [List.cons.injEq, true_and]
  · rw [if_neg he]; congr 1; symm; rw [decide_eq_false_iff_not]; intro h; exact he (List.cons.inj h).1
theorem KInts_f (l0 l1 : List Int) (k : Nat) (hm : l0.length ≤ 9223372036854775807) (hk : l0.length < k) : dovetailkit_Ints.f k l0 l1 = some (decide (l0 = l1)) := by
 unfold dovetailkit_Ints.f
 by_cases h : l0.length = l1.length
 · rw [if_pos (by omega)]
   have := KInts_l l0 l1 h hm l0.length 0 k (by omega) (by omega) hk
   simpa using this
 · rw [if_neg (by omega)]
   have : l0 ≠ l1 := fun e => h (by rw [e])
   simp [this]
theorem KStrings_l (l0 l1 : List ByteArray) (hl : l0.length = l1.length) (hm : l0.length ≤ 9223372036854775807) : ∀ (d i k : Nat), l0.length - i = d → i ≤ l0.length → d < k → dovetailkit_Strings.l0 k l0 l1 (i : Int) = some (decide (l0.drop i = l1.drop i)) := by
 intro d
 induction d with
 | zero =>
  intro i k hi hle hk
  obtain ⟨k, rfl⟩ : ∃ j, k = j + 1 := ⟨k - 1, by omega⟩
  have : i = l0.length := by omega
  subst this
  rw [dovetailkit_Strings.l0, if_neg (by omega), List.drop_length, hl, List.drop_length]
  simp
 | succ d ih =>
  intro i k hi hle hk
  obtain ⟨k, rfl⟩ : ∃ j, k = j + 1 := ⟨k - 1, by omega⟩
  have hlt : i < l0.length := by omega
  have hlt1 : i < l1.length := by omega
  rw [dovetailkit_Strings.l0, if_pos (by omega), if_pos (by omega), if_pos (by omega), List.drop_eq_getElem_cons hlt, List.drop_eq_getElem_cons hlt1, rdS_nat l0 i hlt, rdS_nat l1 i hlt1]
  by_cases he : l0[i] = l1[i]
  · rw [if_pos ((toList_eq _ _).2 he), wrap_succ i (by omega), ih (i + 1) k (by omega) (by omega) (by omega)]
    rw [he]; congr 1; rw [decide_eq_decide]; simp only [List.cons.injEq, true_and]
  · rw [if_neg (fun h => he ((toList_eq _ _).1 h))]; congr 1; symm; rw [decide_eq_false_iff_not]; intro h; exact he (List.cons.inj h).1
theorem KStrings_f (l0 l1 : List ByteArray) (k : Nat) (hm : l0.length ≤ 9223372036854775807) (hk : l0.length < k) : dovetailkit_Strings.f k l0 l1 = some (decide (l0 = l1)) := by
 unfold dovetailkit_Strings.f
 by_cases h : l0.length = l1.length
 · rw [if_pos (by omega)]
   have := KStrings_l l0 l1 h hm l0.length 0 k (by omega) (by omega) hk
   simpa using this
 · rw [if_neg (by omega)]
   have : l0 ≠ l1 := fun e => h (by rw [e])
   simp [this]
end Go.Proofs.YthjhaogfpdkhbaaDoor.B
/- What Lent and Kept stand on, in this seat. -/

/- kit.Lent..: lists in memory of their own, a mark behind each. -/
set_option linter.unusedSimpArgs false
namespace Go.Proofs.YthjhaogfpdkhbaaDoor.B
open Go.RowKit YthjhaogfpdkhbaaDoorW.PrintWords YthjhaogfpdkhbaaDoorW.PrintLast YthjhaogfpdkhbaaDoorW.PrintMore

def kmx : Kd (List Int × Bool) where
 sz := 1
 E := [3]
 K := fun w x cs => ∃ A c, cs = [.slice A x.1.length c] ∧ match x.2 with
  | true => x.1.length + 1 ≤ c ∧ Kd.C (Kd.int .i64) w A (x.1.length + 1) (x.1 ++ [-7171])
  | false => x.1.length ≤ c ∧ Kd.C (Kd.int .i64) w A x.1.length x.1
 M := fun w base ok x cs => ∃ A c, cs = [.slice A x.1.length c] ∧ match x.2 with
  | true => Kd.R (Kd.int .i64) 3 w base ok (.slice A (x.1.length + 1) c) (x.1 ++ [-7171])
  | false => Kd.R (Kd.int .i64) 3 w base ok (.slice A x.1.length c) x.1
 K_len := by
  rintro w x cs ⟨A, c, rfl, _⟩
  rfl
 K_one := by
  rintro w x cs ⟨A, c, rfl, _⟩ u hu
  rw [List.mem_singleton.1 hu]
  rfl
 K_below := by
  rintro w w1 ⟨xs, b⟩ cs hb ⟨A, c, rfl, h⟩
  cases b
  · exact ⟨A, c, rfl, h.1, Kd.C_below h.2 hb⟩
  · exact ⟨A, c, rfl, h.1, Kd.C_below h.2 hb⟩
 K_of_M := by
  rintro w base ok ⟨xs, b⟩ cs ⟨A, c, rfl, h⟩
  cases b
  · exact ⟨A, c, rfl, (Kd.R_reads' h).2⟩
  · have := Kd.R_reads' h
    rw [List.length_append, List.length_singleton] at this
    exact ⟨A, c, rfl, this.2⟩
 M_mono := by
  rintro w base ok ok' ⟨xs, b⟩ cs hok ⟨A, c, rfl, h⟩
  cases b
  · exact ⟨A, c, rfl, Kd.R_mono h hok⟩
  · exact ⟨A, c, rfl, Kd.R_mono h hok⟩
 M_bound := by
  rintro w base ok ⟨xs, b⟩ cs ⟨A, c, rfl, h⟩
  cases b
  · exact ⟨A, c, rfl, Kd.R_bound h⟩
  · exact ⟨A, c, rfl, Kd.R_bound h⟩
 M_move := by
  rintro w w1 base ok ⟨xs, b⟩ cs hm ⟨A, c, rfl, h⟩
  cases b
  · exact ⟨A, c, rfl, Kd.R_move h hm⟩
  · exact ⟨A, c, rfl, Kd.R_move h hm⟩
 M_lower := by
  rintro w base base' ok ⟨xs, b⟩ cs hb ⟨A, c, rfl, h⟩
  cases b
  · exact ⟨A, c, rfl, Kd.R_lower h hb⟩
  · exact ⟨A, c, rfl, Kd.R_lower h hb⟩
def kRx : Kd (S52 × Bool) := Kd.iso (Kd.pair (Kd.int .i64) kmx) (fun x => (x.1.f0, (x.1.f1, x.2)))
theorem C_pre {α : Type} {d : Kd α} {w : World} {A : Option Addr} {xs ys : List α} {n : Nat} (h : d.C w A n (xs ++ ys)) : d.C w A xs.length xs := by
 refine ⟨rfl, by have := h.1; have := h.2.1; rw [List.length_append] at *; omega, fun hp => ?_⟩
 obtain ⟨ad, e, hc⟩ := h.2.2 (by have := h.1; rw [List.length_append] at this; omega)
 refine ⟨ad, e, fun j p hj => hc j p ?_⟩
 have hlt := (List.getElem?_eq_some_iff.1 hj).1
 rw [List.getElem?_append_left hlt]; exact hj
theorem C_imp {α β : Type} {d : Kd α} {d' : Kd β} {w : World} {A : Option Addr} {n : Nat} {xs : List α} (f : α → β) (h : d.C w A n xs) (hs : d.sz = d'.sz) (hK : ∀ x c, x ∈ xs → d.K w x c → d'.K w (f x) c) : d'.C w A n (xs.map f) := by
 refine ⟨by rw [List.length_map]; exact h.1, h.2.1, fun hp => ?_⟩
 obtain ⟨ad, e, hc⟩ := h.2.2 hp
 refine ⟨ad, e, fun j p hj => ?_⟩
 rw [List.getElem?_map] at hj
 obtain ⟨x, hx, rfl⟩ := Option.map_eq_some_iff.1 hj
 obtain ⟨c, h1, h2, h3⟩ := hc j x hx
 exact ⟨c, by rw [← hs]; exact h1, hK x c (List.mem_of_getElem? hx) h2, by rw [← hs]; exact h3⟩
def mk1 (l : List S52) : List (S52 × Bool) := l.map fun x => (x, true)
theorem mk1_length (l : List S52) : (mk1 l).length = l.length := by simp [mk1]
def MR (w : World) (A : Option Addr) (c : Nat) (l : List S52) : Prop := l.length + 1 ≤ c ∧ Kd.C kRx w A (l.length + 1) (mk1 l ++ [(⟨-7171, []⟩, false)])
theorem MR.below {w w' : World} {A : Option Addr} {c : Nat} {l : List S52} (h : MR w A c l) (hb : Below w.heap.size w w') : MR w' A c l := ⟨h.1, Kd.C_below h.2 hb⟩
theorem MR.of {w : World} {base : Nat} {ok : Nat → Prop} {A : Option Addr} {c : Nat} {l : List S52} (h : Kd.R kRx 52 w base ok (.slice A (l.length + 1) c) (mk1 l ++ [((⟨-7171, []⟩ : S52), false)])) : MR w A c l := by
 have h1 := Kd.R_reads' h
 refine ⟨h1.2.1, ?_⟩
 rw [h1.1]; exact h1.2.2
theorem kRx_K {w : World} {x : S52} {cs : List Value} (h : kRx.K w (x, true) cs) : k52.K w x cs := by
 obtain ⟨a, b, rfl, h1, A, c, rfl, h2, h3⟩ := h
 dsimp only at h2 h3
 exact ⟨a, _, rfl, h1, A, c, rfl, by dsimp only; omega, C_pre h3⟩
theorem MR.reads {w : World} {A : Option Addr} {c : Nat} {l : List S52} (h : MR w A c l) : Kd.C k52 w A l.length l := by
 have h1 := C_pre h.2
 rw [mk1_length] at h1
 have h2 := C_imp (d := kRx) (d' := k52) (fun x => x.1) h1 rfl (fun x c hx hk => by
  obtain ⟨y, _, rfl⟩ := List.mem_map.1 hx
  exact kRx_K hk)
 have : (mk1 l).map (fun x => x.1) = l := List.ext_getElem (by simp [mk1]) (fun i h1 h2 => by simp [mk1])
 rwa [this] at h2

set_option maxHeartbeats 4000000 in
set_option maxRecDepth 100000 in
theorem LentInts_m (A0 : Option Addr) (c0 : Nat) (l : List Int) (w : World) (hr : Kd.C (Kd.int .i64) w A0 l.length l) (hl : l.length < 17592186044415) :
 Calls Tryd.prog 11 #[.slice A0 l.length c0] w fun e w' => ∃ A c, e = .returned (.slice A l.length c) ∧ Aside0 (Kd.R (Kd.int .i64) 3 w' w.heap.size (fun _ => True) (.slice A (l.length + 1) c) (l ++ [(-7171)]) ∧ Below w.heap.size w w') := by
 obtain ⟨y1, hy1⟩ : ∃ y_ : List Int, y_ = ([] : List Int) ++ l := ⟨_, rfl⟩
 obtain ⟨y2, hy2⟩ : ∃ y_ : List Int, y_ = y1 ++ [(-7171)] := ⟨_, rfl⟩
 have q8 : y1.length < 17592186044415 := by rw [hy1]; simpa using hl
 have q9 : ((l.length : Int)) ≤ ((y2.length : Int)) := by rw [hy2, hy1]; simp; omega
 have q7 : ([] : List Int).length + l.length < 17592186044415 := by simpa using hl
 have hy3 : y2.length = l.length + 1 := by rw [hy2, hy1]; simp
 have hy4 : y2 = l ++ [(-7171)] := by rw [hy2, hy1]; simp
 have HR0 := Aside0.mk hr
 have HB := Aside0.mk (Below.refl w.heap.size w)
 have N1 := Aside0.mk hy1
 have N2 := Aside0.mk hy2
 have N3 := Aside0.mk hy3
 have N4 := Aside0.mk hy4
 have Q7 := Aside0.mk q7
 have Q8 := Aside0.mk q8
 have Q9 := Aside0.mk q9
 clear hr hy1 hy2 hy3 hy4 q7 q8 q9 hl
 go_enter Tryd.func11, Tryd.ntmps11
 go_wp2_with (first
  | ((with_reducible refine gate_builtin (b := .append) (xs := #[.tmp 4, .tmp 5]) rfl ?_); at_builtin; refine Kd.R_append_rows (Kd.int .i64) (w0 := w) w.heap.size rfl (.tmp 4) (.tmp 5) 26 3 (.int .i64 0) 8 rfl Tryd.underlying26 info3 rfl (by decide) (by omega) (.slice none 0 0) ([] : List Int) l _ _ _ (fun _ => True) (fun _ => False) rfl rfl ?aO ?aR (fun _ _ h => h) (fun _ h => h.elim) ?aF ?aB ?aS ?aL ?_; (case aR => exact HR0.out); (case aB => exact HB.out); (case aF => exact (fun _ _ => trivial)); (case aO => exact ((Kd.R_nil _ _ _ _ (fun _ => True)))); (case aS => exact Nat.le_refl _); (case aL => have := Q7.out; omega); intro v1 w1 ho hb hg hat; rw [← N1.out] at ho; have n0_ := Aside0.mk hb; have n1_ := Aside0.mk ho; clear HB; have HB := n0_; have HO1 := n1_; clear n0_ n1_ ho hb hg hat)
  | ((with_reducible refine gate_builtin (b := .append) (xs := #[.tmp 7, .tmp 8]) rfl ?_); at_builtin; refine Kd.R_append (Kd.int .i64) (w0 := w) w.heap.size rfl (.tmp 7) (.tmp 8) 26 3 (.int .i64 0) 8 rfl Tryd.underlying26 info3 rfl (by decide) (by omega) v1 y1 (-7171) [.int .i64 (-7171)] (fun _ => True) (fun _ => False) rfl rfl ?aP (fun _ hk => hk.elim) ?aF ?aO ?aB ?aS ?aL ?_; (case aP => exact rfl); (case aB => exact HB.out); (case aF => exact (fun _ _ => trivial)); (case aO => exact HO1.out); (case aS => exact (below_size HB.out)); (case aL => have := Q8.out; omega); intro v2 w2 ho hb hg hat; rw [← N2.out] at ho; have n0_ := Aside0.mk hb; have n1_ := Aside0.mk ho; clear HB HO1; have HB := n0_; have HO2 := n1_; clear n0_ n1_ ho hb hg hat; obtain ⟨Ao, co, eo⟩ := Kd.R_slice HO2.out; subst eo; obtain ⟨i0, hi0, _, hsz0, _⟩ := info_parts info3; have hcut := cut_to (P := Tryd.prog) 26 3 .i64 Tryd.underlying26 hi0 Ao y2.length co (l.length : Int) (by omega) Q9.out (Kd.R_reads' HO2.out).2.1; clear hi0 hsz0))
 go_ret
 refine ⟨Ao, co, rfl, ⟨?_, HB.out⟩⟩
 have h := HO2.out
 rw [N3.out] at h
 rw [← N4.out]
 exact h

set_option maxHeartbeats 4000000 in
set_option maxRecDepth 100000 in
theorem LentStrings_m (A0 : Option Addr) (c0 : Nat) (l : List ByteArray) (w : World) (hr : Kd.C Kd.string w A0 l.length l) (hl : l.length < 8796093022207) :
 Calls Tryd.prog 49 #[.slice A0 l.length c0] w fun e w' => ∃ A c, e = .returned (.slice A l.length c) ∧ Aside0 (Kd.R Kd.string 9 w' w.heap.size (fun _ => True) (.slice A (l.length + 1) c) (l ++ [(⟨#[109, 97, 114, 107]⟩ : ByteArray)]) ∧ Below w.heap.size w w') := by
 obtain ⟨y1, hy1⟩ : ∃ y_ : List ByteArray, y_ = ([] : List ByteArray) ++ l := ⟨_, rfl⟩
 obtain ⟨y2, hy2⟩ : ∃ y_ : List ByteArray, y_ = y1 ++ [(⟨#[109, 97, 114, 107]⟩ : ByteArray)] := ⟨_, rfl⟩
 have q8 : y1.length < 8796093022207 := by rw [hy1]; simpa using hl
 have q9 : ((l.length : Int)) ≤ ((y2.length : Int)) := by rw [hy2, hy1]; simp; omega
 have q7 : ([] : List ByteArray).length + l.length < 8796093022207 := by simpa using hl
 have hy3 : y2.length = l.length + 1 := by rw [hy2, hy1]; simp
 have hy4 : y2 = l ++ [(⟨#[109, 97, 114, 107]⟩ : ByteArray)] := by rw [hy2, hy1]; simp
 have HR0 := Aside0.mk hr
 have HB := Aside0.mk (Below.refl w.heap.size w)
 have N1 := Aside0.mk hy1
 have N2 := Aside0.mk hy2
 have N3 := Aside0.mk hy3
 have N4 := Aside0.mk hy4
 have Q7 := Aside0.mk q7
 have Q8 := Aside0.mk q8
 have Q9 := Aside0.mk q9
 clear hr hy1 hy2 hy3 hy4 q7 q8 q9 hl
 go_enter Tryd.func49, Tryd.ntmps49
 go_wp2_with (first
  | ((with_reducible refine gate_builtin (b := .append) (xs := #[.tmp 4, .tmp 5]) rfl ?_); at_builtin; refine Kd.R_append_rows Kd.string (w0 := w) w.heap.size rfl (.tmp 4) (.tmp 5) 22 9 (.string ⟨#[]⟩) 16 rfl Tryd.underlying22 info9 rfl (by decide) (by omega) (.slice none 0 0) ([] : List ByteArray) l _ _ _ (fun _ => True) (fun _ => False) rfl rfl ?aO ?aR (fun _ _ h => h) (fun _ h => h.elim) ?aF ?aB ?aS ?aL ?_; (case aR => exact HR0.out); (case aB => exact HB.out); (case aF => exact (fun _ _ => trivial)); (case aO => exact ((Kd.R_nil _ _ _ _ (fun _ => True)))); (case aS => exact Nat.le_refl _); (case aL => have := Q7.out; omega); intro v1 w1 ho hb hg hat; rw [← N1.out] at ho; have n0_ := Aside0.mk hb; have n1_ := Aside0.mk ho; clear HB; have HB := n0_; have HO1 := n1_; clear n0_ n1_ ho hb hg hat)
  | ((with_reducible refine gate_builtin (b := .append) (xs := #[.tmp 7, .tmp 8]) rfl ?_); at_builtin; refine Kd.R_append Kd.string (w0 := w) w.heap.size rfl (.tmp 7) (.tmp 8) 22 9 (.string ⟨#[]⟩) 16 rfl Tryd.underlying22 info9 rfl (by decide) (by omega) v1 y1 (⟨#[109, 97, 114, 107]⟩ : ByteArray) [.string ⟨#[109, 97, 114, 107]⟩] (fun _ => True) (fun _ => False) rfl rfl ?aP (fun _ hk => hk.elim) ?aF ?aO ?aB ?aS ?aL ?_; (case aP => exact rfl); (case aB => exact HB.out); (case aF => exact (fun _ _ => trivial)); (case aO => exact HO1.out); (case aS => exact (below_size HB.out)); (case aL => have := Q8.out; omega); intro v2 w2 ho hb hg hat; rw [← N2.out] at ho; have n0_ := Aside0.mk hb; have n1_ := Aside0.mk ho; clear HB HO1; have HB := n0_; have HO2 := n1_; clear n0_ n1_ ho hb hg hat; obtain ⟨Ao, co, eo⟩ := Kd.R_slice HO2.out; subst eo; obtain ⟨i0, hi0, _, hsz0, _⟩ := info_parts info9; have hcut := cut_to (P := Tryd.prog) 22 9 .i64 Tryd.underlying22 hi0 Ao y2.length co (l.length : Int) (by omega) Q9.out (Kd.R_reads' HO2.out).2.1; clear hi0 hsz0))
 go_ret
 refine ⟨Ao, co, rfl, ⟨?_, HB.out⟩⟩
 have h := HO2.out
 rw [N3.out] at h
 rw [← N4.out]
 exact h

set_option maxHeartbeats 8000000 in
set_option maxRecDepth 100000 in
theorem LentRules_m (A0 : Option Addr) (c0 : Nat) (l : List S52) (w : World) (hr : Kd.C k52 w A0 l.length l) (hl : l.length < 4398046511104) (hx : ∀ x ∈ l, x.f1.length < 17592186044415) :
 Calls Tryd.prog 50 #[.slice A0 l.length c0] w fun e w' => ∃ A c, e = .returned (.slice A l.length c) ∧ Aside0 (Kd.R kRx 52 w' w.heap.size (fun _ => True) (.slice A (l.length + 1) c) (mk1 l ++ [((⟨-7171, []⟩ : S52), false)]) ∧ Below w.heap.size w w') := by
 have HR0 := Aside0.mk hr
 have HX := Aside0.mk hx
 have HL := Aside0.mk hl
 have hm := C_max hr
 have HU := Aside0.mk (show True from trivial)
 clear hr hx hl
 go_enter Tryd.func50, Tryd.ntmps50
 go_wp2_with fail
 go_loopw [3, 4, 5] (fun v i _ wr => ∃ k : Nat, k ≤ l.length ∧ i = .int .i64 k ∧ Aside0 (Kd.R kRx 52 wr w.heap.size (fun _ => True) v (mk1 (l.take k)) ∧ Below w.heap.size w wr)) (fun _ i _ _ => l.length - (intOf i).toNat)
 case atStart => exact ⟨0, Nat.zero_le _, rfl, ⟨by simpa [mk1] using Kd.R_nil kRx _ w w.heap.size (fun _ => True), Below.refl _ w⟩⟩
 case round =>
  obtain ⟨k, hk, rfl, tr⟩ := hrel
  by_cases hlt : k < l.length
  · obtain ⟨ad, A, c, rfl, h0, h1, h2, h3⟩ := at_T52 (Kd.C_below HR0.out tr.out.2) (k : Int) (by omega) (by omega)
    have q0 : rd_T52 l (k : Int) = l[k] := by simp [rd_T52, List.getD_eq_getElem?_getD, List.getElem?_eq_getElem hlt]
    have hxk := HX.out l[k] (List.getElem_mem hlt)
    have hnx : mk1 (l.take (k + 1)) = mk1 (l.take k) ++ [(l[k], true)] := by rw [mk1, List.take_succ_eq_append_getElem hlt, List.map_append]; rfl
    rw [Int.toNat_natCast] at h0 h1
    rw [q0] at h0 h1 h2 h3
    generalize l[k] = x at h0 h1 h2 h3 hxk hnx
    have hcall : Calls Tryd.prog 11 #[.slice A x.f1.length c] wr fun e w' => ∃ A' c', e = .returned (.slice A' x.f1.length c') ∧ Aside0 (Kd.R (Kd.int .i64) 3 w' w.heap.size (fun k_ => some k_ = (.slice A' (x.f1.length + 1) c' : Value).ownBlock) (.slice A' (x.f1.length + 1) c') (x.f1 ++ [-7171]) ∧ Kd.R kRx 52 w' w.heap.size (fun _ => True) u3 (mk1 (l.take k)) ∧ Below w.heap.size w w') ∧ w'.cell? (ad.add (k * 2)) = some (.int .i64 x.f0) := by
     refine (LentInts_m A c x.f1 wr h3 hxk).mono ?_
     rintro e w' ⟨A', c', rfl, h⟩
     exact ⟨A', c', rfl, ⟨Kd.R_lower (Kd.R_tight rfl h.out.1) (below_size tr.out.2), Kd.R_below tr.out.1 h.out.2, tr.out.2.trans (h.out.2.mono (below_size tr.out.2))⟩, (h.out.2.cell (World.block_lt_of_cell? wr _ h0)).trans h0⟩
    have HC := Aside0.mk hcall
    have HN := Aside0.mk hnx
    clear hcall h2 h3 q0 hxk hnx
    go_wp2_with (first
     | (go_at_call 11; (with_reducible refine HC.out.mono ?_); rintro e w6 ⟨A', c', rfl, t6, e0⟩)
     | ((with_reducible refine gate_builtin (b := .append) (xs := #[.tmp 18, .tmp 26]) rfl ?_); at_builtin; refine Kd.R_append kRx (w0 := w) w.heap.size rfl (.tmp 18) (.tmp 26) 23 52 (.agg #[(.int .i64 0), (.slice none 0 0)]) 32 rfl Tryd.underlying23 info52 rfl (by decide) (by omega) u3 (mk1 (l.take k)) (x, true) [.int .i64 x.f0, .slice A' x.f1.length c'] (fun _ => True) (fun k_ => some k_ = (.slice A' (x.f1.length + 1) c' : Value).ownBlock) rfl rfl ?aP ?aA ?aF ?aO ?aB ?aS ?aL ?_; (case aP => exact ⟨[.int .i64 x.f0], [.slice A' x.f1.length c'], rfl, rfl, A', c', rfl, t6.out.1⟩); (case aA => exact (fun k_ hk_ => ⟨trivial, ((Kd.R_apart' t6.out.1 (Kd.R_typed t6.out.2.1) (by decide)).1 k_ hk_.symm).2⟩)); (case aB => exact t6.out.2.2); (case aF => exact (fun _ _ => trivial)); (case aO => exact t6.out.2.1); (case aS => exact (below_size t6.out.2.2)); (case aL => have := HL.out; simp only [mk1_length, List.length_take]; omega); intro v8 w8 ho hb hg hat; rw [← HN.out] at ho; have n0_ := Aside0.mk hb; have n1_ := Aside0.mk ho; clear ho hb hg hat))
    go_roundw
    case measure => simp [intOf]; omega
    case rel => exact ⟨k + 1, by omega, rfl, ⟨n1_.out, n0_.out⟩⟩
  · have hkn : k = l.length := by omega
    subst hkn
    have h1 : Kd.R kRx 52 wr w.heap.size (fun _ => True) u3 (mk1 l) := by have := tr.out.1; rwa [List.take_length] at this
    obtain ⟨y2, hy2⟩ : ∃ y_, y_ = mk1 l ++ [((⟨-7171, []⟩ : S52), false)] := ⟨_, rfl⟩
    have q9 : ((l.length : Int)) ≤ ((y2.length : Int)) := by rw [hy2]; simp [mk1_length]; omega
    have hy3 : y2.length = l.length + 1 := by rw [hy2]; simp [mk1_length]
    have N2 := Aside0.mk hy2
    have N3 := Aside0.mk hy3
    have Q9 := Aside0.mk q9
    have H1 := Aside0.mk h1
    clear hy2 hy3 q9 h1
    go_wp2_with (first
     | ((with_reducible refine gate_builtin (b := .append) (xs := #[.tmp 28, .tmp 30]) rfl ?_); at_builtin; refine Kd.R_append kRx (w0 := w) w.heap.size rfl (.tmp 28) (.tmp 30) 23 52 (.agg #[(.int .i64 0), (.slice none 0 0)]) 32 rfl Tryd.underlying23 info52 rfl (by decide) (by omega) u3 (mk1 l) ((⟨-7171, []⟩ : S52), false) [.int .i64 (-7171), .slice none 0 0] (fun _ => True) (fun _ => False) rfl rfl ?aP (fun k_ hk_ => hk_.elim) ?aF ?aO ?aB ?aS ?aL ?_; (case aP => exact ⟨[.int .i64 (-7171)], [.slice none 0 0], rfl, rfl, none, 0, rfl, Kd.R_nil _ _ _ _ _⟩); (case aB => exact tr.out.2); (case aF => exact (fun _ _ => trivial)); (case aO => exact H1.out); (case aS => exact (below_size tr.out.2)); (case aL => have := HL.out; simp only [mk1_length]; omega); intro v2 w2 ho hb hg hat; rw [← N2.out] at ho; have n0_ := Aside0.mk hb; have n1_ := Aside0.mk ho; clear ho hb hg hat; obtain ⟨Ao, co, eo⟩ := Kd.R_slice n1_.out; subst eo; obtain ⟨i0, hi0, _, hsz0, _⟩ := info_parts info52; have hcut := cut_to (P := Tryd.prog) 23 52 .i64 Tryd.underlying23 hi0 Ao y2.length co (l.length : Int) (by omega) Q9.out (Kd.R_reads' n1_.out).2.1; clear hi0 hsz0))
    go_ret
    refine ⟨Ao, co, rfl, ⟨?_, n0_.out⟩⟩
    have h := n1_.out
    rw [N3.out] at h
    rw [← N2.out]
    exact h
end Go.Proofs.YthjhaogfpdkhbaaDoor.B
/- kit.Kept..: what was lent is as it was. -/
namespace Go.Proofs.YthjhaogfpdkhbaaDoor.B
open Go.RowKit YthjhaogfpdkhbaaDoorW.PrintWords YthjhaogfpdkhbaaDoorW.PrintLast YthjhaogfpdkhbaaDoorW.PrintMore

theorem cut_cap {P : Program} (t e : TypeId) (kh : IntKind) {i : TypeInfo} (ht : P.underlying t = some (.slice e)) (hi : P.info? e = some i) (A : Option Addr) (n c : Nat) (j : Int) (h0 : 0 ≤ j) (hm : j ≤ c) :
 ∀ W : World, (Instr.slice t (.slice A n c) none (some (.int kh j)) none).run P W = .ok (.slice A j.toNat c) W := by
 intro W
 have hel : P.elem t = e := by simp [Program.elem, ht]
 have hu : P.underlying t = some (.slice (P.elem t)) := by rw [hel]; exact ht
 have ha : (A.map fun x => x.add 0) = A := by cases A <;> simp [Addr.add]
 rw [run_slice_h W t A n c hu kh j h0 hm, hel]
 simp [sizeOf, typeInfo, hi, sliced, Result.andThen, ha]

set_option maxHeartbeats 2000000 in
set_option maxRecDepth 100000 in
theorem KeptInts_yes (A : Option Addr) (c : Nat) (A' : Option Addr) (c' : Nat) (l : List Int) (w : World) (hc : l.length + 1 ≤ c) (hr : Kd.C (Kd.int .i64) w A (l.length + 1) (l ++ [-7171])) (hc' : l.length ≤ c') (hr' : Kd.C (Kd.int .i64) w A' l.length l) :
 Calls Tryd.prog 16 #[.slice A l.length c, .slice A' l.length c'] w fun e w' => e = .returned (.bool true) ∧ Below w.heap.size w w' := by
 have hm := C_max hr'
 have hm1 := C_max hr
 have hm2 : l.length + 1 ≤ 9223372036854775807 := hm1
 have hf := KInts_f l l (l.length + 1) hm (by omega)
 rw [decide_eq_true (rfl : l = l)] at hf
 obtain ⟨ad, rfl, hx⟩ := Kd.at_int hr ((l.length : Nat) : Int) (by omega) (by omega)
 have hmk : w.cell? (ad.add l.length) = some (.int .i64 (-7171)) := by
  rw [Int.toNat_natCast] at hx
  rw [hx]
  simp [rd, List.getD_eq_getElem?_getD]
 have hcall : Calls Tryd.prog 58 #[.slice (some ad) l.length c, .slice A' l.length c'] w fun e w' => e = .returned (.bool true) ∧ Aside0 (Below w.heap.size w w') ∧ w'.cell? (ad.add l.length) = some (.int .i64 (-7171)) := by
  refine (dovetailkit_Ints.calls (l.length + 1) (some ad) c l A' c' l true w (C_pre hr) (by omega) hr' hc' hf).mono ?_
  rintro e w' ⟨he, hb⟩
  have hb' : Below w.heap.size w w' := by first | exact hb | exact hb.below
  exact ⟨he, ⟨hb'⟩, (hb'.cell (World.block_lt_of_cell? w _ hmk)).trans hmk⟩
 obtain ⟨i0, hi0, _, _, _⟩ := info_parts info3
 have hcut : ∀ W : World, (Instr.slice 26 (.slice (some ad) l.length c) none (some (.int .i64 ((l.length : Int) + 1))) none).run Tryd.prog W = .ok (.slice (some ad) (l.length + 1) c) W := fun W => by
  have := cut_cap (P := Tryd.prog) 26 3 .i64 Tryd.underlying26 hi0 (some ad) l.length c ((l.length : Int) + 1) (by omega) (by omega) W
  rwa [show ((l.length : Int) + 1).toNat = l.length + 1 from by omega] at this
 have HC := Aside0.mk hcall
 clear hcall hr hr' hx hf hmk hi0 hm1
 go_enter Tryd.func16, Tryd.ntmps16
 go_wp2_with (go_at_call 58; (with_reducible refine HC.out.mono ?_); rintro e w1 ⟨rfl, hb, f0⟩)
 go_ret
 exact ⟨rfl, hb.out⟩

set_option maxHeartbeats 2000000 in
set_option maxRecDepth 100000 in
theorem KeptStrings_yes (A : Option Addr) (c : Nat) (A' : Option Addr) (c' : Nat) (l : List ByteArray) (w : World) (hc : l.length + 1 ≤ c) (hr : Kd.C Kd.string w A (l.length + 1) (l ++ [(⟨#[109, 97, 114, 107]⟩ : ByteArray)])) (hc' : l.length ≤ c') (hr' : Kd.C Kd.string w A' l.length l) :
 Calls Tryd.prog 56 #[.slice A l.length c, .slice A' l.length c'] w fun e w' => e = .returned (.bool true) ∧ Below w.heap.size w w' := by
 have hm := C_max hr'
 have hm1 := C_max hr
 have hm2 : l.length + 1 ≤ 9223372036854775807 := hm1
 have hf := KStrings_f l l (l.length + 1) hm (by omega)
 rw [decide_eq_true (rfl : l = l)] at hf
 obtain ⟨ad, rfl, hx⟩ := Kd.at_string hr ((l.length : Nat) : Int) (by omega) (by omega)
 have hmk : w.cell? (ad.add l.length) = some (.string ⟨#[109, 97, 114, 107]⟩) := by
  rw [Int.toNat_natCast] at hx
  rw [hx]
  simp [rdOf, List.getD_eq_getElem?_getD]
 have hcall : Calls Tryd.prog 69 #[.slice (some ad) l.length c, .slice A' l.length c'] w fun e w' => e = .returned (.bool true) ∧ Aside0 (Below w.heap.size w w') ∧ w'.cell? (ad.add l.length) = some (.string ⟨#[109, 97, 114, 107]⟩) := by
  refine (dovetailkit_Strings.calls (l.length + 1) (some ad) c l A' c' l true w (C_pre hr) (by omega) hr' hc' hf).mono ?_
  rintro e w' ⟨he, hb⟩
  have hb' : Below w.heap.size w w' := by first | exact hb | exact hb.below
  exact ⟨he, ⟨hb'⟩, (hb'.cell (World.block_lt_of_cell? w _ hmk)).trans hmk⟩
 obtain ⟨i0, hi0, _, _, _⟩ := info_parts info9
 have hcut : ∀ W : World, (Instr.slice 22 (.slice (some ad) l.length c) none (some (.int .i64 ((l.length : Int) + 1))) none).run Tryd.prog W = .ok (.slice (some ad) (l.length + 1) c) W := fun W => by
  have := cut_cap (P := Tryd.prog) 22 9 .i64 Tryd.underlying22 hi0 (some ad) l.length c ((l.length : Int) + 1) (by omega) (by omega) W
  rwa [show ((l.length : Int) + 1).toNat = l.length + 1 from by omega] at this
 have HC := Aside0.mk hcall
 clear hcall hr hr' hx hf hmk hi0 hm1
 go_enter Tryd.func56, Tryd.ntmps56
 go_wp2_with (go_at_call 69; (with_reducible refine HC.out.mono ?_); rintro e w1 ⟨rfl, hb, f0⟩)
 go_ret
 exact ⟨rfl, hb.out⟩

theorem MR.addr {w : World} {A : Option Addr} {c : Nat} {l : List S52} (h : MR w A c l) : ∃ ad, A = some ad := by
 obtain ⟨ad, e, _⟩ := h.2.2.2 (by omega)
 exact ⟨ad, e⟩
theorem MR.cells {w : World} {ad : Addr} {c : Nat} {l : List S52} (h : MR w (some ad) c l) (i : Nat) (hi : i < l.length) : ∃ A1 c1, w.cell? (ad.add (i * 2)) = some (.int .i64 l[i].f0) ∧ w.cell? ⟨(ad.add (i * 2)).block, (ad.add (i * 2)).off + 1, none⟩ = some (.slice A1 l[i].f1.length c1) ∧ l[i].f1.length + 1 ≤ c1 ∧ Kd.C (Kd.int .i64) w A1 (l[i].f1.length + 1) (l[i].f1 ++ [-7171]) := by
 obtain ⟨ad', e, hc⟩ := h.2.2.2 (by omega)
 obtain rfl := Option.some.inj e
 obtain ⟨cs, h1, h2, h3⟩ := hc i (l[i], true) (by rw [List.getElem?_append_left (by rw [mk1_length]; exact hi)]; simp [mk1, List.getElem?_eq_getElem hi])
 obtain ⟨a, b, rfl, q1, A1, c1, rfl, q2⟩ := h2
 have q1' : a = [.int .i64 l[i].f0] := q1
 subst q1'
 refine ⟨A1, c1, h3 0 _ rfl, ?_, q2.1, q2.2⟩
 rw [← add_field _ _ 1 (by omega)]
 exact h3 1 _ rfl
theorem MR.mark {w : World} {ad : Addr} {c : Nat} {l : List S52} (h : MR w (some ad) c l) : w.cell? (ad.add (l.length * 2)) = some (.int .i64 (-7171)) := by
 obtain ⟨ad', e, hc⟩ := h.2.2.2 (by omega)
 obtain rfl := Option.some.inj e
 obtain ⟨cs, h1, h2, h3⟩ := hc l.length (⟨-7171, []⟩, false) (by rw [List.getElem?_append_right (by rw [mk1_length]; exact Nat.le_refl _), mk1_length, Nat.sub_self]; rfl)
 obtain ⟨a, b, rfl, q1, _⟩ := h2
 have q1' : a = [.int .i64 (-7171)] := q1
 subst q1'
 exact h3 0 _ rfl
set_option maxHeartbeats 4000000 in
set_option maxRecDepth 100000 in
theorem KeptRules_yes (A : Option Addr) (c : Nat) (A' : Option Addr) (c' : Nat) (l : List S52) (w : World) (hr : MR w A c l) (hc' : l.length ≤ c') (hr' : Kd.C k52 w A' l.length l) :
 Calls Tryd.prog 57 #[.slice A l.length c, .slice A' l.length c'] w fun e w' => e = .returned (.bool true) ∧ Below w.heap.size w w' := by
 have hm := C_max hr'
 have hm1 := C_max hr.2
 have hm2 : l.length + 1 ≤ 9223372036854775807 := hm1
 have hc := hr.1
 obtain ⟨ad, rfl⟩ := hr.addr
 have hmk := hr.mark
 obtain ⟨i0, hi0, _, _, _⟩ := info_parts info52
 have hcut : ∀ W : World, (Instr.slice 23 (.slice (some ad) l.length c) none (some (.int .i64 ((l.length : Int) + 1))) none).run Tryd.prog W = .ok (.slice (some ad) (l.length + 1) c) W := fun W => by
  have := cut_cap (P := Tryd.prog) 23 52 .i64 Tryd.underlying23 hi0 (some ad) l.length c ((l.length : Int) + 1) (by omega) (by omega) W
  rwa [show ((l.length : Int) + 1).toNat = l.length + 1 from by omega] at this
 have HR := Aside0.mk hr
 have HR' := Aside0.mk hr'
 clear hr hr' hi0 hm1
 go_enter Tryd.func57, Tryd.ntmps57
 go_wp2_with fail
 clear hcut hmk
 go_loopw [5] (fun i wr => ∃ k : Nat, k ≤ l.length ∧ i = .int .i64 k ∧ Aside0 (Below w.heap.size w wr)) (fun i _ => l.length - (intOf i).toNat)
 case atStart => exact ⟨0, Nat.zero_le _, rfl, ⟨Below.refl _ w⟩⟩
 case round =>
  obtain ⟨k, hk, rfl, tr⟩ := hrel
  by_cases hlt : k < l.length
  · obtain ⟨A1, c1, g0, g1, g2, g3⟩ := (HR.out.below tr.out).cells k hlt
    obtain ⟨ad', A2, c2, rfl, h0, h1, h2, h3⟩ := at_T52 (Kd.C_below HR'.out tr.out) (k : Int) (by omega) (by omega)
    have q0 : rd_T52 l (k : Int) = l[k] := by simp [rd_T52, List.getD_eq_getElem?_getD, List.getElem?_eq_getElem hlt]
    rw [Int.toNat_natCast] at h0 h1
    rw [q0] at h0 h1 h2 h3
    have hcall : ∀ W, Below wr.heap.size wr W → Calls Tryd.prog 16 #[.slice A1 l[k].f1.length c1, .slice A2 l[k].f1.length c2] W fun e w' => e = .returned (.bool true) ∧ Aside0 (Below w.heap.size w w') := by
     intro W hW
     refine (KeptInts_yes A1 c1 A2 c2 l[k].f1 W g2 (Kd.C_below g3 hW) h2 (Kd.C_below h3 hW)).mono ?_
     rintro e w' ⟨he, hb⟩
     exact ⟨he, ⟨(tr.out.trans (hW.mono (below_size tr.out))).trans (hb.mono (Nat.le_trans (below_size tr.out) hW.size))⟩⟩
    generalize l[k] = x at g0 g1 h0 h1 hcall
    have HC := Aside0.mk hcall
    clear hcall g2 g3 h2 h3 q0
    go_wp2_with fail
    go_still_tail 22, (by kernel_rfl)
    change wpList _ _ _ _ _ wr.drew
    go_wp2_with (go_at_call 16; (with_reducible refine (HC.out _ (Below.refl _ wr).drew).mono ?_); rintro e w6 ⟨rfl, t6⟩)
    go_roundw
    case measure => simp [intOf]; omega
    case rel => exact ⟨k + 1, by omega, rfl, t6⟩
  · have hkn : k = l.length := by omega
    subst hkn
    go_wp2_with fail
    go_ret
    exact ⟨rfl, tr.out⟩
end Go.Proofs.YthjhaogfpdkhbaaDoor.B
/- kit.LentGrammar, kit.KeptGrammar. -/
namespace Go.Proofs.YthjhaogfpdkhbaaDoor.B
open Go.RowKit YthjhaogfpdkhbaaDoorW.PrintWords YthjhaogfpdkhbaaDoorW.PrintLast YthjhaogfpdkhbaaDoorW.PrintMore

structure MG (w : World) (A0 : Option Addr) (c0 : Nat) (l0 : List ByteArray) (A1 : Option Addr) (c1 : Nat) (l1 : List ByteArray) (A3 : Option Addr) (c3 : Nat) (l3 : List S52) : Prop where
 h0 : l0.length + 1 ≤ c0
 r0 : Kd.C Kd.string w A0 (l0.length + 1) (l0 ++ [(⟨#[109, 97, 114, 107]⟩ : ByteArray)])
 h1 : l1.length + 1 ≤ c1
 r1 : Kd.C Kd.string w A1 (l1.length + 1) (l1 ++ [(⟨#[109, 97, 114, 107]⟩ : ByteArray)])
 r3 : MR w A3 c3 l3
theorem MG.below {w w' : World} {A0 A1 A3 : Option Addr} {c0 c1 c3 : Nat} {l0 l1 : List ByteArray} {l3 : List S52} (h : MG w A0 c0 l0 A1 c1 l1 A3 c3 l3) (hb : Below w.heap.size w w') : MG w' A0 c0 l0 A1 c1 l1 A3 c3 l3 :=
 ⟨h.h0, Kd.C_below h.r0 hb, h.h1, Kd.C_below h.r1 hb, h.r3.below hb⟩
def GG (w : World) (cs cs' : Array Value) (W : World) : Prop := Below w.heap.size w W ∧ Box w.heap.size cs 25 W ∧ Box (w.heap.size + 1) cs' 25 W
theorem GG.low {w : World} {cs cs' : Array Value} {W : World} (h : GG w cs cs' W) : Below w.heap.size w W := h.1
theorem GG.start (w : World) (cs cs' : Array Value) : GG w cs cs' ((w.alloc (.cells cs 25)).alloc (.cells cs' 25)) :=
 ⟨((Below.refl _ w).alloc (Nat.le_refl _) _).alloc (by simp) _, (Box.new w _ _).alloc _, by have := Box.new (w.alloc (.cells cs 25)) cs' 25; simpa using this⟩
theorem GG.more {w : World} {cs cs' : Array Value} {W W' : World} (h : GG w cs cs' W) (hb : Below W.heap.size W W') : GG w cs cs' W' := ⟨h.1.trans (hb.mono h.1.size), h.2.1.below hb, h.2.2.below hb⟩
theorem GG.two {w : World} {cs cs' : Array Value} {W : World} (h : GG w cs cs' W) : w.heap.size + 2 ≤ W.heap.size := by
 have h2 : W.heap[w.heap.size + 1]? = some (.cells cs' 25 (0, 0)) := h.2.2
 rcases Nat.lt_or_ge (w.heap.size + 1) W.heap.size with h1 | h1
 · exact h1
 · rw [Array.getElem?_eq_none h1] at h2; cases h2
theorem GG.cells {w : World} {v0 v1 v2 v3 u0 u1 u2 u3 : Value} {W : World} (h : GG w #[v0, v1, v2, v3] #[u0, u1, u2, u3] W) : (W.cell? ⟨w.heap.size, 0, none⟩ = some v0 ∧ W.cell? ⟨w.heap.size, 1, none⟩ = some v1 ∧ W.cell? ⟨w.heap.size, 2, none⟩ = some v2 ∧ W.cell? ⟨w.heap.size, 3, none⟩ = some v3) ∧
 W.cell? ⟨w.heap.size + 1, 0, none⟩ = some u0 ∧ W.cell? ⟨w.heap.size + 1, 1, none⟩ = some u1 ∧ W.cell? ⟨w.heap.size + 1, 2, none⟩ = some u2 ∧ W.cell? ⟨w.heap.size + 1, 3, none⟩ = some u3 :=
 ⟨⟨h.2.1.cell 0 _ rfl, h.2.1.cell 1 _ rfl, h.2.1.cell 2 _ rfl, h.2.1.cell 3 _ rfl⟩, h.2.2.cell 0 _ rfl, h.2.2.cell 1 _ rfl, h.2.2.cell 2 _ rfl, h.2.2.cell 3 _ rfl⟩
set_option maxHeartbeats 4000000 in
set_option maxRecDepth 100000 in
theorem KeptGrammar_yes (B0 : Option Addr) (d0 : Nat) (B1 : Option Addr) (d1 : Nat) (B3 : Option Addr) (d3 : Nat) (A0 : Option Addr) (c0 : Nat) (l0 : List ByteArray) (A1 : Option Addr) (c1 : Nat) (l1 : List ByteArray) (a2 : Int) (A3 : Option Addr) (c3 : Nat) (l3 : List S52) (w : World) (hm : MG w B0 d0 l0 B1 d1 l1 B3 d3 l3) (hr0 : Kd.C Kd.string w A0 l0.length l0) (hc0 : l0.length ≤ c0) (hr1 : Kd.C Kd.string w A1 l1.length l1) (hc1 : l1.length ≤ c1) (hr3 : Kd.C k52 w A3 l3.length l3) (hc3 : l3.length ≤ c3) :
 Calls Tryd.prog 15 #[.agg #[.slice B0 l0.length d0, .slice B1 l1.length d1, .int .i64 a2, .slice B3 l3.length d3], .agg #[.slice A0 l0.length c0, .slice A1 l1.length c1, .int .i64 a2, .slice A3 l3.length c3]] w fun e w' => e = .returned (.bool true) ∧ Below w.heap.size w w' := by
 obtain ⟨cs, hcs⟩ : ∃ cs : Array Value, cs = #[.slice B0 l0.length d0, .slice B1 l1.length d1, .int .i64 a2, .slice B3 l3.length d3] := ⟨_, rfl⟩
 obtain ⟨cs', hcs'⟩ : ∃ cs : Array Value, cs = #[.slice A0 l0.length c0, .slice A1 l1.length c1, .int .i64 a2, .slice A3 l3.length c3] := ⟨_, rfl⟩
 have CE : ∀ W, GG w cs cs' W → (W.cell? ⟨w.heap.size, 0, none⟩ = some (.slice B0 l0.length d0) ∧ W.cell? ⟨w.heap.size, 1, none⟩ = some (.slice B1 l1.length d1) ∧ W.cell? ⟨w.heap.size, 2, none⟩ = some (.int .i64 a2) ∧ W.cell? ⟨w.heap.size, 3, none⟩ = some (.slice B3 l3.length d3)) ∧ W.cell? ⟨w.heap.size + 1, 0, none⟩ = some (.slice A0 l0.length c0) ∧ W.cell? ⟨w.heap.size + 1, 1, none⟩ = some (.slice A1 l1.length c1) ∧ W.cell? ⟨w.heap.size + 1, 2, none⟩ = some (.int .i64 a2) ∧ W.cell? ⟨w.heap.size + 1, 3, none⟩ = some (.slice A3 l3.length c3) := by
  intro W hW; subst hcs hcs'; exact hW.cells
 have st : GG w cs cs' ((w.alloc (.cells #[.slice B0 l0.length d0, .slice B1 l1.length d1, .int .i64 a2, .slice B3 l3.length d3] 25)).alloc (.cells #[.slice A0 l0.length c0, .slice A1 l1.length c1, .int .i64 a2, .slice A3 l3.length c3] 25)) := by subst hcs hcs'; exact GG.start w _ _
 have k0 : ∀ W, Below w.heap.size w W → Calls Tryd.prog 56 #[.slice B0 l0.length d0, .slice A0 l0.length c0] W fun e w' => e = .returned (.bool true) ∧ Aside0 (Below W.heap.size W w') := fun W hW => (KeptStrings_yes B0 d0 A0 c0 l0 W hm.h0 (Kd.C_below hm.r0 hW) hc0 (Kd.C_below hr0 hW)).mono fun _ _ h => ⟨h.1, ⟨h.2⟩⟩
 have k1 : ∀ W, Below w.heap.size w W → Calls Tryd.prog 56 #[.slice B1 l1.length d1, .slice A1 l1.length c1] W fun e w' => e = .returned (.bool true) ∧ Aside0 (Below W.heap.size W w') := fun W hW => (KeptStrings_yes B1 d1 A1 c1 l1 W hm.h1 (Kd.C_below hm.r1 hW) hc1 (Kd.C_below hr1 hW)).mono fun _ _ h => ⟨h.1, ⟨h.2⟩⟩
 have k3 : ∀ W, Below w.heap.size w W → Calls Tryd.prog 57 #[.slice B3 l3.length d3, .slice A3 l3.length c3] W fun e w' => e = .returned (.bool true) ∧ Aside0 (Below W.heap.size W w') := fun W hW => (KeptRules_yes B3 d3 A3 c3 l3 W (hm.r3.below hW) hc3 (Kd.C_below hr3 hW)).mono fun _ _ h => ⟨h.1, ⟨h.2⟩⟩
 have CE' := Aside0.mk CE
 have ST := Aside0.mk st
 have K0 := Aside0.mk k0
 have K1 := Aside0.mk k1
 have K3 := Aside0.mk k3
 have HCS := Lib.hid hcs
 have HCS' := Lib.hid hcs'
 clear CE st k0 k1 k3 hm hr0 hr1 hr3 hcs hcs'
 go_enter Tryd.func15, Tryd.ntmps15
 go_wp2_with (first
  | (go_at_call 56; (with_reducible refine (K0.out _ ST.out.low).mono ?_); rintro e w1 ⟨rfl, b1⟩; have t1 := Aside0.mk (ST.out.more b1.out); clear b1; obtain ⟨⟨f0, f1, f2, f3⟩, g0, g1, g2, g3⟩ := CE'.out _ t1.out)
  | (go_at_call 56; (with_reducible refine (K1.out _ t1.out.low).mono ?_); rintro e w2 ⟨rfl, b2⟩; have t2 := Aside0.mk (t1.out.more b2.out); clear b2 f0 f1 f2 f3 g0 g1 g2 g3; obtain ⟨⟨f0, f1, f2, f3⟩, g0, g1, g2, g3⟩ := CE'.out _ t2.out)
  | (go_at_call 57; (with_reducible refine (K3.out _ t2.out.low).mono ?_); rintro e w3 ⟨rfl, b3⟩; have t3 := Aside0.mk (t2.out.more b3.out); clear b3))
 go_ret
 exact ⟨rfl, t3.out.low⟩
set_option maxHeartbeats 8000000 in
set_option maxRecDepth 100000 in
theorem LentGrammar_m (A0 : Option Addr) (c0 : Nat) (l0 : List ByteArray) (A1 : Option Addr) (c1 : Nat) (l1 : List ByteArray) (a2 : Int) (A3 : Option Addr) (c3 : Nat) (l3 : List S52) (w : World) (hr0 : Kd.C Kd.string w A0 l0.length l0) (hr1 : Kd.C Kd.string w A1 l1.length l1) (hr3 : Kd.C k52 w A3 l3.length l3)
 (b0 : l0.length < 8796093022207) (b1 : l1.length < 8796093022207) (b3 : l3.length < 4398046511104) (bx : ∀ x ∈ l3, x.f1.length < 17592186044415) :
 Calls Tryd.prog 10 #[.agg #[.slice A0 l0.length c0, .slice A1 l1.length c1, .int .i64 a2, .slice A3 l3.length c3]] w fun e w' => ∃ B0 d0 B1 d1 B3 d3, e = .returned (.agg #[.slice B0 l0.length d0, .slice B1 l1.length d1, .int .i64 a2, .slice B3 l3.length d3]) ∧ Aside0 (MG w' B0 d0 l0 B1 d1 l1 B3 d3 l3 ∧ Below w.heap.size w w') := by
 obtain ⟨cs, hcs⟩ : ∃ cs : Array Value, cs = #[.slice A0 l0.length c0, .slice A1 l1.length c1, .int .i64 a2, .slice A3 l3.length c3] := ⟨_, rfl⟩
 obtain ⟨cs', hcs'⟩ : ∃ cs : Array Value, cs = #[.slice none 0 0, .slice none 0 0, .int .i64 0, .slice none 0 0] := ⟨_, rfl⟩
 have CE : ∀ W, GG w cs cs' W → W.cell? ⟨w.heap.size, 0, none⟩ = some (.slice A0 l0.length c0) ∧ W.cell? ⟨w.heap.size, 1, none⟩ = some (.slice A1 l1.length c1) ∧ W.cell? ⟨w.heap.size, 2, none⟩ = some (.int .i64 a2) ∧ W.cell? ⟨w.heap.size, 3, none⟩ = some (.slice A3 l3.length c3) ∧ W.heap[w.heap.size + 1]? = some (.cells #[.slice none 0 0, .slice none 0 0, .int .i64 0, .slice none 0 0] 25 (0, 0)) := by
  intro W hW; subst hcs hcs'; obtain ⟨⟨h0, h1, h2, h3⟩, _⟩ := hW.cells; exact ⟨h0, h1, h2, h3, hW.2.2⟩
 have st : GG w cs cs' ((w.alloc (.cells #[.slice A0 l0.length c0, .slice A1 l1.length c1, .int .i64 a2, .slice A3 l3.length c3] 25)).alloc (.cells #[.slice none 0 0, .slice none 0 0, .int .i64 0, .slice none 0 0] 25)) := by subst hcs hcs'; exact GG.start w _ _
 have SF : ∀ W', GG w cs cs' W' → (W'.cell? ⟨w.heap.size, 0, none⟩ = some (.slice A0 l0.length c0) ∧ W'.cell? ⟨w.heap.size, 1, none⟩ = some (.slice A1 l1.length c1) ∧ W'.cell? ⟨w.heap.size, 2, none⟩ = some (.int .i64 a2) ∧ W'.cell? ⟨w.heap.size, 3, none⟩ = some (.slice A3 l3.length c3) ∧ W'.cell? ⟨w.heap.size + 1, 0, none⟩ = some (.slice none 0 0) ∧ W'.cell? ⟨w.heap.size + 1, 1, none⟩ = some (.slice none 0 0) ∧ W'.cell? ⟨w.heap.size + 1, 2, none⟩ = some (.int .i64 0) ∧ W'.cell? ⟨w.heap.size + 1, 3, none⟩ = some (.slice none 0 0) ∧ W'.frozen? ⟨w.heap.size + 1, 0, none⟩ = false ∧ W'.frozen? ⟨w.heap.size + 1, 1, none⟩ = false ∧ W'.frozen? ⟨w.heap.size + 1, 2, none⟩ = false ∧ W'.frozen? ⟨w.heap.size + 1, 3, none⟩ = false) := by
  intro W' hW
  obtain ⟨h0, h1, h2, h3, h4⟩ := CE W' hW
  have hb : Box (w.heap.size + 1) #[.slice none 0 0, .slice none 0 0, .int .i64 0, .slice none 0 0] 25 W' := h4
  have hf : ∀ j, W'.frozen? ⟨w.heap.size + 1, j, none⟩ = false := fun j => by unfold World.frozen?; rw [show W'.heap[(⟨w.heap.size + 1, j, none⟩ : Addr).block]? = _ from h4]; rfl
  exact ⟨h0, h1, h2, h3, hb.cell 0 _ rfl, hb.cell 1 _ rfl, hb.cell 2 _ rfl, hb.cell 3 _ rfl, hf 0, hf 1, hf 2, hf 3⟩
 have k0 : ∀ W, GG w cs cs' W → Calls Tryd.prog 49 #[.slice A0 l0.length c0] W fun e W' => (∃ B d, e = .returned (.slice B l0.length d) ∧ Aside0 (Kd.R Kd.string 9 W' w.heap.size (fun k => w.heap.size + 2 ≤ k) (.slice B (l0.length + 1) d) (l0 ++ [(⟨#[109, 97, 114, 107]⟩ : ByteArray)]) ∧ GG w cs cs' W' ∧ Below W.heap.size W W')) ∧ (W'.cell? ⟨w.heap.size, 0, none⟩ = some (.slice A0 l0.length c0) ∧ W'.cell? ⟨w.heap.size, 1, none⟩ = some (.slice A1 l1.length c1) ∧ W'.cell? ⟨w.heap.size, 2, none⟩ = some (.int .i64 a2) ∧ W'.cell? ⟨w.heap.size, 3, none⟩ = some (.slice A3 l3.length c3) ∧ W'.cell? ⟨w.heap.size + 1, 0, none⟩ = some (.slice none 0 0) ∧ W'.cell? ⟨w.heap.size + 1, 1, none⟩ = some (.slice none 0 0) ∧ W'.cell? ⟨w.heap.size + 1, 2, none⟩ = some (.int .i64 0) ∧ W'.cell? ⟨w.heap.size + 1, 3, none⟩ = some (.slice none 0 0) ∧ W'.frozen? ⟨w.heap.size + 1, 0, none⟩ = false ∧ W'.frozen? ⟨w.heap.size + 1, 1, none⟩ = false ∧ W'.frozen? ⟨w.heap.size + 1, 2, none⟩ = false ∧ W'.frozen? ⟨w.heap.size + 1, 3, none⟩ = false) := by
  intro W hW
  refine (LentStrings_m A0 c0 l0 W (Kd.C_below hr0 hW.low) b0).mono ?_
  rintro e w' ⟨B, d, rfl, h⟩
  exact ⟨⟨B, d, rfl, ⟨Kd.R_lower (Kd.R_mono (Kd.R_bound h.out.1) (fun k hk => Nat.le_trans hW.two hk.2.1)) (Nat.le_trans (by omega) hW.two), hW.more h.out.2, h.out.2⟩⟩, SF _ (hW.more h.out.2)⟩
 have k1 : ∀ W, GG w cs cs' W → Calls Tryd.prog 49 #[.slice A1 l1.length c1] W fun e W' => (∃ B d, e = .returned (.slice B l1.length d) ∧ Aside0 (Kd.R Kd.string 9 W' w.heap.size (fun k => w.heap.size + 2 ≤ k) (.slice B (l1.length + 1) d) (l1 ++ [(⟨#[109, 97, 114, 107]⟩ : ByteArray)]) ∧ GG w cs cs' W' ∧ Below W.heap.size W W')) ∧ (W'.cell? ⟨w.heap.size, 0, none⟩ = some (.slice A0 l0.length c0) ∧ W'.cell? ⟨w.heap.size, 1, none⟩ = some (.slice A1 l1.length c1) ∧ W'.cell? ⟨w.heap.size, 2, none⟩ = some (.int .i64 a2) ∧ W'.cell? ⟨w.heap.size, 3, none⟩ = some (.slice A3 l3.length c3) ∧ W'.cell? ⟨w.heap.size + 1, 0, none⟩ = some (.slice none 0 0) ∧ W'.cell? ⟨w.heap.size + 1, 1, none⟩ = some (.slice none 0 0) ∧ W'.cell? ⟨w.heap.size + 1, 2, none⟩ = some (.int .i64 0) ∧ W'.cell? ⟨w.heap.size + 1, 3, none⟩ = some (.slice none 0 0) ∧ W'.frozen? ⟨w.heap.size + 1, 0, none⟩ = false ∧ W'.frozen? ⟨w.heap.size + 1, 1, none⟩ = false ∧ W'.frozen? ⟨w.heap.size + 1, 2, none⟩ = false ∧ W'.frozen? ⟨w.heap.size + 1, 3, none⟩ = false) := by
  intro W hW
  refine (LentStrings_m A1 c1 l1 W (Kd.C_below hr1 hW.low) b1).mono ?_
  rintro e w' ⟨B, d, rfl, h⟩
  exact ⟨⟨B, d, rfl, ⟨Kd.R_lower (Kd.R_mono (Kd.R_bound h.out.1) (fun k hk => Nat.le_trans hW.two hk.2.1)) (Nat.le_trans (by omega) hW.two), hW.more h.out.2, h.out.2⟩⟩, SF _ (hW.more h.out.2)⟩
 have k3 : ∀ W, GG w cs cs' W → Calls Tryd.prog 50 #[.slice A3 l3.length c3] W fun e W' => (∃ B d, e = .returned (.slice B l3.length d) ∧ Aside0 (Kd.R kRx 52 W' w.heap.size (fun k => w.heap.size + 2 ≤ k) (.slice B (l3.length + 1) d) (mk1 l3 ++ [((⟨-7171, []⟩ : S52), false)]) ∧ GG w cs cs' W' ∧ Below W.heap.size W W')) ∧ (W'.cell? ⟨w.heap.size, 0, none⟩ = some (.slice A0 l0.length c0) ∧ W'.cell? ⟨w.heap.size, 1, none⟩ = some (.slice A1 l1.length c1) ∧ W'.cell? ⟨w.heap.size, 2, none⟩ = some (.int .i64 a2) ∧ W'.cell? ⟨w.heap.size, 3, none⟩ = some (.slice A3 l3.length c3) ∧ W'.cell? ⟨w.heap.size + 1, 0, none⟩ = some (.slice none 0 0) ∧ W'.cell? ⟨w.heap.size + 1, 1, none⟩ = some (.slice none 0 0) ∧ W'.cell? ⟨w.heap.size + 1, 2, none⟩ = some (.int .i64 0) ∧ W'.cell? ⟨w.heap.size + 1, 3, none⟩ = some (.slice none 0 0) ∧ W'.frozen? ⟨w.heap.size + 1, 0, none⟩ = false ∧ W'.frozen? ⟨w.heap.size + 1, 1, none⟩ = false ∧ W'.frozen? ⟨w.heap.size + 1, 2, none⟩ = false ∧ W'.frozen? ⟨w.heap.size + 1, 3, none⟩ = false) := by
  intro W hW
  refine (LentRules_m A3 c3 l3 W (Kd.C_below hr3 hW.low) b3 bx).mono ?_
  rintro e w' ⟨B, d, rfl, h⟩
  exact ⟨⟨B, d, rfl, ⟨Kd.R_lower (Kd.R_mono (Kd.R_bound h.out.1) (fun k hk => Nat.le_trans hW.two hk.2.1)) (Nat.le_trans (by omega) hW.two), hW.more h.out.2, h.out.2⟩⟩, SF _ (hW.more h.out.2)⟩
 obtain ⟨f0, f1, f2, f3, f4, f5, f6, f7, f8, f9, f10, f11⟩ := SF _ st
 have ST := Aside0.mk st
 have HCS := Lib.hid hcs
 have HCS' := Lib.hid hcs'
 have K0 := Aside0.mk k0
 have K1 := Aside0.mk k1
 have K3 := Aside0.mk k3
 clear CE st k0 k1 k3 hr0 hr1 hr3 hcs hcs' SF bx
 go_enter Tryd.func10, Tryd.ntmps10
 go_wp2_with fail
 go_region_held3 (fun W' => W'.cell? ⟨w.heap.size, 0, none⟩ = some (.slice A0 l0.length c0) ∧ W'.cell? ⟨w.heap.size, 1, none⟩ = some (.slice A1 l1.length c1) ∧ W'.cell? ⟨w.heap.size, 2, none⟩ = some (.int .i64 a2) ∧ W'.cell? ⟨w.heap.size, 3, none⟩ = some (.slice A3 l3.length c3))
  (go_keep)
  ((first
   | (go_at_call 49; (with_reducible refine (K0.out _ ?_).mono ?_); exact (by first | exact ST.out | exact ST.out.more (Below.refl _ _).drew); rintro e w1 ⟨⟨B0, d0, rfl, t1⟩, g0, g1, g2, g3, g4, g5, g6, g7, g8, g9, g10, g11⟩)
   | (go_at_call 49; (with_reducible refine (K1.out _ t1.out.2.1).mono ?_); rintro e w2 ⟨⟨B1, d1, rfl, t2⟩, g0, g1, g2, g3, g4, g5, g6, g7, g8, g9, g10, g11⟩)
   | (go_at_call 50; (with_reducible refine (K3.out _ t2.out.2.1).mono ?_); rintro e w3 ⟨⟨B3, d3, rfl, t3⟩, g0, g1, g2, g3, g4, g5, g6, g7, g8, g9, g10, g11⟩)))
 go_wp2_with fail
 refine bodyPost_ret (v := .agg #[.slice B0 l0.length d0, .slice B1 l1.length d1, .int .i64 a2, .slice B3 l3.length d3]) (by simp [results, Tryd.results10, go_sem, g4, g5, g6, g7]) rfl ⟨B0, d0, B1, d1, B3, d3, rfl, ⟨?_, ?_⟩⟩
 · have e0 := Kd.R_reads' (Kd.R_far (Kd.R_far (Kd.R_far (Kd.R_far (Kd.R_below (Kd.R_below t1.out.1 t2.out.2.2) t3.out.2.2) (p := ⟨w.heap.size + 1, 0, none⟩) (fun k hk => by dsimp only; omega) (.slice B0 l0.length d0)) (p := ⟨w.heap.size + 1, 1, none⟩) (fun k hk => by dsimp only; omega) (.slice B1 l1.length d1)) (p := ⟨w.heap.size + 1, 2, none⟩) (fun k hk => by dsimp only; omega) (.int .i64 a2)) (p := ⟨w.heap.size + 1, 3, none⟩) (fun k hk => by dsimp only; omega) (.slice B3 l3.length d3))
   have e1 := Kd.R_reads' (Kd.R_far (Kd.R_far (Kd.R_far (Kd.R_far (Kd.R_below t2.out.1 t3.out.2.2) (p := ⟨w.heap.size + 1, 0, none⟩) (fun k hk => by dsimp only; omega) (.slice B0 l0.length d0)) (p := ⟨w.heap.size + 1, 1, none⟩) (fun k hk => by dsimp only; omega) (.slice B1 l1.length d1)) (p := ⟨w.heap.size + 1, 2, none⟩) (fun k hk => by dsimp only; omega) (.int .i64 a2)) (p := ⟨w.heap.size + 1, 3, none⟩) (fun k hk => by dsimp only; omega) (.slice B3 l3.length d3))
   have e3 := MR.of (Kd.R_far (Kd.R_far (Kd.R_far (Kd.R_far t3.out.1 (p := ⟨w.heap.size + 1, 0, none⟩) (fun k hk => by dsimp only; omega) (.slice B0 l0.length d0)) (p := ⟨w.heap.size + 1, 1, none⟩) (fun k hk => by dsimp only; omega) (.slice B1 l1.length d1)) (p := ⟨w.heap.size + 1, 2, none⟩) (fun k hk => by dsimp only; omega) (.int .i64 a2)) (p := ⟨w.heap.size + 1, 3, none⟩) (fun k hk => by dsimp only; omega) (.slice B3 l3.length d3))
   rw [← e0.1] at e0
   rw [← e1.1] at e1
   exact ⟨e0.2.1, e0.2.2, e1.2.1, e1.2.2, e3⟩
 · have hb := t3.out.2.1.low
   exact (((hb.setCell (p := ⟨w.heap.size + 1, 0, none⟩) (by dsimp only; omega) _).setCell (p := ⟨w.heap.size + 1, 1, none⟩) (by dsimp only; omega) _).setCell (p := ⟨w.heap.size + 1, 2, none⟩) (by dsimp only; omega) _).setCell (p := ⟨w.heap.size + 1, 3, none⟩) (by dsimp only; omega) _
end Go.Proofs.YthjhaogfpdkhbaaDoor.B
/- Where two grammars' boxes lie: the one that is handed in, the one that was lent. -/
namespace Go.Proofs.YthjhaogfpdkhbaaDoor.Sh
open Go.RowKit YthjhaogfpdkhbaaDoorW.PrintWords YthjhaogfpdkhbaaDoorW.PrintLast YthjhaogfpdkhbaaDoorW.PrintMore
open B H F

def TN (w w1 : World) (cs bs : Array Value) (W : World) : Prop := Below w.heap.size w W ∧ Below w1.heap.size w1 W ∧ Box w.heap.size cs 25 W ∧ Box w1.heap.size bs 25 W
theorem TN.low {w w1 : World} {cs bs : Array Value} {W : World} (h : TN w w1 cs bs W) : Below w.heap.size w W := h.1
theorem TN.low1 {w w1 : World} {cs bs : Array Value} {W : World} (h : TN w w1 cs bs W) : Below w1.heap.size w1 W := h.2.1
theorem Box.in_ {b : Nat} {cs : Array Value} {t : TypeId} {W : World} (h : Box b cs t W) : b < W.heap.size := by
 have h2 : W.heap[b]? = some (.cells cs t (0, 0)) := h
 rcases Nat.lt_or_ge b W.heap.size with h1 | h1
 · exact h1
 · rw [Array.getElem?_eq_none h1] at h2; cases h2
theorem TN.base {w w1 : World} {cs bs : Array Value} {W W' : World} (h : TN w w1 cs bs W) (base : Nat) (hb : Below base W W') (h0 : w.heap.size < base) (h1 : w1.heap.size < base) (hbW : base ≤ W.heap.size) : TN w w1 cs bs W' :=
 ⟨h.1.trans (hb.mono (by omega)), h.2.1.trans (hb.mono (by omega)), (hb.block _ h0).trans h.2.2.1, (hb.block _ h1).trans h.2.2.2⟩
theorem TN.more {w w1 : World} {cs bs : Array Value} {W W' : World} (h : TN w w1 cs bs W) (hb : Below W.heap.size W W') : TN w w1 cs bs W' := h.base W.heap.size hb (Box.in_ h.2.2.1) (Box.in_ h.2.2.2) (Nat.le_refl _)
theorem TN.cells {w w1 : World} {v0 v1 v2 v3 u0 u1 u2 u3 : Value} {W : World} (h : TN w w1 #[v0, v1, v2, v3] #[u0, u1, u2, u3] W) : W.cell? ⟨w.heap.size, 0, none⟩ = some v0 ∧ W.cell? ⟨w.heap.size, 1, none⟩ = some v1 ∧ W.cell? ⟨w.heap.size, 2, none⟩ = some v2 ∧ W.cell? ⟨w.heap.size, 3, none⟩ = some v3 ∧
 W.cell? ⟨w1.heap.size, 0, none⟩ = some u0 ∧ W.cell? ⟨w1.heap.size, 1, none⟩ = some u1 ∧ W.cell? ⟨w1.heap.size, 2, none⟩ = some u2 ∧ W.cell? ⟨w1.heap.size, 3, none⟩ = some u3 :=
 ⟨h.2.2.1.cell 0 _ rfl, h.2.2.1.cell 1 _ rfl, h.2.2.1.cell 2 _ rfl, h.2.2.1.cell 3 _ rfl, h.2.2.2.cell 0 _ rfl, h.2.2.2.cell 1 _ rfl, h.2.2.2.cell 2 _ rfl, h.2.2.2.cell 3 _ rfl⟩
def TZ (ad : Int → Addr) (E : Value) (p : Int × Int) (w w1 : World) (cs bs : Array Value) (W : World) : Prop := TN w w1 cs bs W ∧ ErrW ad W E p
theorem TZ.tn {ad : Int → Addr} {E : Value} {p : Int × Int} {w w1 : World} {cs bs : Array Value} {W : World} (h : TZ ad E p w w1 cs bs W) : TN w w1 cs bs W := h.1
theorem TZ.more {ad : Int → Addr} {E : Value} {p : Int × Int} {w w1 : World} {cs bs : Array Value} {W W' : World} (h : TZ ad E p w w1 cs bs W) (hb : Below W.heap.size W W') : TZ ad E p w w1 cs bs W' := ⟨h.1.more hb, h.2.below hb⟩
theorem TN.start {w w1 : World} {cs bs : Array Value} (h : GS w cs w1) : TN w w1 cs bs (w1.alloc (.cells bs 25)) := by
 have hb := (Below.refl w1.heap.size w1).alloc (Nat.le_refl _) (.cells bs 25)
 exact ⟨h.low.trans (hb.mono h.low.size), hb, h.2.below hb, Box.new w1 _ _⟩
end Go.Proofs.YthjhaogfpdkhbaaDoor.Sh
/- show.Readable: walked. -/
namespace Go.Proofs.YthjhaogfpdkhbaaDoor.Sh
open Go.RowKit YthjhaogfpdkhbaaDoorW.PrintWords YthjhaogfpdkhbaaDoorW.PrintLast YthjhaogfpdkhbaaDoorW.PrintMore
open B H F

theorem Box.far {b : Nat} {cs : Array Value} {t : TypeId} {W : World} (h : Box b cs t W) (p : Addr) (u : Value) (hne : b ≠ p.block) : Box b cs t (W.setCell p u) := by
 have h' : W.heap[b]? = some (.cells cs t (0, 0)) := h
 show (W.setCell p u).heap[b]? = _
 rw [Below.heap_setCell W p u b hne]; exact h'
theorem Box.put1 {b : Nat} {v : Value} {t : TypeId} {W : World} (h : Box b #[v] t W) (u : Value) : Box b #[u] t (W.setCell ⟨b, 0, none⟩ u) := by
 exact one_setCell (u := u) h
theorem box_frozen {b : Nat} {cs : Array Value} {t : TypeId} {W : World} (h : Box b cs t W) (j : Nat) : W.frozen? ⟨b, j, none⟩ = false := by
 have h' : W.heap[b]? = some (.cells cs t (0, 0)) := h
 unfold World.frozen?
 rw [show W.heap[(⟨b, j, none⟩ : Addr).block]? = _ from h']; rfl
def readP (l0 l1 : List ByteArray) (a2 : Int) (R : List S52) : Int × Int :=
 if (chk (namesOK l0) (namesOK l1) l0.length l1.length a2 R).1 = 0 then
  if P.namesFree l1 = true then if P.formB l0 l1 a2 R = true then (0, -1) else (13, -1) else (10, -1)
 else chk (namesOK l0) (namesOK l1) l0.length l1.length a2 R
theorem readP_K (l0 l1 : List ByteArray) (a2 : Int) (R : List S52) : (readP l0 l1 a2 R).1 = readK l0 l1 a2 R := by
 unfold readP readK
 split
 · split
   · split <;> rfl
   · rfl
 · rfl
structure RS (w : World) (cs : Array Value) (b : Nat) (m n : Int) (W : World) : Prop where
 gs : GS w cs W
 lt : w.heap.size < b
 b0 : Box b #[.int .i64 m] 3 W
 b1 : Box (b + 1) #[.int .i64 n] 3 W
section
variable {w W W' : World} {cs : Array Value} {b : Nat} {m n : Int}
theorem RS.more (h : RS w cs b m n W) (hb : Below W.heap.size W W') : RS w cs b m n W' := ⟨h.gs.more hb, h.lt, h.b0.below hb, h.b1.below hb⟩
theorem RS.alloc (h : RS w cs b m n W) (o : Obj) : RS w cs b m n (W.alloc o) := h.more ((Below.refl _ W).alloc (Nat.le_refl _) o)
theorem RS.put0 (h : RS w cs b m n W) (v : Int) : RS w cs b v n (W.setCell ⟨b, 0, none⟩ (.int .i64 v)) :=
 ⟨h.gs.base b ((Below.refl b W).setCell (by dsimp only; omega) _) h.lt, h.lt, Box.put1 h.b0 _, Box.far h.b1 _ _ (by dsimp only; omega)⟩
theorem RS.put1 (h : RS w cs b m n W) (v : Int) : RS w cs b m v (W.setCell ⟨b + 1, 0, none⟩ (.int .i64 v)) :=
 ⟨h.gs.base b ((Below.refl b W).setCell (by dsimp only; omega) _) h.lt, h.lt, Box.far h.b0 _ _ (by dsimp only; omega), Box.put1 h.b1 _⟩
end
set_option maxHeartbeats 4000000 in
theorem rise_calls (p : Addr) (v n : Int) (w : World) (hc : w.cell? p = some (.int .i64 n)) (hf : w.frozen? p = false) (h0 : 0 ≤ n) (h1 : n < 9223372036854775807) :
 Calls Tryd.prog 67 #[.int .i64 v, .pointer (some p)] w fun e w' => e = .returned (.bool (decide (v ≤ n))) ∧ w' = if v = n then w.setCell p (.int .i64 (n + 1)) else w := by
 by_cases h : v = n
 · subst h
   have hw : wrap64 (v + 1) = v + 1 := by unfold wrap64; omega
   have hlt : decide (v < v + 1) = true := decide_eq_true (by omega)
   have hle : decide (v ≤ v) = true := decide_eq_true (Int.le_refl _)
   rw [if_pos rfl, hle]
   go_enter Tryd.func67, Tryd.ntmps67
   go_wp2_with fail
   go_ret
   exact ⟨rfl, rfl⟩
 · have d : decide (v = n) = false := decide_eq_false h
   have e : decide (v < n) = decide (v ≤ n) := by
    by_cases h2 : v < n
    · rw [decide_eq_true h2, decide_eq_true (by omega)]
    · rw [decide_eq_false h2, decide_eq_false (by omega)]
   rw [if_neg h]
   have HE := Lib.hid e
   clear e
   go_enter Tryd.func67, Tryd.ntmps67
   go_wp2_with fail
   go_ret
   exact ⟨by rw [← HE.out]; rfl, rfl⟩
def stepR (v n : Int) : Int := if v = n then n + 1 else n
theorem rise0 {w W : World} {cs : Array Value} {b : Nat} {m n : Int} (h : RS w cs b m n W) (v : Int) (h0 : 0 ≤ m) (h1 : m < 9223372036854775807) :
 Calls Tryd.prog 67 #[.int .i64 v, .pointer (some ⟨b, 0, none⟩)] W fun e w' => e = .returned (.bool (decide (v ≤ m))) ∧ Aside0 (RS w cs b (stepR v m) n w' ∧ ∀ B bs t, B ≠ b → Box B bs t W → Box B bs t w') :=
 (rise_calls ⟨b, 0, none⟩ v m W (h.b0.cell 0 _ rfl) (box_frozen h.b0 0) h0 h1).mono fun e w' ⟨he, hw⟩ => ⟨he, ⟨by
  unfold stepR
  subst hw
  split
  · exact ⟨h.put0 _, fun B bs t hne hB => Box.far hB _ _ hne⟩
  · exact ⟨h, fun _ _ _ _ hB => hB⟩⟩⟩
theorem rise1 {w W : World} {cs : Array Value} {b : Nat} {m n : Int} (h : RS w cs b m n W) (v : Int) (h0 : 0 ≤ n) (h1 : n < 9223372036854775807) :
 Calls Tryd.prog 67 #[.int .i64 v, .pointer (some ⟨b + 1, 0, none⟩)] W fun e w' => e = .returned (.bool (decide (v ≤ n))) ∧ Aside0 (RS w cs b m (stepR v n) w' ∧ ∀ B bs t, B ≠ b + 1 → Box B bs t W → Box B bs t w') :=
 (rise_calls ⟨b + 1, 0, none⟩ v n W (h.b1.cell 0 _ rfl) (box_frozen h.b1 0) h0 h1).mono fun e w' ⟨he, hw⟩ => ⟨he, ⟨by
  unfold stepR
  subst hw
  split
  · exact ⟨h.put1 _, fun B bs t hne hB => Box.far hB _ _ hne⟩
  · exact ⟨h, fun _ _ _ _ hB => hB⟩⟩⟩
theorem rise_le (N : Int) : ∀ (l : List Int) (n m : Int), (∀ x ∈ l, x < N) → n ≤ N → P.riseL l n = some m → n ≤ m ∧ m ≤ N
 | [], n, m, _, hn, h => by
  obtain rfl : n = m := Option.some.inj h
  omega
 | x :: l, n, m, hx, hn, h => by
  unfold P.riseL at h
  by_cases hg : x > n
  · rw [if_pos hg] at h; cases h
  · rw [if_neg hg] at h
    have hxN := hx x List.mem_cons_self
    have := rise_le N l _ m (fun y hy => hx y (List.mem_cons_of_mem _ hy)) (by split <;> omega) h
    split at this <;> omega
theorem RS.start {w W : World} {cs : Array Value} (h : GS w cs W) : RS w cs W.heap.size 0 0 ((W.alloc (.cells #[.int .i64 0] 3)).alloc (.cells #[.int .i64 0] 3)) :=
 ⟨h.more (((Below.refl _ W).alloc (Nat.le_refl _) _).alloc (by simp) _), h.lt, (Box.new W _ _).alloc _, by have := Box.new (W.alloc (.cells #[.int .i64 0] 3)) #[.int .i64 0] 3; simpa using this⟩
theorem counts_le {l0 l1 : List ByteArray} {R : List S52} (h : ∀ x ∈ R, okR l0.length l1.length x = true) (k : Nat) {m n : Int} (hm : P.riseL (P.leftsL (R.take k)) 0 = some m) (hn : P.riseL (P.termsL (R.take k)) 0 = some n) : 0 ≤ m ∧ m ≤ (l1.length : Int) ∧ 0 ≤ n ∧ n ≤ (l0.length : Int) := by
 have a := rise_le (l1.length : Int) _ 0 m (fun v hv => by
  obtain ⟨x, hx, rfl⟩ := List.mem_map.1 hv
  exact (okR_sides (h x (List.mem_of_mem_take hx))).2.2.1) (by omega) hm
 have b := rise_le (l0.length : Int) _ 0 n (fun v hv => by
  obtain ⟨x, hx, hv⟩ := List.mem_flatMap.1 hv
  exact ((okR_sides (h x (List.mem_of_mem_take hx))).2.2.2 v (List.mem_filter.1 hv).1).1) (by omega) hn
 omega
theorem counts_le2 {l0 l1 : List ByteArray} {R : List S52} (h : ∀ x ∈ R, okR l0.length l1.length x = true) (k i : Nat) {x : S52} (hx : ∀ s ∈ x.f1, s < (l0.length : Int)) {n : Int} (hn : P.riseL (P.termsL (R.take k) ++ (x.f1.take i).filter (fun s => decide (0 ≤ s))) 0 = some n) : 0 ≤ n ∧ n ≤ (l0.length : Int) := by
 refine rise_le (l0.length : Int) _ 0 n (fun v hv => ?_) (by omega) hn
 rcases List.mem_append.1 hv with hv | hv
 · obtain ⟨x, hx, hv⟩ := List.mem_flatMap.1 hv
   exact ((okR_sides (h x (List.mem_of_mem_take hx))).2.2.2 v (List.mem_filter.1 hv).1).1
 · exact hx v (List.mem_of_mem_take (List.mem_filter.1 hv).1)
theorem filt_yes {l : List Int} {i : Nat} (hi : i < l.length) (h : 0 ≤ l[i]) : (l.take (i + 1)).filter (fun s => decide (0 ≤ s)) = (l.take i).filter (fun s => decide (0 ≤ s)) ++ [l[i]] := by
 rw [List.take_succ_eq_append_getElem hi, List.filter_append]; simp [h]
theorem filt_no {l : List Int} {i : Nat} (hi : i < l.length) (h : ¬ 0 ≤ l[i]) : (l.take (i + 1)).filter (fun s => decide (0 ≤ s)) = (l.take i).filter (fun s => decide (0 ≤ s)) := by
 rw [List.take_succ_eq_append_getElem hi, List.filter_append]; simp [h]
theorem rise_snoc {l : List Int} {n : Int} (x : Int) (h : P.riseL l 0 = some n) : P.riseL (l ++ [x]) 0 = if x > n then none else some (stepR x n) := by
 rw [P.riseL_append, h]
 show P.riseL [x] n = _
 unfold P.riseL P.riseL stepR
 rfl
theorem lefts_succ {R : List S52} {k : Nat} (hk : k < R.length) : P.leftsL (R.take (k + 1)) = P.leftsL (R.take k) ++ [R[k].f0] := by
 unfold P.leftsL; rw [List.take_succ_eq_append_getElem hk, List.map_append]; rfl
theorem terms_succ {R : List S52} {k : Nat} (hk : k < R.length) : P.termsL (R.take (k + 1)) = P.termsL (R.take k) ++ R[k].f1.filter (fun s => decide (0 ≤ s)) := by
 unfold P.termsL; rw [List.take_succ_eq_append_getElem hk, List.flatMap_append]; simp only [List.flatMap_cons, List.flatMap_nil, List.append_nil]
theorem rise_none {l r : List Int} (h : P.riseL l 0 = none) : P.riseL (l ++ r) 0 = none := by rw [P.riseL_append, h]; rfl
theorem lefts_none {R : List S52} (k : Nat) (h : P.riseL (P.leftsL (R.take k)) 0 = none) : P.riseL (P.leftsL R) 0 = none := by
 rw [← List.take_append_drop k R, P.leftsL, List.map_append]; exact rise_none h
theorem terms_none {R : List S52} {k j : Nat} (hk : k < R.length) (h : P.riseL (P.termsL (R.take k) ++ (R[k].f1.take j).filter (fun s => decide (0 ≤ s))) 0 = none) : P.riseL (P.termsL R) 0 = none := by
 have e : P.termsL R = P.termsL (R.take (k + 1)) ++ P.termsL (R.drop (k + 1)) := by
  unfold P.termsL
  rw [← List.flatMap_append, List.take_append_drop]
 rw [e, terms_succ hk]
 conv => lhs; rw [← List.take_append_drop j R[k].f1, List.filter_append, ← List.append_assoc]
 exact rise_none (rise_none h)
theorem form_no {l0 l1 : List ByteArray} {a2 : Int} {R : List S52} (h : a2 ≠ 0 ∨ P.riseL (P.leftsL R) 0 ≠ some (l1.length : Int) ∨ P.riseL (P.termsL R) 0 ≠ some (l0.length : Int)) : P.formB l0 l1 a2 R ≠ true := by
 intro hf
 simp only [P.formB, Bool.and_eq_true, decide_eq_true_eq] at hf
 rcases h with h | h | h
 · exact h hf.1
 · exact h hf.2.1
 · exact h hf.2.2
theorem form_yes {l0 l1 : List ByteArray} {a2 : Int} {R : List S52} (h0 : a2 = 0) (h1 : P.riseL (P.leftsL R) 0 = some (l1.length : Int)) (h2 : P.riseL (P.termsL R) 0 = some (l0.length : Int)) : P.formB l0 l1 a2 R = true := by
 simp only [P.formB, Bool.and_eq_true, decide_eq_true_eq]
 exact ⟨h0, h1, h2⟩
end Go.Proofs.YthjhaogfpdkhbaaDoor.Sh
/- show.Readable: the walk (printed by tools/mk_showz.py). -/
namespace Go.Proofs.YthjhaogfpdkhbaaDoor.Sh
open Go.RowKit YthjhaogfpdkhbaaDoorW.PrintWords YthjhaogfpdkhbaaDoorW.PrintLast YthjhaogfpdkhbaaDoorW.PrintMore
open B H F
theorem take_all {α : Type} {l : List α} {p : α → Bool} {k : Nat} (h : ∀ x ∈ l.take k, p x = true) (hk : k < l.length) (hx : p l[k] = true) : ∀ x ∈ l.take (k + 1), p x = true := by
 intro x hm
 rw [List.take_succ_eq_append_getElem hk] at hm
 rcases List.mem_append.1 hm with h1 | h1
 · exact h x h1
 · obtain rfl := List.mem_singleton.1 h1; exact hx
set_option maxHeartbeats 4000000 in
set_option maxRecDepth 100000 in
theorem Readable_calls (ad : Int → Addr) (A0 : Option Addr) (c0 : Nat) (l0 : List ByteArray) (A1 : Option Addr) (c1 : Nat) (l1 : List ByteArray) (a2 : Int) (A3 : Option Addr) (c3 : Nat) (R : List S52) (w : World) (hs : SentsK ad w) (hr0 : Kd.C Kd.string w A0 l0.length l0) (hc0 : l0.length ≤ c0) (hr1 : Kd.C Kd.string w A1 l1.length l1) (hc1 : l1.length ≤ c1) (hr3 : Kd.C k52 w A3 R.length R) (hc3 : R.length ≤ c3) :
 Calls Tryd.prog 25 #[.agg #[.slice A0 l0.length c0, .slice A1 l1.length c1, .int .i64 a2, .slice A3 R.length c3]] w fun e w' => ∃ E, e = .returned E ∧ ErrW ad w' E (readP l0 l1 a2 R) ∧ Below w.heap.size w w' := by
 have m0 := C_max hr0
 have m1 := C_max hr1
 obtain ⟨cs, hcs⟩ : ∃ cs : Array Value, cs = #[.slice A0 l0.length c0, .slice A1 l1.length c1, .int .i64 a2, .slice A3 R.length c3] := ⟨_, rfl⟩
 have st : GS w cs (w.alloc (.cells #[.slice A0 l0.length c0, .slice A1 l1.length c1, .int .i64 a2, .slice A3 R.length c3] 25)) := by subst hcs; exact GS.start w _
 have ce : ∀ W, GS w cs W → W.cell? ⟨w.heap.size, 0, none⟩ = some (.slice A0 l0.length c0) ∧ W.cell? ⟨w.heap.size, 1, none⟩ = some (.slice A1 l1.length c1) ∧ W.cell? ⟨w.heap.size, 2, none⟩ = some (.int .i64 a2) ∧ W.cell? ⟨w.heap.size, 3, none⟩ = some (.slice A3 R.length c3) := by
  intro W hW; subst hcs; exact hW.cells
 have kC : ∀ W, GS w cs W → Calls Tryd.prog 51 #[.agg #[.slice A0 l0.length c0, .slice A1 l1.length c1, .int .i64 a2, .slice A3 R.length c3]] W fun e w' => (∃ v, e = .returned v ∧ ErrW ad w' v (chk (namesOK l0) (namesOK l1) l0.length l1.length a2 R)) ∧ Aside0 (GS w cs w') := fun W hW =>
  (Check_any ad A0 c0 l0 A1 c1 l1 a2 A3 c3 R W (hs.below hW.low) (Kd.C_below hr0 hW.low) hc0 (Kd.C_below hr1 hW.low) hc1 (Kd.C_below hr3 hW.low) hc3).mono fun _ _ ⟨⟨v, he, hv⟩, hb⟩ => ⟨⟨v, he, ErrW.of hv⟩, ⟨hW.more hb⟩⟩
 have ST := Aside0.mk st
 have CE := Aside0.mk ce
 have HCS := Lib.hid hcs
 unfold readP
 obtain ⟨rp, hrp⟩ : ∃ rp : Int × Int, rp = (if P.namesFree l1 = true then if P.formB l0 l1 a2 R = true then (0, -1) else (13, -1) else (10, -1)) := ⟨_, rfl⟩
 rw [← hrp]
 by_cases hp : (chk (namesOK l0) (namesOK l1) l0.length l1.length a2 R).1 = 0
 rotate_left
 · rw [if_neg hp]
   have KC : Aside0 (∀ W, GS w cs W → Calls Tryd.prog 51 #[.agg #[.slice A0 l0.length c0, .slice A1 l1.length c1, .int .i64 a2, .slice A3 R.length c3]] W fun e w' => ∃ t u, e = .returned (.iface t u) ∧ Aside0 (ErrW ad w' (.iface t u) (chk (namesOK l0) (namesOK l1) l0.length l1.length a2 R) ∧ GS w cs w')) := ⟨fun W hW => (kC W hW).mono fun e w' ⟨⟨v, he, hv⟩, hg⟩ => by
    obtain ⟨t, u, rfl⟩ := hv.any hp
    exact ⟨t, u, he, ⟨hv, hg.out⟩⟩⟩
   have HS := Aside0.mk hs
   clear kC st ce hcs hr0 hr1 hr3 hp hs hrp
   generalize chk (namesOK l0) (namesOK l1) l0.length l1.length a2 R = pr at KC ⊢
   go_enter Tryd.func25, Tryd.ntmps25
   go_wp2_with (first
    | (go_at_call 51; (with_reducible refine (KC.out _ ST.out).mono ?_); rintro e w1 ⟨t, u, rfl, t1⟩))
   (try rw [Exit.noGoto_ret])
   exact bodyPost_ret (v := .iface t u) (by simp [results, Tryd.results25, go_sem]) rfl ⟨_, rfl, t1.out.1, t1.out.2.low⟩
 · rw [if_pos hp]
   obtain ⟨q1, q2, q3, q4, q5, q6, q7⟩ := chk_ok hp
   have KC : Aside0 (∀ W, GS w cs W → Calls Tryd.prog 51 #[.agg #[.slice A0 l0.length c0, .slice A1 l1.length c1, .int .i64 a2, .slice A3 R.length c3]] W fun e w' => e = .returned .nilIface ∧ Aside0 (GS w cs w')) := ⟨fun W hW => (kC W hW).mono fun e w' ⟨⟨v, he, hv⟩, hg⟩ => by
    obtain rfl := hv.nil hp
    exact ⟨he, hg⟩⟩
   have z1 := names_small q4
   have kF : ∀ x ∈ l1, ∀ W, Calls Tryd.prog 59 #[.string x] W fun e w' => e = .returned (.bool (P.freeL x.data.toList)) ∧ Below W.heap.size W w' := fun x hx W =>
    (show_free.calls (x.size + 1) x _ W (free_f x (by have := z1 x hx; omega) _ (Nat.lt_succ_self _))).mono fun _ _ ⟨he, hd⟩ => ⟨he, hd.below⟩
   have HN : Aside0 (P.namesFree l1 ≠ true → rp = (10, -1)) := ⟨fun h => by rw [hrp, if_neg h]⟩
   have HF : Aside0 (P.namesFree l1 = true → P.formB l0 l1 a2 R ≠ true → rp = (13, -1)) := ⟨fun h h2 => by rw [hrp, if_pos h, if_neg h2]⟩
   have HO : Aside0 (P.namesFree l1 = true → P.formB l0 l1 a2 R = true → rp = (0, -1)) := ⟨fun h h2 => by rw [hrp, if_pos h, if_pos h2]⟩
   have kE : ∀ W, GS w cs W → W.cell? ⟨10, 0, none⟩ = some (.iface 178 (.pointer (some (ad 10)))) := fun W hW => sent_name (hs.below hW.low)
   have kG : ∀ W, GS w cs W → W.cell? ⟨12, 0, none⟩ = some (.iface 178 (.pointer (some (ad 13)))) := fun W hW => sent_form (hs.below hW.low)
   have hlen : R.length ≤ 120 := by omega
   have KF := Aside0.mk kF
   have KE := Aside0.mk kE
   have KG := Aside0.mk kG
   have HR1 := Aside0.mk hr1
   have HR3 := Aside0.mk hr3
   have HQ := Lib.hid (And.intro q1 (And.intro q2 (And.intro q5 (And.intro q6 q7))))
   clear kC st ce hcs hr0 hr1 hr3 hp hs hrp kF kE kG q1 q2 q3 q4 q5 q6 q7 z1
   go_enter Tryd.func25, Tryd.ntmps25
   go_wp2_with (first
    | (go_at_call 51; (with_reducible refine (KC.out _ ST.out).mono ?_); rintro e w1 ⟨rfl, t1⟩; obtain ⟨f0, f1, f2, f3⟩ := CE.out _ t1.out))
   go_loopw [5, 21] (fun _ i wr => ∃ k : Nat, k ≤ l1.length ∧ i = .int .i64 k ∧ Hid (∀ x ∈ l1.take k, P.freeL x.data.toList = true) ∧ Aside0 (GS w cs wr)) (fun _ i _ => l1.length - (intOf i).toNat)
   case atStart => exact ⟨0, Nat.zero_le _, rfl, Lib.hid (by simp), t1⟩
   case round =>
    clear t1 f0 f1 f2 f3
    obtain ⟨k, hk, rfl, hfr, tr⟩ := hrel
    by_cases hlt : k < l1.length
    · obtain ⟨ad1, rfl, hx⟩ := Kd.at_string (Kd.C_below HR1.out tr.out.low) (k : Int) (by omega) (by omega)
      rw [rdS, Int.toNat_natCast, getD_lt _ _ _ hlt] at hx
      have hcall := KF.out l1[k] (List.getElem_mem hlt)
      have hstep := fun h => Lib.hid (take_all hfr.out hlt h)
      have hbad : P.freeL l1[k].data.toList ≠ true → P.namesFree l1 ≠ true := fun h h2 => by
       unfold P.namesFree at h2
       exact h (List.all_eq_true.1 h2 _ (List.getElem_mem hlt))
      generalize l1[k] = x at hx hcall hstep hbad
      by_cases hf : P.freeL x.data.toList = true
      · rw [hf] at hcall
        have HC := Aside0.mk hcall
        have HST := Aside0.mk (hstep hf)
        clear hcall hstep hbad hf hfr
        go_wp2_with (first
         | (go_at_call 59; (with_reducible refine (HC.out _).mono ?_); rintro e w2 ⟨rfl, hb2⟩; have t2 := Aside0.mk (tr.out.more hb2); clear hb2))
        go_roundw
        case measure => simp [intOf]; omega
        case rel => exact ⟨k + 1, by omega, by go_num, HST.out, t2⟩
      · rw [eq_false_of_ne_true hf] at hcall
        have HBAD := Lib.hid (HN.out (hbad hf))
        have HC := Aside0.mk hcall
        clear hcall hstep hbad hf hfr
        go_wp2_with (first
         | (go_at_call 59; (with_reducible refine (HC.out _).mono ?_); rintro e w2 ⟨rfl, hb2⟩; have t2 := Aside0.mk (tr.out.more hb2); have he := KE.out _ t2.out; clear hb2))
        (try rw [Exit.noGoto_ret])
        exact bodyPost_ret (v := .iface 178 (.pointer (some (ad 10)))) (by simp [results, Tryd.results25, go_sem]) rfl ⟨_, rfl, by rw [HBAD.out]; exact ErrW.sent (by decide) (by decide), t2.out.low⟩
    · have hall : P.namesFree l1 = true := by
       unfold P.namesFree
       refine List.all_eq_true.2 ?_
       have h := hfr.out
       rwa [show k = l1.length from by omega, List.take_length] at h
      have HALL := Lib.hid hall
      clear hall hfr
      obtain rfl : k = l1.length := by omega
      have t3 := Aside0.mk (RS.start tr.out)
      obtain ⟨f0, f1, f2, f3⟩ := CE.out _ tr.out
      obtain ⟨g0, g1, g2, g3⟩ := CE.out _ t3.out.gs
      go_wp2_with fail
      clear f0 f1 f2 f3 g0 g1 g2 g3
      obtain ⟨b, hb⟩ : ∃ b, b = wr.heap.size := ⟨_, rfl⟩
      rw [← hb] at t3 ⊢
      clear hb
      go_loopw [10, 12, 33] (fun _ _ i wq => ∃ (k : Nat) (m n : Int), k ≤ R.length ∧ i = .int .i64 k ∧ Hid (P.riseL (P.leftsL (R.take k)) 0 = some m ∧ P.riseL (P.termsL (R.take k)) 0 = some n) ∧ Aside0 (RS w cs b m n wq)) (fun _ _ i _ => R.length - (intOf i).toNat)
      case atStart => exact ⟨0, 0, 0, Nat.zero_le _, rfl, Lib.hid ⟨rfl, rfl⟩, t3⟩
      case round =>
       clear t3 tr
       obtain ⟨k, m, n, hk, rfl, hr, tq⟩ := hrel
       have hbd := counts_le HQ.out.2.2.2.2 k hr.out.1 hr.out.2
       have h60 := HQ.out.1
       by_cases hlt : k < R.length
       · obtain ⟨ad3, A', c', e1, y0, y1, e4, e5⟩ := at_T52 HR3.out (k : Int) (by omega) (by omega)
         have hrd : rd_T52 R (k : Int) = R[k] := by rw [rdR_D, getD_lt R k _ hlt]
         rw [Int.toNat_natCast, hrd] at y0 y1
         rw [hrd] at e4 e5
         subst e1
         have c0' := (tq.out.gs.low.cell (World.block_lt_of_cell? w _ y0)).trans y0
         have c1' := (tq.out.gs.low.cell (World.block_lt_of_cell? w _ y1)).trans y1
         have hok := okR_sides (HQ.out.2.2.2.2 R[k] (List.getElem_mem hlt))
         have hls := lefts_succ hlt
         have hts := terms_succ hlt
         have hno := fun j => terms_none (j := j) hlt
         have hsl := tq.out.gs.lt
         generalize R[k] = x at y0 y1 e4 e5 c0' c1' hok hls hts hno
         have T1 := Aside0.mk (tq.out.alloc (.cells #[.int .i64 x.f0, .slice A' x.f1.length c'] 52))
         have B1 : Aside0 (Box wr.heap.size #[.int .i64 x.f0, .slice A' x.f1.length c'] 52 (wr.alloc (.cells #[.int .i64 x.f0, .slice A' x.f1.length c'] 52))) := ⟨Box.new _ _ _⟩
         have hbq : b + 1 < wr.heap.size := Box.in_ tq.out.b1
         have kR := rise0 T1.out x.f0 hbd.1 (by omega)
         have bx0 := Box.cell B1.out 0 _ rfl
         have HX := Aside0.mk e5
         have HOK := Aside0.mk hok
         have HBQ := Lib.hid hbq
         have HTS := Lib.hid hts
         have HNO := Lib.hid hno
         clear y0 y1 hsl e5 hts hno hbq
         by_cases hv : x.f0 ≤ m
         · have HL := Lib.hid (show P.riseL (P.leftsL (R.take (k + 1))) 0 = some (stepR x.f0 m) by rw [hls, rise_snoc _ hr.out.1, if_neg (by omega)])
           rw [decide_eq_true hv] at kR
           have KR := Aside0.mk kR
           have HBD := Lib.hid hbd
           clear kR hv hls hbd hok
           go_wp2_with (first
            | (go_at_call 67; (with_reducible refine KR.out.mono ?_); rintro e w4 ⟨rfl, t4⟩; have bx1 := Box.cell (t4.out.2 _ _ _ (by have := HBQ.out; omega) B1.out) 1 _ rfl))
           have t5 := Aside0.mk t4.out.1
           clear bx0 bx1 c0' c1' t4 T1 B1 KR
           go_loopw [12, 46] (fun _ j wz => ∃ (i : Nat) (n' : Int), i ≤ x.f1.length ∧ j = .int .i64 i ∧ Hid (P.riseL (P.termsL (R.take k) ++ (x.f1.take i).filter (fun s => decide (0 ≤ s))) 0 = some n') ∧ Aside0 (RS w cs b (stepR x.f0 m) n' wz)) (fun _ j _ => x.f1.length - (intOf j).toNat)
           case atStart => exact ⟨0, n, Nat.zero_le _, rfl, Lib.hid (by simpa using hr.out.2), t5⟩
           case round =>
            clear t5
            obtain ⟨i, n', hi, rfl, hri, tz⟩ := hrel
            have h32 := HOK.out.1
            have h60 := HQ.out.1
            have hbn := counts_le2 HQ.out.2.2.2.2 k i (fun s hs => (HOK.out.2.2.2 s hs).1) hri.out
            by_cases hlt2 : i < x.f1.length
            · obtain ⟨ad4, rfl, hy⟩ := Kd.at_int (Kd.C_below HX.out tz.out.gs.low) (i : Int) (by omega) (by omega)
              rw [Int.toNat_natCast, rd_D, getD_lt _ _ _ hlt2] at hy
              have hfy := filt_yes hlt2
              have hfn := filt_no hlt2
              generalize x.f1[i] = s at hy hfy hfn
              have kR := rise1 tz.out s hbn.1 (by omega)
              by_cases hs0 : 0 ≤ s
              · have d1 : decide (0 ≤ s) = true := decide_eq_true hs0
                have hsn := rise_snoc s hri.out
                have hf1 := hfy hs0
                rw [List.append_assoc, ← hf1] at hsn
                by_cases hs1 : s ≤ n'
                · rw [if_neg (by omega)] at hsn
                  rw [decide_eq_true hs1] at kR
                  have HSN := Lib.hid hsn
                  have KR := Aside0.mk kR
                  clear hsn kR hfy hfn hf1 hbn hs1 hri
                  go_wp2_with (first
                   | (go_at_call 67; (with_reducible refine KR.out.mono ?_); rintro e w6 ⟨rfl, t6⟩))
                  go_roundw
                  case measure => simp [intOf]; omega
                  case rel => exact ⟨i + 1, stepR s n', by omega, by go_num, HSN, ⟨t6.out.1⟩⟩
                · rw [if_pos (by omega)] at hsn
                  have HBAD := Lib.hid (HF.out HALL.out (form_no (.inr (.inr (by rw [HNO.out (i + 1) hsn]; exact fun h => by cases h)))))
                  rw [decide_eq_false hs1] at kR
                  have KR := Aside0.mk kR
                  clear hsn kR hfy hfn hf1 hbn hs1 hri
                  go_wp2_with (first
                   | (go_at_call 67; (with_reducible refine KR.out.mono ?_); rintro e w6 ⟨rfl, t6⟩; have he := KG.out _ t6.out.1.gs))
                  (try rw [Exit.noGoto_ret])
                  exact bodyPost_ret (v := .iface 178 (.pointer (some (ad 13)))) (by simp [results, Tryd.results25, go_sem]) rfl ⟨_, rfl, by rw [HBAD.out]; exact ErrW.sent (by decide) (by decide), t6.out.1.gs.low⟩
              · have d1 : decide (0 ≤ s) = false := decide_eq_false hs0
                have HFN := Lib.hid (hfn hs0)
                clear hfy hfn kR hbn
                go_wp2_with fail
                go_roundw
                case measure => simp [intOf]; omega
                case rel => exact ⟨i + 1, n', by omega, by go_num, Lib.hid (by rw [HFN.out]; exact hri.out), tz⟩
            · obtain rfl : i = x.f1.length := by omega
              have HTN := Lib.hid (show P.riseL (P.termsL (R.take (k + 1))) 0 = some n' by rw [HTS.out, ← List.take_length (l := x.f1)]; exact hri.out)
              clear hri hbn
              go_wp2_with fail
              go_roundw
              case measure => simp [intOf]; omega
              case rel => exact ⟨k + 1, stepR x.f0 m, n', by omega, by go_num, Lib.hid ⟨HL.out, HTN.out⟩, tz⟩
         · have hbad := rise_snoc x.f0 hr.out.1
           rw [if_pos (by omega), ← hls] at hbad
           have HBAD := Lib.hid (HF.out HALL.out (form_no (.inr (.inl (by rw [lefts_none (k + 1) hbad]; exact fun h => by cases h)))))
           rw [decide_eq_false hv] at kR
           have KR := Aside0.mk kR
           clear kR hv hls hbd hok hbad
           go_wp2_with (first
            | (go_at_call 67; (with_reducible refine KR.out.mono ?_); rintro e w4 ⟨rfl, t4⟩; have he := KG.out _ t4.out.1.gs))
           (try rw [Exit.noGoto_ret])
           exact bodyPost_ret (v := .iface 178 (.pointer (some (ad 13)))) (by simp [results, Tryd.results25, go_sem]) rfl ⟨_, rfl, by rw [HBAD.out]; exact ErrW.sent (by decide) (by decide), t4.out.1.gs.low⟩
       · obtain rfl : k = R.length := by omega
         have hr1 := hr.out.1
         have hr2 := hr.out.2
         rw [List.take_length] at hr1 hr2
         obtain ⟨f0, f1, f2, f3⟩ := CE.out _ tq.out.gs
         have fm := Box.cell tq.out.b0 0 _ rfl
         have fn := Box.cell tq.out.b1 0 _ rfl
         have he := KG.out _ tq.out.gs
         by_cases h0 : a2 = 0
         · subst h0
           by_cases h1 : m = (l1.length : Int)
           · have d1 : decide (m < (l1.length : Int)) = false := decide_eq_false (by omega)
             by_cases h2 : n = (l0.length : Int)
             · have d2 : decide (n < (l0.length : Int)) = false := decide_eq_false (by omega)
               have HOK := Lib.hid (HO.out HALL.out (form_yes rfl (h1 ▸ hr1) (h2 ▸ hr2)))
               clear h1 h2 hr1 hr2 hbd hr
               go_wp2_with fail
               (try rw [Exit.noGoto_ret])
               exact bodyPost_ret (v := .nilIface) (by simp [results, Tryd.results25, go_sem]) rfl ⟨_, rfl, by rw [HOK.out]; exact .inl ⟨rfl, rfl, rfl⟩, tq.out.gs.low⟩
             · have d2 : decide (n < (l0.length : Int)) = true := decide_eq_true (by omega)
               have HBAD := Lib.hid (HF.out HALL.out (form_no (.inr (.inr (by rw [hr2]; exact fun h => h2 (Option.some.inj h))))))
               clear h1 h2 hr1 hr2 hbd hr
               go_wp2_with fail
               (try rw [Exit.noGoto_ret])
               exact bodyPost_ret (v := .iface 178 (.pointer (some (ad 13)))) (by simp [results, Tryd.results25, go_sem]) rfl ⟨_, rfl, by rw [HBAD.out]; exact ErrW.sent (by decide) (by decide), tq.out.gs.low⟩
           · have d1 : decide (m < (l1.length : Int)) = true := decide_eq_true (by omega)
             have HBAD := Lib.hid (HF.out HALL.out (form_no (.inr (.inl (by rw [hr1]; exact fun h => h1 (Option.some.inj h))))))
             clear h1 hr1 hr2 hbd hr
             go_wp2_with fail
             (try rw [Exit.noGoto_ret])
             exact bodyPost_ret (v := .iface 178 (.pointer (some (ad 13)))) (by simp [results, Tryd.results25, go_sem]) rfl ⟨_, rfl, by rw [HBAD.out]; exact ErrW.sent (by decide) (by decide), tq.out.gs.low⟩
         · have d0 : decide (a2 = 0) = false := decide_eq_false h0
           have d0' : (a2 == 0) = false := beq_false_of_ne h0
           have d0'' : (a2 != 0) = true := by simp [bne, d0']
           have HBAD := Lib.hid (HF.out HALL.out (form_no (.inl h0)))
           clear h0 hr1 hr2 hbd hr
           go_wp2_with fail
           (try rw [Exit.noGoto_ret])
           exact bodyPost_ret (v := .iface 178 (.pointer (some (ad 13)))) (by simp [results, Tryd.results25, go_sem]) rfl ⟨_, rfl, by rw [HBAD.out]; exact ErrW.sent (by decide) (by decide), tq.out.gs.low⟩
end Go.Proofs.YthjhaogfpdkhbaaDoor.Sh
/- (*strings.Builder).Len; show.Text's memory. -/
namespace Go.Proofs.YthjhaogfpdkhbaaDoor.Sh
open Go.RowKit YthjhaogfpdkhbaaDoorW.PrintWords YthjhaogfpdkhbaaDoorW.PrintLast YthjhaogfpdkhbaaDoorW.PrintMore
open B H F

theorem BU_cell {B b : Nat} {l : List UInt8} {w : World} (h : BU B b l w) : ∃ a c, w.cell? ⟨b, 1, none⟩ = some (.slice a l.length c) := by
 obtain ⟨p, hB, v, hbk, hown, _⟩ : ∃ p, Lib.BuilderAt 103 5 B b p (Lib.byteCells l) w := by
  rcases h with h | h
  · exact ⟨_, h⟩
  · exact ⟨_, h⟩
 have hc : w.cell? ⟨b, 1, none⟩ = some v := by rw [Lib.cell_of_heap hbk]; rfl
 rw [Lib.byteCells_length] at hown
 obtain ⟨_, ⟨rfl, h0⟩ | ⟨g, cap, cur, rfl, _⟩⟩ := hown
 · exact ⟨none, 0, by rw [hc, h0]⟩
 · exact ⟨_, _, hc⟩
set_option maxHeartbeats 2000000 in
theorem wLen (B b : Nat) (l : List UInt8) (w : World) (h : BU B b l w) :
 Calls Tryd.prog 66 #[.pointer (some ⟨b, 0, none⟩)] w fun e w' => e = .returned (.int .i64 l.length) ∧ Below w.heap.size w w' := by
 obtain ⟨a, c, hc⟩ := BU_cell h
 clear h
 generalize l.length = n at hc ⊢
 go_enter Tryd.func66, Tryd.ntmps66
 go_wp2_with fail
 go_ret
 exact ⟨rfl, Below.refl _ _⟩
structure TS (w : World) (cs : Array Value) (t : Nat) (pre : List UInt8) (W : World) : Prop where
 gs : GS w cs W
 lt : w.heap.size < t
 bu : BU t t pre W
section
variable {w W W' : World} {cs : Array Value} {t : Nat} {pre pre' : List UInt8}
theorem TS.more (h : TS w cs t pre W) (hb : Below W.heap.size W W') : TS w cs t pre W' := ⟨h.gs.more hb, h.lt, BU_below h.bu hb⟩
theorem TS.alloc (h : TS w cs t pre W) (o : Obj) : TS w cs t pre (W.alloc o) := h.more ((Below.refl _ W).alloc (Nat.le_refl _) o)
theorem TS.write (h : TS w cs t pre W) (hu : BU t t pre' W') (hb : Below t W W') : TS w cs t pre' W' := ⟨h.gs.base t hb h.lt, h.lt, hu⟩
theorem TS.le (h : TS w cs t pre W) : t ≤ W.heap.size := Nat.le_of_lt (BU_lt h.bu)
theorem TS.start (h : GS w cs W) : TS w cs W.heap.size [] (W.alloc (.cells #[.pointer none, .slice none 0 0] 103)) :=
 ⟨h.more ((Below.refl _ W).alloc (Nat.le_refl _) _), h.lt, BU_new W⟩
end
theorem Box.kept {b t : Nat} {cs : Array Value} {T : TypeId} {W W' : World} (h : Box b cs T W) (hk : KeptX t W W') (hT : T ≠ 5) (hb : b ≠ t) : Box b cs T W' := hk b cs T _ h hT hb
theorem lastF_take {R : List S52} {k : Nat} (hk : k < R.length) : P.lastF none (R.take k) = if k = 0 then none else some (R.getD (k - 1) z52).f0 := by
 unfold P.lastF
 by_cases h : k = 0
 · subst h; rfl
 · rw [if_neg h, List.getLast?_take, if_neg h]
   rw [getD_lt R (k - 1) _ (by omega), List.getElem?_eq_getElem (show k - 1 < R.length by omega)]
   rfl
theorem alts_succ {l0 l1 : List ByteArray} {R : List S52} {k : Nat} (hk : k < R.length) : P.altsL l0 l1 none (R.take (k + 1)) = P.altsL l0 l1 none (R.take k) ++ P.altL l0 l1 (if k = 0 then none else some (R.getD (k - 1) z52).f0) R[k] := by
 rw [List.take_succ_eq_append_getElem hk, P.altsL_snoc, lastF_take hk]
end Go.Proofs.YthjhaogfpdkhbaaDoor.Sh
/- show.Text: the walk (printed by tools/mk_showu.py). -/
namespace Go.Proofs.YthjhaogfpdkhbaaDoor.Sh
open Go.RowKit YthjhaogfpdkhbaaDoorW.PrintWords YthjhaogfpdkhbaaDoorW.PrintLast YthjhaogfpdkhbaaDoorW.PrintMore
open B H F
section
variable {l0 l1 : List ByteArray} {x : S52} {p : Option Int} (pre : List UInt8)
theorem finA0 (h : p = some x.f0) (h0 : x.f1 = []) : pre ++ (⟨#[32, 124]⟩ : ByteArray).data.toList = pre ++ P.altL l0 l1 p x := by
 unfold P.altL; rw [if_pos h, h0]; rfl
theorem finA1 (h : p = some x.f0) (h0 : x.f1 ≠ []) : pre ++ (⟨#[32, 124]⟩ : ByteArray).data.toList ++ ((⟨#[32]⟩ : ByteArray) ++ (⟨(P.symsL l0 l1 x.f1).toArray⟩ : ByteArray)).data.toList = pre ++ P.altL l0 l1 p x := by
 unfold P.altL; rw [if_pos h, P.tlL_syms l0 l1 x.f1 h0, P.data_append]; simp [List.append_assoc]
theorem finC0 (h : p = none) (h0 : x.f1 = []) : pre ++ ((⟨(P.symL l0 l1 (-1 - x.f0)).toArray⟩ : ByteArray) ++ (⟨#[32, 58]⟩ : ByteArray)).data.toList = pre ++ P.altL l0 l1 p x := by
 subst h; unfold P.altL; rw [if_neg (by simp), if_pos rfl, h0, P.data_append]; simp [P.tlL]
theorem finC1 (h : p = none) (h0 : x.f1 ≠ []) : pre ++ ((⟨(P.symL l0 l1 (-1 - x.f0)).toArray⟩ : ByteArray) ++ (⟨#[32, 58]⟩ : ByteArray)).data.toList ++ ((⟨#[32]⟩ : ByteArray) ++ (⟨(P.symsL l0 l1 x.f1).toArray⟩ : ByteArray)).data.toList = pre ++ P.altL l0 l1 p x := by
 subst h; unfold P.altL; rw [if_neg (by simp), if_pos rfl, P.tlL_syms l0 l1 x.f1 h0, P.data_append, P.data_append]; simp [List.append_assoc]
theorem finB0 (h : p ≠ some x.f0) (hn : p ≠ none) (h0 : x.f1 = []) : pre ++ [UInt8.ofNat 10] ++ ((⟨(P.symL l0 l1 (-1 - x.f0)).toArray⟩ : ByteArray) ++ (⟨#[32, 58]⟩ : ByteArray)).data.toList = pre ++ P.altL l0 l1 p x := by
 unfold P.altL; rw [if_neg h, if_neg hn, h0, P.data_append]; simp [P.tlL]
theorem finB1 (h : p ≠ some x.f0) (hn : p ≠ none) (h0 : x.f1 ≠ []) : pre ++ [UInt8.ofNat 10] ++ ((⟨(P.symL l0 l1 (-1 - x.f0)).toArray⟩ : ByteArray) ++ (⟨#[32, 58]⟩ : ByteArray)).data.toList ++ ((⟨#[32]⟩ : ByteArray) ++ (⟨(P.symsL l0 l1 x.f1).toArray⟩ : ByteArray)).data.toList = pre ++ P.altL l0 l1 p x := by
 unfold P.altL; rw [if_neg h, if_neg hn, P.tlL_syms l0 l1 x.f1 h0, P.data_append, P.data_append]; simp [List.append_assoc]
end
set_option maxHeartbeats 4000000 in
set_option maxRecDepth 100000 in
theorem Text_calls (ad : Int → Addr) (A0 : Option Addr) (c0 : Nat) (l0 : List ByteArray) (A1 : Option Addr) (c1 : Nat) (l1 : List ByteArray) (a2 : Int) (A3 : Option Addr) (c3 : Nat) (R : List S52) (w : World) (hs : SentsK ad w) (hr0 : Kd.C Kd.string w A0 l0.length l0) (hc0 : l0.length ≤ c0) (hr1 : Kd.C Kd.string w A1 l1.length l1) (hc1 : l1.length ≤ c1) (hr3 : Kd.C k52 w A3 R.length R) (hc3 : R.length ≤ c3) :
 Calls Tryd.prog 23 #[.agg #[.slice A0 l0.length c0, .slice A1 l1.length c1, .int .i64 a2, .slice A3 R.length c3]] w fun e w' => ∃ E r, e = .returned (.tuple #[.string ⟨(textP l0 l1 a2 R).1.toArray⟩, E]) ∧ ErrW ad w' E ((textP l0 l1 a2 R).2, r) ∧ Below w.heap.size w w' := by
 have m0 := C_max hr0
 have m1 := C_max hr1
 obtain ⟨cs, hcs⟩ : ∃ cs : Array Value, cs = #[.slice A0 l0.length c0, .slice A1 l1.length c1, .int .i64 a2, .slice A3 R.length c3] := ⟨_, rfl⟩
 have st : GS w cs (w.alloc (.cells #[.slice A0 l0.length c0, .slice A1 l1.length c1, .int .i64 a2, .slice A3 R.length c3] 25)) := by subst hcs; exact GS.start w _
 have ce : ∀ W, GS w cs W → W.cell? ⟨w.heap.size, 0, none⟩ = some (.slice A0 l0.length c0) ∧ W.cell? ⟨w.heap.size, 1, none⟩ = some (.slice A1 l1.length c1) ∧ W.cell? ⟨w.heap.size, 2, none⟩ = some (.int .i64 a2) ∧ W.cell? ⟨w.heap.size, 3, none⟩ = some (.slice A3 R.length c3) := by
  intro W hW; subst hcs; exact hW.cells
 have kC : ∀ W, GS w cs W → Calls Tryd.prog 25 #[.agg #[.slice A0 l0.length c0, .slice A1 l1.length c1, .int .i64 a2, .slice A3 R.length c3]] W fun e w' => ∃ E, e = .returned E ∧ ErrW ad w' E (readP l0 l1 a2 R) ∧ Below W.heap.size W w' := fun W hW =>
  Readable_calls ad A0 c0 l0 A1 c1 l1 a2 A3 c3 R W (hs.below hW.low) (Kd.C_below hr0 hW.low) hc0 (Kd.C_below hr1 hW.low) hc1 (Kd.C_below hr3 hW.low) hc3
 have ST := Aside0.mk st
 have CE := Aside0.mk ce
 have HCS := Lib.hid hcs
 have hK := readP_K l0 l1 a2 R
 unfold textP
 by_cases hp : readK l0 l1 a2 R = 0
 rotate_left
 · rw [if_neg hp, ← hK]
   have KC : Aside0 (∀ W, GS w cs W → Calls Tryd.prog 25 #[.agg #[.slice A0 l0.length c0, .slice A1 l1.length c1, .int .i64 a2, .slice A3 R.length c3]] W fun e w' => ∃ t u, e = .returned (.iface t u) ∧ Aside0 (ErrW ad w' (.iface t u) (readP l0 l1 a2 R) ∧ GS w cs w')) := ⟨fun W hW => (kC W hW).mono fun e w' ⟨E, he, hv, hb⟩ => by
    obtain ⟨t, u, rfl⟩ := hv.any (by rw [hK]; exact hp)
    exact ⟨t, u, he, ⟨hv, hW.more hb⟩⟩⟩
   clear kC st ce hcs hr0 hr1 hr3 hp hs hK
   generalize readP l0 l1 a2 R = pr at KC ⊢
   go_enter Tryd.func23, Tryd.ntmps23
   go_wp2_with (first
    | (go_at_call 25; (with_reducible refine (KC.out _ ST.out).mono ?_); rintro e w1 ⟨t, u, rfl, t1⟩))
   (try rw [Exit.noGoto_ret])
   exact bodyPost_ret (v := .tuple #[.string ⟨#[]⟩, .iface t u]) (by simp [results, Tryd.results23, go_sem]) rfl ⟨_, _, rfl, t1.out.1, t1.out.2.low⟩
 · rw [if_pos hp]
   have hrd := read_ok hp
   have KC : Aside0 (∀ W, GS w cs W → Calls Tryd.prog 25 #[.agg #[.slice A0 l0.length c0, .slice A1 l1.length c1, .int .i64 a2, .slice A3 R.length c3]] W fun e w' => e = .returned .nilIface ∧ Aside0 (GS w cs w')) := ⟨fun W hW => (kC W hW).mono fun e w' ⟨E, he, hv, hb⟩ => by
    obtain rfl := hv.nil (by rw [hK]; exact hp)
    exact ⟨he, ⟨hW.more hb⟩⟩⟩
   have kG : ∀ W, GS w cs W → W.cell? ⟨0, 0, none⟩ = some (.iface 178 (.pointer (some (ad 12)))) := fun W hW => sent_long (hs.below hW.low)
   have z0 := hrd.z0
   have z1 := hrd.z1
   have hrules := hrd.rules
   have hlen := hrd.len
   have kS : ∀ x ∈ R, ∀ W, GS w cs W → Calls Tryd.prog 19 #[.agg #[.slice A0 l0.length c0, .slice A1 l1.length c1, .int .i64 a2, .slice A3 R.length c3], .int .i64 (-1 - x.f0)] W fun e w' => e = .returned (.string ⟨(P.symL l0 l1 (-1 - x.f0)).toArray⟩) ∧ Below W.heap.size W w' := fun x hx W hW => by
    have hxo := okR_sides (hrd.ok x hx)
    exact Symbol_calls A0 c0 l0 A1 c1 l1 a2 A3 c3 R _ 32 W (Kd.C_below hr0 hW.low) hc0 (Kd.C_below hr1 hW.low) hc1 (Kd.C_below hr3 hW.low) hc3 (by omega) z0 z1 (by omega) (by omega)
   have kY : ∀ x ∈ R, ∀ A' c', Kd.C (Kd.int .i64) w A' x.f1.length x.f1 → x.f1.length ≤ c' → ∀ W, GS w cs W → Calls Tryd.prog 21 #[.agg #[.slice A0 l0.length c0, .slice A1 l1.length c1, .int .i64 a2, .slice A3 R.length c3], .slice A' x.f1.length c'] W fun e w' => e = .returned (.string ⟨(P.symsL l0 l1 x.f1).toArray⟩) ∧ Below W.heap.size W w' := fun x hx A' c' h1 h2 W hW => by
    have hxo := okR_sides (hrd.ok x hx)
    exact Symbols_calls A0 c0 l0 A1 c1 l1 a2 A3 c3 R A' c' x.f1 32 W (Kd.C_below hr0 hW.low) hc0 (Kd.C_below hr1 hW.low) hc1 (Kd.C_below hr3 hW.low) hc3 (Kd.C_below h1 hW.low) h2 (by omega) z0 z1 (by have := Nat.mul_le_mul_left (4 * 32 + 5) hxo.1; omega) (fun s hs => by have := hxo.2.2.2 s hs; omega)
   have KG := Aside0.mk kG
   have KSA := Aside0.mk kS
   have KYA := Aside0.mk kY
   have HR3 := Aside0.mk hr3
   have HRD := Aside0.mk hrd
   clear kC st ce hcs hr0 hr1 hr3 hp hs hK kG kS kY z0 z1 hrd
   obtain ⟨tx, htx⟩ : ∃ tx : List UInt8 × Int, tx = (if 1048576 < (P.textL l0 l1 R).length then ([], 12) else (P.textL l0 l1 R, 0)) := ⟨_, rfl⟩
   rw [← htx]
   have HTX := Lib.hid htx
   clear htx
   go_enter Tryd.func23, Tryd.ntmps23
   go_wp2_with (first
    | (go_at_call 25; (with_reducible refine (KC.out _ ST.out).mono ?_); rintro e w1 ⟨rfl, t1⟩; have t3 := Aside0.mk (TS.start t1.out); obtain ⟨f0, f1, f2, f3⟩ := CE.out _ t3.out.gs))
   clear f0 f1 f2 f3
   obtain ⟨t, ht⟩ : ∃ t, t = w1.heap.size := ⟨_, rfl⟩
   rw [← ht] at t3 ⊢
   clear ht
   go_loopw [6, 7, 16] (fun _ _ i wq => ∃ k : Nat, k ≤ R.length ∧ i = .int .i64 k ∧ Aside0 (TS w cs t (P.altsL l0 l1 none (R.take k)) wq)) (fun _ _ i _ => R.length - (intOf i).toNat)
   case atStart => exact ⟨0, Nat.zero_le _, rfl, t3⟩
   case round =>
    clear t3 t1
    obtain ⟨k, hk, rfl, tr⟩ := hrel
    by_cases hlt : k < R.length
    · have hmem := List.getElem_mem hlt
      obtain ⟨ad3, A', c', e1, y0, y1, e4, e5⟩ := at_T52 HR3.out (k : Int) (by omega) (by omega)
      have hrd : rd_T52 R (k : Int) = R[k] := by rw [rdR_D, getD_lt R k _ hlt]
      rw [Int.toNat_natCast, hrd] at y0 y1
      rw [hrd] at e4 e5
      have hal := alts_succ (l0 := l0) (l1 := l1) hlt
      have hpl := alt_len HRD.out (R.take k) none (fun x hx => List.mem_of_mem_take hx)
      have hpl2 : (P.altsL l0 l1 none (R.take k)).length ≤ 534600 := by rw [List.length_take, Nat.min_eq_left hk] at hpl; omega
      have hok := okR_sides (HRD.out.ok _ hmem)
      have kS := KSA.out _ hmem
      have kY := KYA.out _ hmem A' c' e5 e4
      have hsl := P.symL_length HRD.out.z0 HRD.out.z1 (-1 - R[k].f0)
      have htl := P.symsL_length HRD.out.z0 HRD.out.z1 R[k].f1
      have htl2 := Nat.mul_le_mul_left (4 * 32 + 5) hok.1
      have hprev : ∀ j : Nat, j + 1 = k → ∃ v : Int, (if k = 0 then none else some (R.getD (k - 1) z52).f0) = some v ∧ ∀ W, GS w cs W → ∀ ad, A3 = some ad → W.cell? (ad.add (j * 2)) = some (.int .i64 v) := by
       intro j hj
       refine ⟨(R.getD (k - 1) z52).f0, by rw [if_neg (by omega)], fun W hW ad ha => ?_⟩
       obtain ⟨ad', _, _, e1', y0', _⟩ := at_T52 (Kd.C_below HR3.out hW.low) (j : Int) (by omega) (by omega)
       rw [Int.toNat_natCast, rdR_D] at y0'
       obtain rfl : ad' = ad := Option.some.inj (e1'.symm.trans ha)
       rw [show k - 1 = j by omega]; exact y0'
      have hfirst : k = 0 → (if k = 0 then none else some (R.getD (k - 1) z52).f0) = none := fun h => if_pos h
      generalize (if k = 0 then none else some (R.getD (k - 1) z52).f0) = p at hal hprev hfirst
      generalize R[k] = x at *
      subst e1
      have c0' := (tr.out.gs.low.cell (World.block_lt_of_cell? w _ y0)).trans y0
      have c1' := (tr.out.gs.low.cell (World.block_lt_of_cell? w _ y1)).trans y1
      have T1 := Aside0.mk (tr.out.alloc (.cells #[.int .i64 x.f0, .slice A' x.f1.length c'] 52))
      have B1 : Aside0 (Box wr.heap.size #[.int .i64 x.f0, .slice A' x.f1.length c'] 52 (wr.alloc (.cells #[.int .i64 x.f0, .slice A' x.f1.length c'] 52))) := ⟨Box.new _ _ _⟩
      have HNE := Lib.hid (show t < wr.heap.size from BU_lt tr.out.bu)
      have hw1 : wrap64 ((-1) - x.f0) = -1 - x.f0 := w64m x.f0 (by omega) (by omega)
      have hfinA0 := fun h h0 => (finA0 (l0 := l0) (l1 := l1) (x := x) (p := p) (P.altsL l0 l1 none (R.take k)) h h0).trans hal.symm
      have hfinA1 := fun h h0 => (finA1 (l0 := l0) (l1 := l1) (x := x) (p := p) (P.altsL l0 l1 none (R.take k)) h h0).trans hal.symm
      have hfinB0 := fun h hn h0 => (finB0 (l0 := l0) (l1 := l1) (x := x) (p := p) (P.altsL l0 l1 none (R.take k)) h hn h0).trans hal.symm
      have hfinB1 := fun h hn h0 => (finB1 (l0 := l0) (l1 := l1) (x := x) (p := p) (P.altsL l0 l1 none (R.take k)) h hn h0).trans hal.symm
      have hfinC0 := fun h h0 => (finC0 (l0 := l0) (l1 := l1) (x := x) (p := p) (P.altsL l0 l1 none (R.take k)) h h0).trans hal.symm
      have hfinC1 := fun h h0 => (finC1 (l0 := l0) (l1 := l1) (x := x) (p := p) (P.altsL l0 l1 none (R.take k)) h h0).trans hal.symm
      have hS1 : (⟨(P.symL l0 l1 (-1 - x.f0)).toArray⟩ : ByteArray).size ≤ 132 := by rw [P.size_lit]; omega
      have hY1 : (⟨(P.symsL l0 l1 x.f1).toArray⟩ : ByteArray).size ≤ 4256 := by rw [P.size_lit]; omega
      generalize (⟨(P.symL l0 l1 (-1 - x.f0)).toArray⟩ : ByteArray) = qs at kS hS1 hfinB0 hfinB1 hfinC0 hfinC1
      generalize (⟨(P.symsL l0 l1 x.f1).toArray⟩ : ByteArray) = qy at kY hY1 hfinA1 hfinB1 hfinC1
      have hsz : (⟨#[32, 124]⟩ : ByteArray).size ≤ 5000 ∧ (qs ++ (⟨#[32, 58]⟩ : ByteArray)).size ≤ 5000 ∧ ((⟨#[32]⟩ : ByteArray) ++ qy).size ≤ 5000 := by
       refine ⟨by decide, ?_, ?_⟩
       · rw [ByteArray.size_append]; exact Nat.le_trans (Nat.add_le_add hS1 (show (⟨#[32, 58]⟩ : ByteArray).size ≤ 2 by decide)) (by omega)
       · rw [ByteArray.size_append]; exact Nat.le_trans (Nat.add_le_add (show (⟨#[32]⟩ : ByteArray).size ≤ 1 by decide) hY1) (by omega)
      have HSZ := Lib.hid hsz
      have HPL := Lib.hid hpl2
      have KS := Aside0.mk kS
      have KY := Aside0.mk kY
      have HOK := Aside0.mk hok
      have b1 : ¬ 9223372036854775807 < qs.size + 2 := by omega
      have b2 : ¬ 9223372036854775807 < 1 + qy.size := by omega
      obtain ⟨f0, f1, f2, f3⟩ := CE.out _ T1.out.gs
      have z0 := Box.cell B1.out 0 _ rfl
      have z1 := Box.cell B1.out 1 _ rfl
      clear y0 y1 hal hpl hpl2 kS kY hsl htl htl2 hS1 hY1 hsz hok hmem e5 hrd
      by_cases he0 : x.f1 = []
      · have hl0 : x.f1.length = 0 := by rw [he0]; rfl
        have d4 : decide (0 < (x.f1.length : Int)) = false := decide_eq_false (by omega)
        have d5 : decide (0 < x.f1.length) = false := decide_eq_false (by omega)
        clear hl0
        by_cases hk0 : k = 0
        · have HFIN := Lib.hid (hfinC0 (hfirst hk0) he0 : P.altsL l0 l1 none (R.take k) ++ (qs ++ (⟨#[32, 58]⟩ : ByteArray)).data.toList = P.altsL l0 l1 none (R.take (k + 1)))
          have hkd : decide (0 < (k : Int)) = false := decide_eq_false (by omega)
          have hkd' : decide (0 < k) = false := decide_eq_false (by omega)
          clear hfinA0 hfinA1 hfinB0 hfinB1 hfinC0 hfinC1 hprev hfirst he0 hk0
          have HBB := Aside0.mk (And.intro b1 (And.intro b2 (And.intro hw1 (And.intro d4 d5))))
          clear b1 b2 hw1 d4 d5
          go_wp2_with fail
          go_quiet (fail)
          obtain ⟨b1, b2, hw1, d4, d5⟩ := HBB.out
          clear HBB
          clear f0 f1 f2 f3 z0 z1
          have T9 := Aside0.mk (T1.out.more (pw_below_drewN (Below.refl _ _) nq))
          have B9 := Aside0.mk (Box.below B1.out (pw_below_drewN (Below.refl _ _) nq))
          clear T1 B1 c0' c1'
          obtain ⟨wz, hz⟩ : ∃ wz, wz = (wr.alloc (.cells #[.int .i64 x.f0, .slice A' x.f1.length c'] 52)).drewN nq := ⟨_, rfl⟩
          rw [← hz] at T9 B9 ⊢
          clear hz
          obtain ⟨f0, f1, f2, f3⟩ := CE.out _ T9.out.gs
          have z0 := Box.cell B9.out 0 _ rfl
          have z1 := Box.cell B9.out 1 _ rfl
          go_wp2_with (first
           | (go_at_call 19; (with_reducible refine (KS.out _ T9.out.gs).mono ?_); rintro e w3 ⟨rfl, hb3⟩; have t3 := Aside0.mk (T9.out.more hb3); have B3 := Aside0.mk (Box.below B9.out hb3); clear hb3)
           | (go_at_call 64; refine Aside0.out ?_))
          clear f0 f1 f2 f3 z0 z1
          refine Aside0.mk ?_
          refine (wStr t t _ _ _ t3.out.bu (by have h := HPL.out; have h2 : (qs ++ (⟨#[32, 58]⟩ : ByteArray)).size ≤ 5000 := HSZ.out.2.1; have h3 : (qs ++ (⟨#[32, 58]⟩ : ByteArray)).data.toList.length ≤ 5000 := HSZ.out.2.1; have h4 : (⟨#[32, 124]⟩ : ByteArray).data.toList.length ≤ 5000 := HSZ.out.1; (try simp only [List.length_append, List.length_singleton] at h3 h4 ⊢); (try have h5 : (#[32, 124] : Array UInt8).toList.length ≤ 5000 := by decide); omega) (by have := t3.out.le; omega)).mono ?_
          rintro e w4 ⟨rfl, hb, hw, hkx⟩
          have t4 : Aside0 (TS w cs t (P.altsL l0 l1 none (R.take k) ++ (qs ++ (⟨#[32, 58]⟩ : ByteArray)).data.toList) w4) := ⟨t3.out.write hb hw⟩
          have B4 := Aside0.mk (Box.kept B3.out hkx (by decide) (by have := HNE.out; omega))
          clear hb hw hkx
          obtain ⟨f0, f1, f2, f3⟩ := CE.out _ t4.out.gs
          have z0 := Box.cell B4.out 0 _ rfl
          have z1 := Box.cell B4.out 1 _ rfl
          go_wp2_with fail
          go_roundw
          case measure => simp [intOf]; omega
          case rel => exact ⟨k + 1, by omega, by go_num, ⟨HFIN.out ▸ t4.out⟩⟩
        · obtain ⟨j, hj⟩ : ∃ j : Nat, j + 1 = k := ⟨k - 1, by omega⟩
          obtain ⟨v, hpv, hcell⟩ := hprev j hj
          have y2 := hcell _ T1.out.gs ad3 rfl
          have hkd : decide (0 < (k : Int)) = true := decide_eq_true (by omega)
          have hkd' : decide (0 < k) = true := decide_eq_true (by omega)
          have hkj : (k : Int) - 1 = (j : Int) := by omega
          have hdj : decide ((j : Int) < (R.length : Int)) = true := decide_eq_true (by omega)
          have hdj' : decide (j < R.length) = true := decide_eq_true (by omega)
          have hjl : (j : Int) < (R.length : Int) := by omega
          have hj0 : (0 : Int) ≤ (j : Int) := by omega
          by_cases hv : v = x.f0
          · have HFIN := Lib.hid (hfinA0 (by rw [hpv, hv]) he0 : P.altsL l0 l1 none (R.take k) ++ (⟨#[32, 124]⟩ : ByteArray).data.toList = P.altsL l0 l1 none (R.take (k + 1)))
            subst hv
            clear hfinA0 hfinA1 hfinB0 hfinB1 hfinC0 hfinC1 hprev hfirst he0 hk0 hj hpv hcell
            have HBB := Aside0.mk (And.intro b1 (And.intro b2 (And.intro hw1 (And.intro d4 d5))))
            clear b1 b2 hw1 d4 d5
            go_wp2_with fail
            go_quiet (fail)
            clear hkj hdj hdj' hjl hj0 y2
            obtain ⟨b1, b2, hw1, d4, d5⟩ := HBB.out
            clear HBB
            clear f0 f1 f2 f3 z0 z1
            have T9 := Aside0.mk (T1.out.more (pw_below_drewN (Below.refl _ _) nq))
            have B9 := Aside0.mk (Box.below B1.out (pw_below_drewN (Below.refl _ _) nq))
            clear T1 B1 c0' c1'
            obtain ⟨wz, hz⟩ : ∃ wz, wz = (wr.alloc (.cells #[.int .i64 x.f0, .slice A' x.f1.length c'] 52)).drewN nq := ⟨_, rfl⟩
            rw [← hz] at T9 B9 ⊢
            clear hz
            obtain ⟨f0, f1, f2, f3⟩ := CE.out _ T9.out.gs
            have z0 := Box.cell B9.out 0 _ rfl
            have z1 := Box.cell B9.out 1 _ rfl
            go_wp2_with (first
             | (go_at_call 64; refine Aside0.out ?_))
            clear f0 f1 f2 f3 z0 z1
            refine Aside0.mk ?_
            refine (wStr t t _ _ _ T9.out.bu (by have h := HPL.out; have h2 : (⟨#[32, 124]⟩ : ByteArray).size ≤ 5000 := HSZ.out.1; have h3 : (qs ++ (⟨#[32, 58]⟩ : ByteArray)).data.toList.length ≤ 5000 := HSZ.out.2.1; have h4 : (⟨#[32, 124]⟩ : ByteArray).data.toList.length ≤ 5000 := HSZ.out.1; (try simp only [List.length_append, List.length_singleton] at h3 h4 ⊢); (try have h5 : (#[32, 124] : Array UInt8).toList.length ≤ 5000 := by decide); omega) (by have := T9.out.le; omega)).mono ?_
            rintro e w2 ⟨rfl, hb, hw, hkx⟩
            have t2 : Aside0 (TS w cs t (P.altsL l0 l1 none (R.take k) ++ (⟨#[32, 124]⟩ : ByteArray).data.toList) w2) := ⟨T9.out.write hb hw⟩
            have B2 := Aside0.mk (Box.kept B9.out hkx (by decide) (by have := HNE.out; omega))
            clear hb hw hkx
            obtain ⟨f0, f1, f2, f3⟩ := CE.out _ t2.out.gs
            have z0 := Box.cell B2.out 0 _ rfl
            have z1 := Box.cell B2.out 1 _ rfl
            go_wp2_with fail
            go_roundw
            case measure => simp [intOf]; omega
            case rel => exact ⟨k + 1, by omega, by go_num, ⟨HFIN.out ▸ t2.out⟩⟩
          · have HFIN := Lib.hid (hfinB0 (by rw [hpv]; exact fun h => hv (Option.some.inj h)) (by rw [hpv]; exact fun h => by cases h) he0 : P.altsL l0 l1 none (R.take k) ++ [UInt8.ofNat 10] ++ (qs ++ (⟨#[32, 58]⟩ : ByteArray)).data.toList = P.altsL l0 l1 none (R.take (k + 1)))
            have dv : decide (v = x.f0) = false := decide_eq_false hv
            have dv' : (v == x.f0) = false := beq_false_of_ne hv
            clear hfinA0 hfinA1 hfinB0 hfinB1 hfinC0 hfinC1 hprev hfirst he0 hk0 hj hpv hcell
            have HBB := Aside0.mk (And.intro b1 (And.intro b2 (And.intro hw1 (And.intro d4 d5))))
            clear b1 b2 hw1 d4 d5
            go_wp2_with fail
            go_quiet (fail)
            clear hkj hdj hdj' hjl hj0 y2
            obtain ⟨b1, b2, hw1, d4, d5⟩ := HBB.out
            clear HBB
            clear f0 f1 f2 f3 z0 z1
            have T9 := Aside0.mk (T1.out.more (pw_below_drewN (Below.refl _ _) nq))
            have B9 := Aside0.mk (Box.below B1.out (pw_below_drewN (Below.refl _ _) nq))
            clear T1 B1 c0' c1'
            obtain ⟨wz, hz⟩ : ∃ wz, wz = (wr.alloc (.cells #[.int .i64 x.f0, .slice A' x.f1.length c'] 52)).drewN nq := ⟨_, rfl⟩
            rw [← hz] at T9 B9 ⊢
            clear hz
            obtain ⟨f0, f1, f2, f3⟩ := CE.out _ T9.out.gs
            have z0 := Box.cell B9.out 0 _ rfl
            have z1 := Box.cell B9.out 1 _ rfl
            go_wp2_with (first
             | (go_at_call 63; refine Aside0.out ?_))
            clear f0 f1 f2 f3 z0 z1
            refine Aside0.mk ?_
            refine (wByteN t t _ 10 (by omega) _ T9.out.bu (by have h := HPL.out; omega) (by have := T9.out.le; omega)).mono ?_
            rintro e w2 ⟨rfl, hb, hw, hkx⟩
            have t2 : Aside0 (TS w cs t (P.altsL l0 l1 none (R.take k) ++ [UInt8.ofNat 10]) w2) := ⟨T9.out.write hb hw⟩
            have B2 := Aside0.mk (Box.kept B9.out hkx (by decide) (by have := HNE.out; omega))
            clear hb hw hkx
            obtain ⟨f0, f1, f2, f3⟩ := CE.out _ t2.out.gs
            have z0 := Box.cell B2.out 0 _ rfl
            have z1 := Box.cell B2.out 1 _ rfl
            go_wp2_with (first
             | (go_at_call 19; (with_reducible refine (KS.out _ t2.out.gs).mono ?_); rintro e w3 ⟨rfl, hb3⟩; have t3 := Aside0.mk (t2.out.more hb3); have B3 := Aside0.mk (Box.below B2.out hb3); clear hb3)
             | (go_at_call 64; refine Aside0.out ?_))
            clear f0 f1 f2 f3 z0 z1
            refine Aside0.mk ?_
            refine (wStr t t _ _ _ t3.out.bu (by have h := HPL.out; have h2 : (qs ++ (⟨#[32, 58]⟩ : ByteArray)).size ≤ 5000 := HSZ.out.2.1; have h3 : (qs ++ (⟨#[32, 58]⟩ : ByteArray)).data.toList.length ≤ 5000 := HSZ.out.2.1; have h4 : (⟨#[32, 124]⟩ : ByteArray).data.toList.length ≤ 5000 := HSZ.out.1; (try simp only [List.length_append, List.length_singleton] at h3 h4 ⊢); (try have h5 : (#[32, 124] : Array UInt8).toList.length ≤ 5000 := by decide); omega) (by have := t3.out.le; omega)).mono ?_
            rintro e w4 ⟨rfl, hb, hw, hkx⟩
            have t4 : Aside0 (TS w cs t (P.altsL l0 l1 none (R.take k) ++ [UInt8.ofNat 10] ++ (qs ++ (⟨#[32, 58]⟩ : ByteArray)).data.toList) w4) := ⟨t3.out.write hb hw⟩
            have B4 := Aside0.mk (Box.kept B3.out hkx (by decide) (by have := HNE.out; omega))
            clear hb hw hkx
            obtain ⟨f0, f1, f2, f3⟩ := CE.out _ t4.out.gs
            have z0 := Box.cell B4.out 0 _ rfl
            have z1 := Box.cell B4.out 1 _ rfl
            go_wp2_with fail
            go_roundw
            case measure => simp [intOf]; omega
            case rel => exact ⟨k + 1, by omega, by go_num, ⟨HFIN.out ▸ t4.out⟩⟩
      · have hl0 : 0 < x.f1.length := List.length_pos_iff.2 he0
        have d4 : decide (0 < (x.f1.length : Int)) = true := decide_eq_true (by omega)
        have d5 : decide (0 < x.f1.length) = true := decide_eq_true hl0
        clear hl0
        by_cases hk0 : k = 0
        · have HFIN := Lib.hid (hfinC1 (hfirst hk0) he0 : P.altsL l0 l1 none (R.take k) ++ (qs ++ (⟨#[32, 58]⟩ : ByteArray)).data.toList ++ ((⟨#[32]⟩ : ByteArray) ++ qy).data.toList = P.altsL l0 l1 none (R.take (k + 1)))
          have hkd : decide (0 < (k : Int)) = false := decide_eq_false (by omega)
          have hkd' : decide (0 < k) = false := decide_eq_false (by omega)
          clear hfinA0 hfinA1 hfinB0 hfinB1 hfinC0 hfinC1 hprev hfirst he0 hk0
          have HBB := Aside0.mk (And.intro b1 (And.intro b2 (And.intro hw1 (And.intro d4 d5))))
          clear b1 b2 hw1 d4 d5
          go_wp2_with fail
          go_quiet (fail)
          obtain ⟨b1, b2, hw1, d4, d5⟩ := HBB.out
          clear HBB
          clear f0 f1 f2 f3 z0 z1
          have T9 := Aside0.mk (T1.out.more (pw_below_drewN (Below.refl _ _) nq))
          have B9 := Aside0.mk (Box.below B1.out (pw_below_drewN (Below.refl _ _) nq))
          clear T1 B1 c0' c1'
          obtain ⟨wz, hz⟩ : ∃ wz, wz = (wr.alloc (.cells #[.int .i64 x.f0, .slice A' x.f1.length c'] 52)).drewN nq := ⟨_, rfl⟩
          rw [← hz] at T9 B9 ⊢
          clear hz
          obtain ⟨f0, f1, f2, f3⟩ := CE.out _ T9.out.gs
          have z0 := Box.cell B9.out 0 _ rfl
          have z1 := Box.cell B9.out 1 _ rfl
          go_wp2_with (first
           | (go_at_call 19; (with_reducible refine (KS.out _ T9.out.gs).mono ?_); rintro e w3 ⟨rfl, hb3⟩; have t3 := Aside0.mk (T9.out.more hb3); have B3 := Aside0.mk (Box.below B9.out hb3); clear hb3)
           | (go_at_call 64; refine Aside0.out ?_))
          clear f0 f1 f2 f3 z0 z1
          refine Aside0.mk ?_
          refine (wStr t t _ _ _ t3.out.bu (by have h := HPL.out; have h2 : (qs ++ (⟨#[32, 58]⟩ : ByteArray)).size ≤ 5000 := HSZ.out.2.1; have h3 : (qs ++ (⟨#[32, 58]⟩ : ByteArray)).data.toList.length ≤ 5000 := HSZ.out.2.1; have h4 : (⟨#[32, 124]⟩ : ByteArray).data.toList.length ≤ 5000 := HSZ.out.1; (try simp only [List.length_append, List.length_singleton] at h3 h4 ⊢); (try have h5 : (#[32, 124] : Array UInt8).toList.length ≤ 5000 := by decide); omega) (by have := t3.out.le; omega)).mono ?_
          rintro e w4 ⟨rfl, hb, hw, hkx⟩
          have t4 : Aside0 (TS w cs t (P.altsL l0 l1 none (R.take k) ++ (qs ++ (⟨#[32, 58]⟩ : ByteArray)).data.toList) w4) := ⟨t3.out.write hb hw⟩
          have B4 := Aside0.mk (Box.kept B3.out hkx (by decide) (by have := HNE.out; omega))
          clear hb hw hkx
          obtain ⟨f0, f1, f2, f3⟩ := CE.out _ t4.out.gs
          have z0 := Box.cell B4.out 0 _ rfl
          have z1 := Box.cell B4.out 1 _ rfl
          go_wp2_with (first
           | (go_at_call 21; (with_reducible refine (KY.out _ t4.out.gs).mono ?_); rintro e w5 ⟨rfl, hb5⟩; have t5 := Aside0.mk (t4.out.more hb5); have B5 := Aside0.mk (Box.below B4.out hb5); clear hb5)
           | (go_at_call 64; refine Aside0.out ?_))
          clear f0 f1 f2 f3 z0 z1
          refine Aside0.mk ?_
          refine (wStr t t _ _ _ t5.out.bu (by have h := HPL.out; have h2 : ((⟨#[32]⟩ : ByteArray) ++ qy).size ≤ 5000 := HSZ.out.2.2; have h3 : (qs ++ (⟨#[32, 58]⟩ : ByteArray)).data.toList.length ≤ 5000 := HSZ.out.2.1; have h4 : (⟨#[32, 124]⟩ : ByteArray).data.toList.length ≤ 5000 := HSZ.out.1; (try simp only [List.length_append, List.length_singleton] at h3 h4 ⊢); (try have h5 : (#[32, 124] : Array UInt8).toList.length ≤ 5000 := by decide); omega) (by have := t5.out.le; omega)).mono ?_
          rintro e w6 ⟨rfl, hb, hw, hkx⟩
          have t6 : Aside0 (TS w cs t (P.altsL l0 l1 none (R.take k) ++ (qs ++ (⟨#[32, 58]⟩ : ByteArray)).data.toList ++ ((⟨#[32]⟩ : ByteArray) ++ qy).data.toList) w6) := ⟨t5.out.write hb hw⟩
          have B6 := Aside0.mk (Box.kept B5.out hkx (by decide) (by have := HNE.out; omega))
          clear hb hw hkx
          obtain ⟨f0, f1, f2, f3⟩ := CE.out _ t6.out.gs
          have z0 := Box.cell B6.out 0 _ rfl
          have z1 := Box.cell B6.out 1 _ rfl
          go_wp2_with fail
          go_roundw
          case measure => simp [intOf]; omega
          case rel => exact ⟨k + 1, by omega, by go_num, ⟨HFIN.out ▸ t6.out⟩⟩
        · obtain ⟨j, hj⟩ : ∃ j : Nat, j + 1 = k := ⟨k - 1, by omega⟩
          obtain ⟨v, hpv, hcell⟩ := hprev j hj
          have y2 := hcell _ T1.out.gs ad3 rfl
          have hkd : decide (0 < (k : Int)) = true := decide_eq_true (by omega)
          have hkd' : decide (0 < k) = true := decide_eq_true (by omega)
          have hkj : (k : Int) - 1 = (j : Int) := by omega
          have hdj : decide ((j : Int) < (R.length : Int)) = true := decide_eq_true (by omega)
          have hdj' : decide (j < R.length) = true := decide_eq_true (by omega)
          have hjl : (j : Int) < (R.length : Int) := by omega
          have hj0 : (0 : Int) ≤ (j : Int) := by omega
          by_cases hv : v = x.f0
          · have HFIN := Lib.hid (hfinA1 (by rw [hpv, hv]) he0 : P.altsL l0 l1 none (R.take k) ++ (⟨#[32, 124]⟩ : ByteArray).data.toList ++ ((⟨#[32]⟩ : ByteArray) ++ qy).data.toList = P.altsL l0 l1 none (R.take (k + 1)))
            subst hv
            clear hfinA0 hfinA1 hfinB0 hfinB1 hfinC0 hfinC1 hprev hfirst he0 hk0 hj hpv hcell
            have HBB := Aside0.mk (And.intro b1 (And.intro b2 (And.intro hw1 (And.intro d4 d5))))
            clear b1 b2 hw1 d4 d5
            go_wp2_with fail
            go_quiet (fail)
            clear hkj hdj hdj' hjl hj0 y2
            obtain ⟨b1, b2, hw1, d4, d5⟩ := HBB.out
            clear HBB
            clear f0 f1 f2 f3 z0 z1
            have T9 := Aside0.mk (T1.out.more (pw_below_drewN (Below.refl _ _) nq))
            have B9 := Aside0.mk (Box.below B1.out (pw_below_drewN (Below.refl _ _) nq))
            clear T1 B1 c0' c1'
            obtain ⟨wz, hz⟩ : ∃ wz, wz = (wr.alloc (.cells #[.int .i64 x.f0, .slice A' x.f1.length c'] 52)).drewN nq := ⟨_, rfl⟩
            rw [← hz] at T9 B9 ⊢
            clear hz
            obtain ⟨f0, f1, f2, f3⟩ := CE.out _ T9.out.gs
            have z0 := Box.cell B9.out 0 _ rfl
            have z1 := Box.cell B9.out 1 _ rfl
            go_wp2_with (first
             | (go_at_call 64; refine Aside0.out ?_))
            clear f0 f1 f2 f3 z0 z1
            refine Aside0.mk ?_
            refine (wStr t t _ _ _ T9.out.bu (by have h := HPL.out; have h2 : (⟨#[32, 124]⟩ : ByteArray).size ≤ 5000 := HSZ.out.1; have h3 : (qs ++ (⟨#[32, 58]⟩ : ByteArray)).data.toList.length ≤ 5000 := HSZ.out.2.1; have h4 : (⟨#[32, 124]⟩ : ByteArray).data.toList.length ≤ 5000 := HSZ.out.1; (try simp only [List.length_append, List.length_singleton] at h3 h4 ⊢); (try have h5 : (#[32, 124] : Array UInt8).toList.length ≤ 5000 := by decide); omega) (by have := T9.out.le; omega)).mono ?_
            rintro e w2 ⟨rfl, hb, hw, hkx⟩
            have t2 : Aside0 (TS w cs t (P.altsL l0 l1 none (R.take k) ++ (⟨#[32, 124]⟩ : ByteArray).data.toList) w2) := ⟨T9.out.write hb hw⟩
            have B2 := Aside0.mk (Box.kept B9.out hkx (by decide) (by have := HNE.out; omega))
            clear hb hw hkx
            obtain ⟨f0, f1, f2, f3⟩ := CE.out _ t2.out.gs
            have z0 := Box.cell B2.out 0 _ rfl
            have z1 := Box.cell B2.out 1 _ rfl
            go_wp2_with (first
             | (go_at_call 21; (with_reducible refine (KY.out _ t2.out.gs).mono ?_); rintro e w5 ⟨rfl, hb5⟩; have t5 := Aside0.mk (t2.out.more hb5); have B5 := Aside0.mk (Box.below B2.out hb5); clear hb5)
             | (go_at_call 64; refine Aside0.out ?_))
            clear f0 f1 f2 f3 z0 z1
            refine Aside0.mk ?_
            refine (wStr t t _ _ _ t5.out.bu (by have h := HPL.out; have h2 : ((⟨#[32]⟩ : ByteArray) ++ qy).size ≤ 5000 := HSZ.out.2.2; have h3 : (qs ++ (⟨#[32, 58]⟩ : ByteArray)).data.toList.length ≤ 5000 := HSZ.out.2.1; have h4 : (⟨#[32, 124]⟩ : ByteArray).data.toList.length ≤ 5000 := HSZ.out.1; (try simp only [List.length_append, List.length_singleton] at h3 h4 ⊢); (try have h5 : (#[32, 124] : Array UInt8).toList.length ≤ 5000 := by decide); omega) (by have := t5.out.le; omega)).mono ?_
            rintro e w6 ⟨rfl, hb, hw, hkx⟩
            have t6 : Aside0 (TS w cs t (P.altsL l0 l1 none (R.take k) ++ (⟨#[32, 124]⟩ : ByteArray).data.toList ++ ((⟨#[32]⟩ : ByteArray) ++ qy).data.toList) w6) := ⟨t5.out.write hb hw⟩
            have B6 := Aside0.mk (Box.kept B5.out hkx (by decide) (by have := HNE.out; omega))
            clear hb hw hkx
            obtain ⟨f0, f1, f2, f3⟩ := CE.out _ t6.out.gs
            have z0 := Box.cell B6.out 0 _ rfl
            have z1 := Box.cell B6.out 1 _ rfl
            go_wp2_with fail
            go_roundw
            case measure => simp [intOf]; omega
            case rel => exact ⟨k + 1, by omega, by go_num, ⟨HFIN.out ▸ t6.out⟩⟩
          · have HFIN := Lib.hid (hfinB1 (by rw [hpv]; exact fun h => hv (Option.some.inj h)) (by rw [hpv]; exact fun h => by cases h) he0 : P.altsL l0 l1 none (R.take k) ++ [UInt8.ofNat 10] ++ (qs ++ (⟨#[32, 58]⟩ : ByteArray)).data.toList ++ ((⟨#[32]⟩ : ByteArray) ++ qy).data.toList = P.altsL l0 l1 none (R.take (k + 1)))
            have dv : decide (v = x.f0) = false := decide_eq_false hv
            have dv' : (v == x.f0) = false := beq_false_of_ne hv
            clear hfinA0 hfinA1 hfinB0 hfinB1 hfinC0 hfinC1 hprev hfirst he0 hk0 hj hpv hcell
            have HBB := Aside0.mk (And.intro b1 (And.intro b2 (And.intro hw1 (And.intro d4 d5))))
            clear b1 b2 hw1 d4 d5
            go_wp2_with fail
            go_quiet (fail)
            clear hkj hdj hdj' hjl hj0 y2
            obtain ⟨b1, b2, hw1, d4, d5⟩ := HBB.out
            clear HBB
            clear f0 f1 f2 f3 z0 z1
            have T9 := Aside0.mk (T1.out.more (pw_below_drewN (Below.refl _ _) nq))
            have B9 := Aside0.mk (Box.below B1.out (pw_below_drewN (Below.refl _ _) nq))
            clear T1 B1 c0' c1'
            obtain ⟨wz, hz⟩ : ∃ wz, wz = (wr.alloc (.cells #[.int .i64 x.f0, .slice A' x.f1.length c'] 52)).drewN nq := ⟨_, rfl⟩
            rw [← hz] at T9 B9 ⊢
            clear hz
            obtain ⟨f0, f1, f2, f3⟩ := CE.out _ T9.out.gs
            have z0 := Box.cell B9.out 0 _ rfl
            have z1 := Box.cell B9.out 1 _ rfl
            go_wp2_with (first
             | (go_at_call 63; refine Aside0.out ?_))
            clear f0 f1 f2 f3 z0 z1
            refine Aside0.mk ?_
            refine (wByteN t t _ 10 (by omega) _ T9.out.bu (by have h := HPL.out; omega) (by have := T9.out.le; omega)).mono ?_
            rintro e w2 ⟨rfl, hb, hw, hkx⟩
            have t2 : Aside0 (TS w cs t (P.altsL l0 l1 none (R.take k) ++ [UInt8.ofNat 10]) w2) := ⟨T9.out.write hb hw⟩
            have B2 := Aside0.mk (Box.kept B9.out hkx (by decide) (by have := HNE.out; omega))
            clear hb hw hkx
            obtain ⟨f0, f1, f2, f3⟩ := CE.out _ t2.out.gs
            have z0 := Box.cell B2.out 0 _ rfl
            have z1 := Box.cell B2.out 1 _ rfl
            go_wp2_with (first
             | (go_at_call 19; (with_reducible refine (KS.out _ t2.out.gs).mono ?_); rintro e w3 ⟨rfl, hb3⟩; have t3 := Aside0.mk (t2.out.more hb3); have B3 := Aside0.mk (Box.below B2.out hb3); clear hb3)
             | (go_at_call 64; refine Aside0.out ?_))
            clear f0 f1 f2 f3 z0 z1
            refine Aside0.mk ?_
            refine (wStr t t _ _ _ t3.out.bu (by have h := HPL.out; have h2 : (qs ++ (⟨#[32, 58]⟩ : ByteArray)).size ≤ 5000 := HSZ.out.2.1; have h3 : (qs ++ (⟨#[32, 58]⟩ : ByteArray)).data.toList.length ≤ 5000 := HSZ.out.2.1; have h4 : (⟨#[32, 124]⟩ : ByteArray).data.toList.length ≤ 5000 := HSZ.out.1; (try simp only [List.length_append, List.length_singleton] at h3 h4 ⊢); (try have h5 : (#[32, 124] : Array UInt8).toList.length ≤ 5000 := by decide); omega) (by have := t3.out.le; omega)).mono ?_
            rintro e w4 ⟨rfl, hb, hw, hkx⟩
            have t4 : Aside0 (TS w cs t (P.altsL l0 l1 none (R.take k) ++ [UInt8.ofNat 10] ++ (qs ++ (⟨#[32, 58]⟩ : ByteArray)).data.toList) w4) := ⟨t3.out.write hb hw⟩
            have B4 := Aside0.mk (Box.kept B3.out hkx (by decide) (by have := HNE.out; omega))
            clear hb hw hkx
            obtain ⟨f0, f1, f2, f3⟩ := CE.out _ t4.out.gs
            have z0 := Box.cell B4.out 0 _ rfl
            have z1 := Box.cell B4.out 1 _ rfl
            go_wp2_with (first
             | (go_at_call 21; (with_reducible refine (KY.out _ t4.out.gs).mono ?_); rintro e w5 ⟨rfl, hb5⟩; have t5 := Aside0.mk (t4.out.more hb5); have B5 := Aside0.mk (Box.below B4.out hb5); clear hb5)
             | (go_at_call 64; refine Aside0.out ?_))
            clear f0 f1 f2 f3 z0 z1
            refine Aside0.mk ?_
            refine (wStr t t _ _ _ t5.out.bu (by have h := HPL.out; have h2 : ((⟨#[32]⟩ : ByteArray) ++ qy).size ≤ 5000 := HSZ.out.2.2; have h3 : (qs ++ (⟨#[32, 58]⟩ : ByteArray)).data.toList.length ≤ 5000 := HSZ.out.2.1; have h4 : (⟨#[32, 124]⟩ : ByteArray).data.toList.length ≤ 5000 := HSZ.out.1; (try simp only [List.length_append, List.length_singleton] at h3 h4 ⊢); (try have h5 : (#[32, 124] : Array UInt8).toList.length ≤ 5000 := by decide); omega) (by have := t5.out.le; omega)).mono ?_
            rintro e w6 ⟨rfl, hb, hw, hkx⟩
            have t6 : Aside0 (TS w cs t (P.altsL l0 l1 none (R.take k) ++ [UInt8.ofNat 10] ++ (qs ++ (⟨#[32, 58]⟩ : ByteArray)).data.toList ++ ((⟨#[32]⟩ : ByteArray) ++ qy).data.toList) w6) := ⟨t5.out.write hb hw⟩
            have B6 := Aside0.mk (Box.kept B5.out hkx (by decide) (by have := HNE.out; omega))
            clear hb hw hkx
            obtain ⟨f0, f1, f2, f3⟩ := CE.out _ t6.out.gs
            have z0 := Box.cell B6.out 0 _ rfl
            have z1 := Box.cell B6.out 1 _ rfl
            go_wp2_with fail
            go_roundw
            case measure => simp [intOf]; omega
            case rel => exact ⟨k + 1, by omega, by go_num, ⟨HFIN.out ▸ t6.out⟩⟩
    · obtain rfl : k = R.length := by omega
      have HPL := Lib.hid (alt_len HRD.out R none (fun x hx => hx))
      have HRU := Lib.hid (HRD.out.rules)
      rw [List.take_length] at tr
      clear hlt hk
      go_wp2_with (first
       | (go_at_call 63; refine Aside0.out ?_))
      refine Aside0.mk ?_
      refine (wByteN t t _ 10 (by omega) _ tr.out.bu (by have h := HPL.out; have h2 := HRU.out; omega) (by have := tr.out.le; omega)).mono ?_
      rintro e w2 ⟨rfl, hb, hw, hkx⟩
      have t2 : Aside0 (TS w cs t (P.textL l0 l1 R) w2) := ⟨tr.out.write hb hw⟩
      clear hb hw hkx tr HPL HRU
      by_cases hl : 1048576 < (P.textL l0 l1 R).length
      · have HT := Lib.hid (HTX.out.trans (if_pos hl))
        have d1 : decide ((1048576 : Int) < ((P.textL l0 l1 R).length : Int)) = true := decide_eq_true (by omega)
        have d2 : decide (1048576 < (P.textL l0 l1 R).length) = true := decide_eq_true hl
        clear HTX
        generalize P.textL l0 l1 R = tl at t2 d1 d2 hl
        go_wp2_with (first
         | (go_at_call 66; refine (wLen t t _ _ t2.out.bu).mono ?_; rintro e w3 ⟨rfl, hb⟩; have t3 := Aside0.mk (t2.out.more hb); have he := KG.out _ t3.out.gs; clear hb))
        go_region
        go_wp2_with fail
        (try rw [Exit.noGoto_ret])
        exact bodyPost_ret (v := .tuple #[.string ⟨#[]⟩, .iface 178 (.pointer (some (ad 12)))]) (by simp [results, Tryd.results23, go_sem]) rfl ⟨.iface 178 (.pointer (some (ad 12))), -1, by rw [HT.out], by rw [HT.out]; exact ErrW.sent (by decide) (by decide), (t3.out.more (Below.refl _ _).drew).gs.low⟩
      · have HT := Lib.hid (HTX.out.trans (if_neg hl))
        have d1 : decide ((1048576 : Int) < ((P.textL l0 l1 R).length : Int)) = false := decide_eq_false (by omega)
        have d2 : decide (1048576 < (P.textL l0 l1 R).length) = false := decide_eq_false hl
        clear HTX
        generalize P.textL l0 l1 R = tl at t2 d1 d2 hl HT
        go_wp2_with (first
         | (go_at_call 66; refine (wLen t t _ _ t2.out.bu).mono ?_; rintro e w3 ⟨rfl, hb⟩; have t3 := Aside0.mk (t2.out.more hb); clear hb)
         | (go_at_call 65; refine (wText t t _ _ t3.out.bu t3.out.le).mono ?_; rintro e w4 ⟨rfl, hb4⟩))
        (try rw [Exit.noGoto_ret])
        exact bodyPost_ret (v := .tuple #[.string ⟨tl.toArray⟩, .nilIface]) (by simp [results, Tryd.results23, go_sem]) rfl ⟨.nilIface, -1, by rw [HT.out], by rw [HT.out]; exact .inl ⟨rfl, rfl, rfl⟩, t3.out.gs.low.trans (hb4.mono (Nat.le_of_lt t3.out.lt))⟩
end Go.Proofs.YthjhaogfpdkhbaaDoor.Sh
/- dovetaillaw05.ShowTexts: the walk (printed by tools/mk_showtw.py). -/
namespace Go.Proofs.YthjhaogfpdkhbaaDoor.Sh
open Go.RowKit YthjhaogfpdkhbaaDoorW.PrintWords YthjhaogfpdkhbaaDoorW.PrintLast YthjhaogfpdkhbaaDoorW.PrintMore
open B H F D
set_option maxHeartbeats 8000000 in
set_option maxRecDepth 100000 in
theorem ShowTexts_calls (ad : Int → Addr) (A0 : Option Addr) (c0 : Nat) (l0 : List ByteArray) (A1 : Option Addr) (c1 : Nat) (l1 : List ByteArray) (a2 : Int) (A3 : Option Addr) (c3 : Nat) (R : List S52) (w : World) (hs : SentsK ad w) (hr0 : Kd.C Kd.string w A0 l0.length l0) (hc0 : l0.length ≤ c0) (hr1 : Kd.C Kd.string w A1 l1.length l1) (hc1 : l1.length ≤ c1) (hr3 : Kd.C k52 w A3 R.length R) (hc3 : R.length ≤ c3)
 (b0 : l0.length < 8796093022207) (b1 : l1.length < 8796093022207) (b3 : R.length < 4398046511104) (bx : ∀ x ∈ R, x.f1.length < 17592186044415) :
 Calls Tryd.prog 5 #[.agg #[.slice A0 l0.length c0, .slice A1 l1.length c1, .int .i64 a2, .slice A3 R.length c3]] w fun e w' => e = .returned (.bool true) ∧ Below w.heap.size w w' := by
 obtain ⟨cs, hcs⟩ : ∃ cs : Array Value, cs = #[.slice A0 l0.length c0, .slice A1 l1.length c1, .int .i64 a2, .slice A3 R.length c3] := ⟨_, rfl⟩
 have st : GS w cs (w.alloc (.cells #[.slice A0 l0.length c0, .slice A1 l1.length c1, .int .i64 a2, .slice A3 R.length c3] 25)) := by subst hcs; exact GS.start w _
 have kL : ∀ W, GS w cs W → Calls Tryd.prog 10 #[.agg #[.slice A0 l0.length c0, .slice A1 l1.length c1, .int .i64 a2, .slice A3 R.length c3]] W fun e w' => ∃ B0 d0 B1 d1 B3 d3, e = .returned (.agg #[.slice B0 l0.length d0, .slice B1 l1.length d1, .int .i64 a2, .slice B3 R.length d3]) ∧ Aside0 (MG w' B0 d0 l0 B1 d1 l1 B3 d3 R ∧ GS w cs w') :=
  fun W hW => (LentGrammar_m A0 c0 l0 A1 c1 l1 a2 A3 c3 R W (Kd.C_below hr0 hW.low) (Kd.C_below hr1 hW.low) (Kd.C_below hr3 hW.low) b0 b1 b3 bx).mono fun e w' ⟨B0, d0, B1, d1, B3, d3, he, hm⟩ => ⟨B0, d0, B1, d1, B3, d3, he, ⟨hm.out.1, hW.more hm.out.2⟩⟩
 have ST := Aside0.mk st
 have KL := Aside0.mk kL
 have HS := Aside0.mk hs
 have HR0 := Aside0.mk hr0
 have HR1 := Aside0.mk hr1
 have HR3 := Aside0.mk hr3
 have HCS := Lib.hid hcs
 have HB := Lib.hid (And.intro b0 (And.intro b1 b3))
 clear hs hr0 hr1 hr3 st kL hcs b0 b1 b3 bx
 go_enter Tryd.func5, Tryd.ntmps5
 go_wp2_with (first
  | (go_at_call 10; (with_reducible refine (KL.out _ ST.out).mono ?_); rintro e w1 ⟨B0, d0, B1, d1, B3, d3, rfl, hm1⟩)
  | (go_at_call 23; refine Aside0.out ?_))
 refine Aside0.mk ?_
 have hr0 := HR0.out
 have hr1 := HR1.out
 have hr3 := HR3.out
 have hs := HS.out
 obtain ⟨hmg, hgw⟩ := hm1.out
 obtain ⟨b0, b1, b3⟩ := HB.out
 have m0 := C_max hr0
 have m1 := C_max hr1
 obtain ⟨bs, hbs⟩ : ∃ bs : Array Value, bs = #[.slice B0 l0.length d0, .slice B1 l1.length d1, .int .i64 a2, .slice B3 R.length d3] := ⟨_, rfl⟩
 have t1 : TN w w1 cs bs (w1.alloc (.cells #[.slice B0 l0.length d0, .slice B1 l1.length d1, .int .i64 a2, .slice B3 R.length d3] 25)) := by
  subst hbs
  exact TN.start hgw
 have CE : ∀ W, TN w w1 cs bs W → W.cell? ⟨w.heap.size, 0, none⟩ = some (.slice A0 l0.length c0) ∧ W.cell? ⟨w.heap.size, 1, none⟩ = some (.slice A1 l1.length c1) ∧ W.cell? ⟨w.heap.size, 2, none⟩ = some (.int .i64 a2) ∧ W.cell? ⟨w.heap.size, 3, none⟩ = some (.slice A3 R.length c3) ∧ W.cell? ⟨w1.heap.size, 0, none⟩ = some (.slice B0 l0.length d0) ∧ W.cell? ⟨w1.heap.size, 1, none⟩ = some (.slice B1 l1.length d1) ∧ W.cell? ⟨w1.heap.size, 2, none⟩ = some (.int .i64 a2) ∧ W.cell? ⟨w1.heap.size, 3, none⟩ = some (.slice B3 R.length d3) := by
  intro W hW; have hcs := HCS.out; subst hcs hbs; exact hW.cells
 have e0 := hmg.h0
 have e1 := hmg.h1
 have e3 := hmg.r3.1
 have q0 : ∀ W, TN w w1 cs bs W → Kd.C Kd.string W A0 l0.length l0 := fun W hW => Kd.C_below hr0 hW.low
 have q1 : ∀ W, TN w w1 cs bs W → Kd.C Kd.string W A1 l1.length l1 := fun W hW => Kd.C_below hr1 hW.low
 have q3 : ∀ W, TN w w1 cs bs W → Kd.C k52 W A3 R.length R := fun W hW => Kd.C_below hr3 hW.low
 have qm : ∀ W, TN w w1 cs bs W → MG W B0 d0 l0 B1 d1 l1 B3 d3 R := fun W hW => hmg.below hW.low1
 have p0 : ∀ W, TN w w1 cs bs W → Kd.C Kd.string W B0 l0.length l0 := fun W hW => C_pre (qm W hW).r0
 have p1 : ∀ W, TN w w1 cs bs W → Kd.C Kd.string W B1 l1.length l1 := fun W hW => C_pre (qm W hW).r1
 have p3 : ∀ W, TN w w1 cs bs W → Kd.C k52 W B3 R.length R := fun W hW => (qm W hW).r3.reads
 have kU : ∀ W, TN w w1 cs bs W → Calls Tryd.prog 23 #[.agg #[.slice B0 l0.length d0, .slice B1 l1.length d1, .int .i64 a2, .slice B3 R.length d3]] W fun e w' => ∃ E r, e = .returned (.tuple #[.string ⟨(textP l0 l1 a2 R).1.toArray⟩, E]) ∧ Aside0 (TZ ad E ((textP l0 l1 a2 R).2, r) w w1 cs bs w') :=
  fun W hW => (Text_calls ad B0 d0 l0 B1 d1 l1 a2 B3 d3 R W (hs.below hW.low) (p0 W hW) (by omega) (p1 W hW) (by omega) (p3 W hW) (by omega)).mono fun e w' ⟨E, r, he, hE, hb⟩ => ⟨E, r, he, ⟨hW.more hb, hE⟩⟩
 have kV : ∀ W, TN w w1 cs bs W → Calls Tryd.prog 24 #[.agg #[.slice A0 l0.length c0, .slice A1 l1.length c1, .int .i64 a2, .slice A3 R.length c3]] W fun e w' => e = .returned (.tuple #[.string ⟨(textP l0 l1 a2 R).1.toArray⟩, .int .i64 (textP l0 l1 a2 R).2]) ∧ Below W.heap.size W w' := by
  intro W hW
  obtain ⟨kk, hrf⟩ := rText_f (l0 := l0) (l1 := l1) (a2 := a2) (R := R) m0 m1
  exact dovetailref05_Text.calls kk A0 c0 l0 A1 c1 l1 a2 A3 c3 R _ _ W (q0 W hW) hc0 (q1 W hW) hc1 (q3 W hW) hc3 hrf
 have kR : ∀ W, TN w w1 cs bs W → Calls Tryd.prog 25 #[.agg #[.slice B0 l0.length d0, .slice B1 l1.length d1, .int .i64 a2, .slice B3 R.length d3]] W fun e w' => ∃ E, e = .returned E ∧ Aside0 (TZ ad E (readP l0 l1 a2 R) w w1 cs bs w') ∧ w'.cell? ⟨w.heap.size, 0, none⟩ = some (.slice A0 l0.length c0) ∧ w'.cell? ⟨w.heap.size, 1, none⟩ = some (.slice A1 l1.length c1) ∧ w'.cell? ⟨w.heap.size, 2, none⟩ = some (.int .i64 a2) ∧ w'.cell? ⟨w.heap.size, 3, none⟩ = some (.slice A3 R.length c3) ∧ w'.cell? ⟨w1.heap.size, 0, none⟩ = some (.slice B0 l0.length d0) ∧ w'.cell? ⟨w1.heap.size, 1, none⟩ = some (.slice B1 l1.length d1) ∧ w'.cell? ⟨w1.heap.size, 2, none⟩ = some (.int .i64 a2) ∧ w'.cell? ⟨w1.heap.size, 3, none⟩ = some (.slice B3 R.length d3) :=
  fun W hW => (Readable_calls ad B0 d0 l0 B1 d1 l1 a2 B3 d3 R W (hs.below hW.low) (p0 W hW) (by omega) (p1 W hW) (by omega) (p3 W hW) (by omega)).mono fun e w' ⟨E, he, hE, hb⟩ => ⟨E, he, ⟨hW.more hb, hE⟩, CE _ (hW.more hb)⟩
 have kT : ∀ W, TN w w1 cs bs W → Calls Tryd.prog 26 #[.agg #[.slice A0 l0.length c0, .slice A1 l1.length c1, .int .i64 a2, .slice A3 R.length c3]] W fun e w' => e = .returned (.int .i64 (readP l0 l1 a2 R).1) ∧ Aside0 (TN w w1 cs bs w') ∧ w'.cell? ⟨w.heap.size, 0, none⟩ = some (.slice A0 l0.length c0) ∧ w'.cell? ⟨w.heap.size, 1, none⟩ = some (.slice A1 l1.length c1) ∧ w'.cell? ⟨w.heap.size, 2, none⟩ = some (.int .i64 a2) ∧ w'.cell? ⟨w.heap.size, 3, none⟩ = some (.slice A3 R.length c3) ∧ w'.cell? ⟨w1.heap.size, 0, none⟩ = some (.slice B0 l0.length d0) ∧ w'.cell? ⟨w1.heap.size, 1, none⟩ = some (.slice B1 l1.length d1) ∧ w'.cell? ⟨w1.heap.size, 2, none⟩ = some (.int .i64 a2) ∧ w'.cell? ⟨w1.heap.size, 3, none⟩ = some (.slice B3 R.length d3) := by
  intro W hW
  obtain ⟨kk, hrf⟩ := rReadable_f (l0 := l0) (l1 := l1) (a2 := a2) (R := R) m0 m1
  rw [readP_K]
  exact (dovetailref05_Readable.calls kk A0 c0 l0 A1 c1 l1 a2 A3 c3 R _ W (q0 W hW) hc0 (q1 W hW) hc1 (q3 W hW) hc3 hrf).mono fun e w' ⟨he, hb⟩ => ⟨he, ⟨hW.more hb⟩, CE _ (hW.more hb)⟩
 have kK : ∀ W, TN w w1 cs bs W → Calls Tryd.prog 15 #[.agg #[.slice B0 l0.length d0, .slice B1 l1.length d1, .int .i64 a2, .slice B3 R.length d3], .agg #[.slice A0 l0.length c0, .slice A1 l1.length c1, .int .i64 a2, .slice A3 R.length c3]] W fun e w' => e = .returned (.bool true) ∧ Aside0 (TN w w1 cs bs w') ∧ w'.cell? ⟨w.heap.size, 0, none⟩ = some (.slice A0 l0.length c0) ∧ w'.cell? ⟨w.heap.size, 1, none⟩ = some (.slice A1 l1.length c1) ∧ w'.cell? ⟨w.heap.size, 2, none⟩ = some (.int .i64 a2) ∧ w'.cell? ⟨w.heap.size, 3, none⟩ = some (.slice A3 R.length c3) ∧ w'.cell? ⟨w1.heap.size, 0, none⟩ = some (.slice B0 l0.length d0) ∧ w'.cell? ⟨w1.heap.size, 1, none⟩ = some (.slice B1 l1.length d1) ∧ w'.cell? ⟨w1.heap.size, 2, none⟩ = some (.int .i64 a2) ∧ w'.cell? ⟨w1.heap.size, 3, none⟩ = some (.slice B3 R.length d3) :=
  fun W hW => (KeptGrammar_yes B0 d0 B1 d1 B3 d3 A0 c0 l0 A1 c1 l1 a2 A3 c3 R W (qm W hW) (q0 W hW) hc0 (q1 W hW) hc1 (q3 W hW) hc3).mono fun e w' ⟨he, hb⟩ => ⟨he, ⟨hW.more hb⟩, CE _ (hW.more hb)⟩
 generalize readP l0 l1 a2 R = rp at kR kT
 generalize textP l0 l1 a2 R = pr at kU kV
 obtain ⟨rk, rn⟩ := rp
 obtain ⟨tl, kn⟩ := pr
 dsimp only at kU kV kR kT
 generalize (⟨tl.toArray⟩ : ByteArray) = ts at kU kV
 have kD : ∀ E p W, TZ ad E p w w1 cs bs W → Calls Tryd.prog 14 #[E] W fun e w' => e = .returned (.int .i64 p.1) ∧ Aside0 (TN w w1 cs bs w') ∧ w'.cell? ⟨w.heap.size, 0, none⟩ = some (.slice A0 l0.length c0) ∧ w'.cell? ⟨w.heap.size, 1, none⟩ = some (.slice A1 l1.length c1) ∧ w'.cell? ⟨w.heap.size, 2, none⟩ = some (.int .i64 a2) ∧ w'.cell? ⟨w.heap.size, 3, none⟩ = some (.slice A3 R.length c3) ∧ w'.cell? ⟨w1.heap.size, 0, none⟩ = some (.slice B0 l0.length d0) ∧ w'.cell? ⟨w1.heap.size, 1, none⟩ = some (.slice B1 l1.length d1) ∧ w'.cell? ⟨w1.heap.size, 2, none⟩ = some (.int .i64 a2) ∧ w'.cell? ⟨w1.heap.size, 3, none⟩ = some (.slice B3 R.length d3) := fun E p W hW => (Kind_w (hs.below hW.1.low) hW.2).mono fun e w' ⟨he, hb⟩ => ⟨he, ⟨hW.1.more hb⟩, CE _ (hW.1.more hb)⟩
 have kD1 : ∀ E r W, TZ ad E (kn, r) w w1 cs bs W → Calls Tryd.prog 14 #[E] W fun e w' => e = .returned (.int .i64 kn) ∧ Aside0 (TN w w1 cs bs w') ∧ w'.cell? ⟨w.heap.size, 0, none⟩ = some (.slice A0 l0.length c0) ∧ w'.cell? ⟨w.heap.size, 1, none⟩ = some (.slice A1 l1.length c1) ∧ w'.cell? ⟨w.heap.size, 2, none⟩ = some (.int .i64 a2) ∧ w'.cell? ⟨w.heap.size, 3, none⟩ = some (.slice A3 R.length c3) ∧ w'.cell? ⟨w1.heap.size, 0, none⟩ = some (.slice B0 l0.length d0) ∧ w'.cell? ⟨w1.heap.size, 1, none⟩ = some (.slice B1 l1.length d1) ∧ w'.cell? ⟨w1.heap.size, 2, none⟩ = some (.int .i64 a2) ∧ w'.cell? ⟨w1.heap.size, 3, none⟩ = some (.slice B3 R.length d3) := fun E r W hW => kD E _ W hW
 have kD2 : ∀ E W, TZ ad E (rk, rn) w w1 cs bs W → Calls Tryd.prog 14 #[E] W fun e w' => e = .returned (.int .i64 rk) ∧ Aside0 (TN w w1 cs bs w') ∧ w'.cell? ⟨w.heap.size, 0, none⟩ = some (.slice A0 l0.length c0) ∧ w'.cell? ⟨w.heap.size, 1, none⟩ = some (.slice A1 l1.length c1) ∧ w'.cell? ⟨w.heap.size, 2, none⟩ = some (.int .i64 a2) ∧ w'.cell? ⟨w.heap.size, 3, none⟩ = some (.slice A3 R.length c3) ∧ w'.cell? ⟨w1.heap.size, 0, none⟩ = some (.slice B0 l0.length d0) ∧ w'.cell? ⟨w1.heap.size, 1, none⟩ = some (.slice B1 l1.length d1) ∧ w'.cell? ⟨w1.heap.size, 2, none⟩ = some (.int .i64 a2) ∧ w'.cell? ⟨w1.heap.size, 3, none⟩ = some (.slice B3 R.length d3) := fun E W hW => kD E _ W hW
 have T1 := Aside0.mk t1
 have CE' := Aside0.mk CE
 have KU := Aside0.mk kU
 have KV := Aside0.mk kV
 have KR := Aside0.mk kR
 have KT := Aside0.mk kT
 have KK := Aside0.mk kK
 have KD1 := Aside0.mk kD1
 have KD2 := Aside0.mk kD2
 have HBS := Lib.hid hbs
 clear hr0 hr1 hr3 hs hmg hgw HR0 HR1 HR3 HS KL ST hm1 t1 CE q0 q1 q3 qm p0 p1 p3 kU kV kR kT kK kD kD1 kD2 hbs b0 b1 b3 m0 m1 e0 e1 e3 HB
 (with_reducible refine (KU.out _ T1.out).mono ?_); rintro e w3 ⟨E, r, rfl, u3⟩
 obtain ⟨f0, f1, f2, f3, f4, f5, f6, f7⟩ := CE'.out _ u3.out.tn
 go_wp2_with (first
  | (go_at_call 24; go_loud ((with_reducible refine (KV.out _ u3.out.tn).mono ?_); clear f0 f1 f2 f3 f4 f5 f6 f7; rintro e w4 ⟨rfl, b4⟩; have u4 := Aside0.mk (u3.out.more b4); clear b4; obtain ⟨f0, f1, f2, f3, f4, f5, f6, f7⟩ := CE'.out _ u4.out.tn)))
 clear u3
 have KD := Aside0.mk (fun W (hW : TZ ad E (kn, r) w w1 cs bs W) => KD1.out E r W hW)
 go_region_held3 (fun W' => W'.cell? ⟨w.heap.size, 0, none⟩ = some (.slice A0 l0.length c0) ∧ W'.cell? ⟨w.heap.size, 1, none⟩ = some (.slice A1 l1.length c1) ∧ W'.cell? ⟨w.heap.size, 2, none⟩ = some (.int .i64 a2) ∧ W'.cell? ⟨w.heap.size, 3, none⟩ = some (.slice A3 R.length c3) ∧ W'.cell? ⟨w1.heap.size, 0, none⟩ = some (.slice B0 l0.length d0) ∧ W'.cell? ⟨w1.heap.size, 1, none⟩ = some (.slice B1 l1.length d1) ∧ W'.cell? ⟨w1.heap.size, 2, none⟩ = some (.int .i64 a2) ∧ W'.cell? ⟨w1.heap.size, 3, none⟩ = some (.slice B3 R.length d3))
  (go_keep)
  ((first
   | (go_at_call 14; (with_reducible refine (KD.out _ ?_).mono ?_); exact (by first | exact u4.out | exact u4.out.more (Below.refl _ _).drew | exact u4.out.more (pw_below_drewN (Below.refl _ _) _)); clear u4; rintro e w5 ⟨rfl, t5, g0, g1, g2, g3, g4, g5, g6, g7⟩)
   | (go_at_call 25; (with_reducible refine (KR.out _ ?_).mono ?_); exact (by first | exact t5.out | exact t5.out.more (Below.refl _ _).drew | exact t5.out.more (pw_below_drewN (Below.refl _ _) _)); rintro e w6 ⟨E2, rfl, t6, g0, g1, g2, g3, g4, g5, g6, g7⟩)
   | (go_at_call 14; (with_reducible refine (KD2.out _ _ ?_).mono ?_); exact (by first | exact t6.out | exact t6.out.more (Below.refl _ _).drew | exact t6.out.more (pw_below_drewN (Below.refl _ _) _)); rintro e w7 ⟨rfl, t7, g0, g1, g2, g3, g4, g5, g6, g7⟩)
   | (go_at_call 26; (with_reducible refine (KT.out _ ?_).mono ?_); exact (by first | exact t7.out | exact t7.out.more (Below.refl _ _).drew | exact t7.out.more (pw_below_drewN (Below.refl _ _) _)); rintro e w8 ⟨rfl, t8, g0, g1, g2, g3, g4, g5, g6, g7⟩)
   | (go_at_call 15; (with_reducible refine (KK.out _ ?_).mono ?_); exact (by first | exact t8.out | exact t8.out.more (Below.refl _ _).drew | exact t8.out.more (pw_below_drewN (Below.refl _ _) _)); rintro e w9 ⟨rfl, t9, g0, g1, g2, g3, g4, g5, g6, g7⟩)))
 go_wp2_with fail
 go_ret
 exact ⟨rfl, by first | exact t9.out.low | exact (t9.out.more (pw_below_drewN (Below.refl _ _) _)).low⟩
end Go.Proofs.YthjhaogfpdkhbaaDoor.Sh
namespace Go.Proofs.YthjhaogfpdkhbaaDoor.showTexts
open Go.ChangeShapes Go.WideShapes Go.ChangeAt Go.RowKit YthjhaogfpdkhbaaDoorW.PrintWords H B

theorem own : ownKnob Tryd.prog.godebug = none := by kernel_rfl
theorem laidOut : laidOutB Tryd.prog = true := by kernel_rfl
theorem bounds_i {n : Int} (h : (Lit.int .i64 n).wf = true) : -9223372036854775808 ≤ n ∧ n < 9223372036854775808 := by
 have h1 : IntKind.i64.min = -9223372036854775808 := by decide
 have h2 : IntKind.i64.max = 9223372036854775807 := by decide
 have h3 : (decide (IntKind.i64.min ≤ n) && decide (n ≤ IntKind.i64.max)) = true := h
 rw [h1, h2] at h3
 simp only [Bool.and_eq_true, decide_eq_true_eq] at h3
 omega

set_option maxRecDepth 100000 in
theorem contract (H : Type) (enc : TypeId × Value → H) (W : World) (base : Nat) (args : Array Value) (ds gs : List (DataW H)) (before : List MemPlace)
 (hval : ∀ (j : Nat) t v, Tryd.f5.params[j]? = some t → args[j]? = some v → Value.okWide Tryd.prog W .any base t v)
 (ad : Int → Addr) (hs : SentsK ad W)
 (hz : (DataW.weightsEach Tryd.prog (Tryd.f5.params.toList ++ (OpenSpec.ofChange Rows.showTextsSpec).bare.plain.varTypes Tryd.prog) (ds ++ gs)).all (· ≤ reachBytes) = true)
 (hW : DataW.Whole enc Tryd.prog Tryd.f5.params.toList Rows.showTextsSpec.vars false W args.toList ds gs before) :
 Calls Tryd.prog 5 args W fun e W' => ∃ v, e = .returned v ∧ Rows.showTextsSpec.post enc Tryd.prog Tryd.f5 false true false false W args v W' := by
 have hW' := hW
 obtain ⟨p, q, hA0, hV, rfl, hfz, hnd⟩ := hW
 have hA : DataW.TrodAll enc Tryd.prog W 0 (fun _ => true) true Tryd.f5.params.toList args.toList ds p := hA0
 rw [Tryd.params5] at hA hval
 obtain ⟨v0, vs0, d0, ds0, p0, q0, hargs, rfl, rfl, h0, r0⟩ := trodAll_cons hA
 obtain ⟨rfl, rfl, rfl⟩ := trodAll_nil r0
 obtain rfl : args = #[v0] := by cases args; simp_all
 obtain ⟨rfl, rfl⟩ := trodVars_none hV
 obtain ⟨g0, A00, c00, A01, c01, A03, c03, rfl, l00, k00, l01, k01, l03, k03, z00, z01, z03, zx0⟩ := OG.open_gz (hval 0 25 v0 rfl rfl) h0 (fun n hn => by simpa using List.all_eq_true.1 hz n (DataW.weights_mem_each (j := 0) (by kernel_rfl) rfl n hn))
 refine (Sh.ShowTexts_calls ad A00 c00 g0.f0 A01 c01 g0.f1 g0.f2 A03 c03 g0.f3 W hs k00 l00 k01 l01 k03 l03 z00 z01 z03 zx0).mono fun e W' ⟨he, bel⟩ => ?_
 subst he
 simp only [List.append_nil] at hW'
 exact ⟨_, rfl, _, _, _, [], _, [], hW', trodAll_mk1 (shut_bool Tryd.underlying4 _), (trodAll_cons_mk (Below.trod laidOut (by kernel_rfl) (of_decide_eq_true (by kernel_rfl)) h0 bel (trod_below h0)) trodAll_mk0), rfl, bel.frame _, fun h => by cases h⟩

theorem laid_met (os : Os) (args : Array Value) : laidMetH Tryd.prog Rows.showTextsRow.laid ((laidWorld16 os).forCall (fun _ _ => 0) ⟨#[], args, []⟩).memory := L15.laid_met os args
theorem sents {W : World} (h : laidMetH Tryd.prog Rows.showTextsRow.laid W) : ∃ ad, SentsK ad W := L15.sents h
theorem reads (os : Os) {H : Type} (enc : TypeId × Value → H) : ∃ places, DataW.whole enc Tryd.prog ((laidWorld16 os).forCall (fun _ _ => 0) ⟨#[], #[Value.agg #[.slice none 0 0, .slice none 0 0, .int .i64 0, .slice none 0 0]], []⟩).memory Tryd.f5.params.toList Rows.showTextsSpec.vars false (#[Value.agg #[.slice none 0 0, .slice none 0 0, .int .i64 0, .slice none 0 0]] : Array Value).toList 8 = some ([.agg [.nil, .nil, .lit (.int .i64 0), .nil]], [], places) :=
 ⟨[], by kernel_rfl⟩

set_option maxRecDepth 100000 in
theorem lifted (os : Os) (started : os.Started) (H : Type) (enc : TypeId × Value → H) (F : Stop.Interp) :
 ReturnsInHanded {} Tryd.checked os 5 .any ((OpenSpec.ofChange Rows.showTextsSpec).preRow enc Tryd.prog Tryd.f5 Rows.showTextsRow.domain false Rows.showTextsRow.laid) (((OpenSpec.ofChange Rows.showTextsSpec).at F).post enc Tryd.prog Tryd.f5 false true false false) := by
 obtain ⟨places, hx⟩ := reads os enc
 refine returnsInHanded_of_row (C := Tryd.checked) (s := OpenSpec.ofChange Rows.showTextsSpec) own started (by kernel_rfl) Tryd.func5
  (witness_row_atRef (enc := enc) (C := Tryd.checked) false (laidWorld16 os) #[Value.agg #[.slice none 0 0, .slice none 0 0, .int .i64 0, .slice none 0 0]] rfl (by kernel_rfl) (by kernel_rfl) (by kernel_rfl)
   (OpenSpec.preRow_of_cond 8 hx (by kernel_rfl) (fun k hk => by cases hk) (by kernel_rfl) (laid_met os _))) ?_
 intro W base args ds gs before hval hW _ hcond hz hL _ _
 obtain ⟨ad, hs⟩ := sents hL
 exact contract H enc W base args ds gs before hval ad hs hz hW

theorem said : Rows.ShowTextsSaid :=
 OpenClaim.holds_of_cond 5 Tryd.f5 rfl rfl rfl rfl rfl rfl rfl ⟨rfl, rfl, rfl, rfl, rfl⟩ rfl rfl rfl rfl rfl (by kernel_rfl) Tryd.func5 (by kernel_rfl)
  (of_decide_eq_true (by kernel_rfl)) (by unfold Func.isWrapper; first | (rw [if_pos (by decide +kernel)]; kernel_rfl) | (rw [if_neg (by decide +kernel)]; exact ⟨rfl, rfl⟩))
  (fun os started H enc _ F => by rw [OpenClaim.pre_eq_preRow]; exact lifted os started H enc F)

theorem plain (f : FuncId) (fn : Func) (hf : Tryd.pinned.checked.prog.funcNamed "dovetail/dovetaillaw05.ShowTexts" = some f) (hfn : Tryd.pinned.checked.prog.funcs[f]? = some fn) :
 true = Tryd.pinned.checked.prog.looks [] ∧ ∀ (j : Nat) t, fn.params[j]? = some t → Tryd.pinned.checked.prog.wantsStandIn t = false := by
 obtain rfl : f = 5 := Option.some.inj ((show Tryd.prog.funcNamed "dovetail/dovetaillaw05.ShowTexts" = some 5 by kernel_rfl).symm.trans hf) |>.symm
 obtain rfl : fn = Tryd.f5 := (Option.some.inj (Tryd.func5.symm.trans hfn)).symm
 refine ⟨by kernel_rfl, fun j t ht => ?_⟩
 rw [Tryd.params5] at ht
 obtain rfl : t = 25 := by simpa using Array.mem_of_getElem? ht
 exact (show Tryd.prog.wantsStandIn 25 = false by kernel_rfl)

theorem proved : Rows.ShowTextsCardSaid :=
 Claim7.holds_tied_plain_at .later [] _ _ _ _ said (fun _ h => by cases h) (by kernel_rfl) (fun _ h => by cases h) showTexts_row_tie rfl ⟨rfl, rfl⟩ (by kernel_rfl) rfl plain (by kernel_rfl)
#print axioms proved
end Go.Proofs.YthjhaogfpdkhbaaDoor.showTexts
