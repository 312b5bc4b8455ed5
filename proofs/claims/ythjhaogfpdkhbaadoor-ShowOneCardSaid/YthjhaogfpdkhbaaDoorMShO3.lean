/-
 dovetaillaw05.ShowOne: whatever is handed in, the call answers true, and each argument reads as it did.
 Conditions: those of the given statement ShowOneCardSaid alone.
-/
import Derived.Test.YthjhaogfpdkhbaaDoorMShO2
import Derived.Test.YthjhaogfpdkhbaaDoorMShO1
import Derived.Test.YthjhaogfpdkhbaaDoorCards
import Derived.Test.YthjhaogfpdkhbaaDoorTie
import Derived.LaidLaws
import Derived.LaidHandle
import Derived.Lib.LaidTab
import Derived.Lib.LaidIn
import Derived.SevenTiedAt
import Derived.WideShapes
import Derived.JoinedCond
import Derived.ChangeMaps5
import Derived.SizedLaws
import Derived.Deep.DeepHandedRow
import Derived.Deep.DeepWitnessRowRef
/- Chapter 5, in plain Lean: two readable grammars with one text are one grammar. -/
set_option linter.unusedVariables false
set_option linter.unusedSimpArgs false
namespace Go.Proofs.YthjhaogfpdkhbaaDoor.P
open Go.RowKit
open B (S52)

theorem plain_all {l : List UInt8} (h : plainL l = true) : (∀ c ∈ l, plainB c = true) ∧ l ≠ [] := by
 unfold plainL at h
 rw [Bool.and_eq_true, List.all_eq_true] at h
 refine ⟨h.1, ?_⟩
 rintro rfl
 exact absurd h.2 (by simp [noHash])
theorem plain_q : plainB 34 = false := by decide
theorem plain_b : plainB 32 = false := by decide
theorem plain_n : plainB 10 = false := by decide
def Wrd (w : List UInt8) : Prop := ((∀ c ∈ w, plainB c = true) ∧ w ≠ []) ∨ ∃ n, w = quoteL n
def Sep (r : List UInt8) : Prop := ∀ c t, r = c :: t → plainB c = false
theorem quote_cancel {a b r r' : List UInt8} (h : quoteL a ++ r = quoteL b ++ r') : a = b ∧ r = r' := by
 have e : ∀ x t : List UInt8, quoteL x ++ t = 34 :: (x.flatMap qb ++ 34 :: t) := fun x t => by simp [quoteL, quoteTo]
 rw [e, e] at h
 injection h with _ h
 have h1 := quoF_qb r a ((a.flatMap qb).length + (b.flatMap qb).length + 1) 0 [] (by omega)
 have h2 := quoF_qb r' b ((a.flatMap qb).length + (b.flatMap qb).length + 1) 0 [] (by omega)
 rw [h, h2] at h1
 have h3 := congrArg (fun x => x.1) h1
 simp only [List.nil_append] at h3
 subst h3
 have h4 := List.append_cancel_left h
 injection h4 with _ h4
 exact ⟨rfl, h4⟩
theorem span_cancel {α : Type} (P : α → Prop) : ∀ {a b r r' : List α}, (∀ c ∈ a, P c) → (∀ c ∈ b, P c) → (∀ c t, r = c :: t → ¬ P c) → (∀ c t, r' = c :: t → ¬ P c) → a ++ r = b ++ r' → a = b ∧ r = r'
 | [], [], r, r', _, _, _, _, h => ⟨rfl, h⟩
 | [], c :: b, r, r', _, hb, hr, _, h => absurd (hb c List.mem_cons_self) (hr c (b ++ r') h)
 | c :: a, [], r, r', ha, _, _, hr, h => absurd (ha c List.mem_cons_self) (hr c (a ++ r) h.symm)
 | c :: a, d :: b, r, r', ha, hb, hr, hr', h => by
  injection h with h1 h2
  obtain ⟨e1, e2⟩ := span_cancel P (fun x hx => ha x (List.mem_cons_of_mem _ hx)) (fun x hx => hb x (List.mem_cons_of_mem _ hx)) hr hr' h2
  exact ⟨by rw [h1, e1], e2⟩
theorem plain_cancel {a b r r' : List UInt8} (ha : ∀ c ∈ a, plainB c = true) (hb : ∀ c ∈ b, plainB c = true) (hr : Sep r) (hr' : Sep r') (h : a ++ r = b ++ r') : a = b ∧ r = r' :=
 span_cancel (fun c => plainB c = true) ha hb (fun c t e => by rw [hr c t e]; decide) (fun c t e => by rw [hr' c t e]; decide) h
theorem quote_head (n r : List UInt8) : ∃ t, quoteL n ++ r = 34 :: t := ⟨_, by simp [quoteL, quoteTo]; rfl⟩
theorem plain_quote {a n r r' : List UInt8} (ha : (∀ c ∈ a, plainB c = true) ∧ a ≠ []) (h : a ++ r = quoteL n ++ r') : False := by
 obtain ⟨t, e⟩ := quote_head n r'
 rw [e] at h
 cases a with
 | nil => exact ha.2 rfl
 | cons c a =>
  injection h with h1 _
  have := ha.1 c List.mem_cons_self
  rw [h1, plain_q] at this
  cases this
theorem word_cancel {a b r r' : List UInt8} (ha : Wrd a) (hb : Wrd b) (hr : Sep r) (hr' : Sep r') (h : a ++ r = b ++ r') : a = b ∧ r = r' := by
 rcases ha with ha | ⟨n, rfl⟩
 · rcases hb with hb | ⟨m, rfl⟩
   · exact plain_cancel ha.1 hb.1 hr hr' h
   · exact (plain_quote ha h).elim
 · rcases hb with hb | ⟨m, rfl⟩
   · exact (plain_quote hb h.symm).elim
   · obtain ⟨e1, e2⟩ := quote_cancel h
     exact ⟨by rw [e1], e2⟩
def flatW (l : List (UInt8 × List UInt8)) : List UInt8 := l.flatMap fun x => x.1 :: x.2
theorem flatW_cons (x : UInt8 × List UInt8) (l : List (UInt8 × List UInt8)) : flatW (x :: l) = x.1 :: (x.2 ++ flatW l) := by simp [flatW]
theorem flatW_append (l r : List (UInt8 × List UInt8)) : flatW (l ++ r) = flatW l ++ flatW r := by simp [flatW]
def OkW (l : List (UInt8 × List UInt8)) : Prop := ∀ x ∈ l, (x.1 = 32 ∨ x.1 = 10) ∧ Wrd x.2
theorem sep_flat {l : List (UInt8 × List UInt8)} (h : OkW l) : Sep (flatW l ++ [10]) := by
 intro c t e
 cases l with
 | nil =>
  have e' : [(10 : UInt8)] = c :: t := e
  injection e' with e1 _
  rw [← e1]; exact plain_n
 | cons x l =>
  rw [flatW_cons, List.cons_append] at e
  injection e with e1 _
  rw [← e1]
  rcases (h x List.mem_cons_self).1 with g | g
  · rw [g]; exact plain_b
  · rw [g]; exact plain_n
theorem flat_inj : ∀ {l l' : List (UInt8 × List UInt8)}, OkW l → OkW l' → flatW l ++ [10] = flatW l' ++ [10] → l = l'
 | [], [], _, _, _ => rfl
 | [], y :: l', _, h', h => by
  rw [flatW_cons, List.cons_append] at h
  have h1 : [(10 : UInt8)] = y.1 :: (y.2 ++ flatW l' ++ [10]) := h
  injection h1 with _ h1
  have := congrArg List.length h1
  simp at this
 | x :: l, [], h, _, e => by
  rw [flatW_cons, List.cons_append] at e
  have h1 : x.1 :: (x.2 ++ flatW l ++ [10]) = [(10 : UInt8)] := e
  injection h1 with _ h1
  have := congrArg List.length h1
  simp at this
 | x :: l, y :: l', h, h', e => by
  rw [flatW_cons, flatW_cons, List.cons_append, List.cons_append, List.append_assoc, List.append_assoc] at e
  injection e with e0 e
  have hl : OkW l := fun z hz => h z (List.mem_cons_of_mem _ hz)
  have hl' : OkW l' := fun z hz => h' z (List.mem_cons_of_mem _ hz)
  obtain ⟨e1, e2⟩ := word_cancel (h x List.mem_cons_self).2 (h' y List.mem_cons_self).2 (sep_flat hl) (sep_flat hl') e
  rw [flat_inj hl hl' e2, show x = y from Prod.ext e0 e1]
theorem rise_inj {α : Type} (d : α) {A B : List α} (hA : A.Nodup) (hB : B.Nodup) : ∀ (L M : List Int) (n : Nat) (a b : Int), (∀ x ∈ L, 0 ≤ x) → (∀ x ∈ M, 0 ≤ x) → riseL L (n : Int) = some a → riseL M (n : Int) = some b → a ≤ (A.length : Int) → b ≤ (B.length : Int) → n ≤ A.length → n ≤ B.length → A.take n = B.take n →
 L.map (fun x => A.getD x.toNat d) = M.map (fun x => B.getD x.toNat d) → L = M ∧ a = b ∧ (n : Int) ≤ a ∧ A.take a.toNat = B.take a.toNat := by
 intro L
 induction L with
 | nil =>
  intro M n a b _ _ h1 h2 h3 h4 h5 h6 h7 h8
  cases M with
  | nil =>
   have e1 := Option.some.inj h1
   have e2 := Option.some.inj h2
   subst e1 e2
   exact ⟨rfl, rfl, Int.le_refl _, by rw [Int.toNat_natCast]; exact h7⟩
  | cons y M => simp at h8
 | cons x L ih =>
  intro M n a b hL hM h1 h2 h3 h4 h5 h6 h7 h8
  cases M with
  | nil => simp at h8
  | cons y M =>
   rw [List.map_cons, List.map_cons] at h8
   injection h8 with h8 h9
   unfold riseL at h1 h2
   have hx0 := hL x List.mem_cons_self
   have hy0 := hM y List.mem_cons_self
   by_cases cx : x > (n : Int)
   · rw [if_pos cx] at h1; cases h1
   rw [if_neg cx] at h1
   by_cases cy : y > (n : Int)
   · rw [if_pos cy] at h2; cases h2
   rw [if_neg cy] at h2
   have hge : ∀ (L : List Int) (n : Int) (a : Int), riseL L n = some a → n ≤ a := by
    intro L
    induction L with
    | nil => intro n a h; have := Option.some.inj h; omega
    | cons z L ih =>
     intro n a h
     unfold riseL at h
     split at h
     · cases h
     · split at h
       · have := ih _ _ h; omega
       · exact ih _ _ h
   obtain ⟨i, rfl⟩ : ∃ i : Nat, x = i := ⟨x.toNat, by omega⟩
   obtain ⟨j, rfl⟩ : ∃ j : Nat, y = j := ⟨y.toNat, by omega⟩
   rw [Int.toNat_natCast, Int.toNat_natCast] at h8
   have g1 := hge _ _ _ h1
   have g2 := hge _ _ _ h2
   have old : ∀ k, k < n → A.getD k d = B.getD k d := by
    intro k hk
    have := congrArg (fun l => l[k]?) h7
    simp only [List.getElem?_take_of_lt hk] at this
    rw [List.getD_eq_getElem?_getD, List.getD_eq_getElem?_getD, this]
   have uniq : ∀ {C : List α}, C.Nodup → ∀ p q, p < C.length → q < C.length → C.getD p d = C.getD q d → p = q := by
    intro C hC p q hp hq e
    rw [List.getD_eq_getElem?_getD, List.getD_eq_getElem?_getD, List.getElem?_eq_getElem hp, List.getElem?_eq_getElem hq] at e
    exact (List.getElem_inj hC).1 e
   by_cases ci : (i : Int) = n
   · rw [if_pos ci] at h1 g1
     by_cases cj : (j : Int) = n
     · rw [if_pos cj] at h2 g2
       have ei : i = n := by omega
       have ej : j = n := by omega
       have ht : A.take (n + 1) = B.take (n + 1) := by
        rw [List.take_succ_eq_append_getElem (by omega), List.take_succ_eq_append_getElem (by omega), h7]
        congr 2
        rw [ei, ej] at h8
        rw [List.getD_eq_getElem?_getD, List.getD_eq_getElem?_getD, List.getElem?_eq_getElem (by omega), List.getElem?_eq_getElem (by omega)] at h8
        exact h8
       obtain ⟨q1, q2, q3, q4⟩ := ih M (n + 1) a b (fun z hz => hL z (List.mem_cons_of_mem _ hz)) (fun z hz => hM z (List.mem_cons_of_mem _ hz)) (by exact_mod_cast h1) (by exact_mod_cast h2) h3 h4 (by omega) (by omega) ht h9
       exact ⟨by rw [q1, ei, ej], q2, by omega, q4⟩
     · rw [if_neg cj] at h2 g2
       exfalso
       have hj : j < n := by omega
       rw [← old j hj] at h8
       have := uniq hA i j (by omega) (by omega) h8
       omega
   · rw [if_neg ci] at h1 g1
     have hi : i < n := by omega
     by_cases cj : (j : Int) = n
     · rw [if_pos cj] at h2 g2
       exfalso
       rw [old i hi] at h8
       have := uniq hB i j (by omega) (by omega) h8
       omega
     · rw [if_neg cj] at h2 g2
       have hj : j < n := by omega
       rw [← old j hj] at h8
       have eij := uniq hA i j (by omega) (by omega) h8
       obtain ⟨q1, q2, q3, q4⟩ := ih M n a b (fun z hz => hL z (List.mem_cons_of_mem _ hz)) (fun z hz => hM z (List.mem_cons_of_mem _ hz)) h1 h2 h3 h4 h5 h6 h7 h9
       exact ⟨by rw [q1, eij], q2, q3, q4⟩
end Go.Proofs.YthjhaogfpdkhbaaDoor.P
/- Chapter 5, in plain Lean: the texts of two readable grammars are the same just if the grammars are. -/
namespace Go.Proofs.YthjhaogfpdkhbaaDoor.P
open Go.RowKit
open B (S52)

theorem ba_inj {a b : ByteArray} (h : a.data.toList = b.data.toList) : a = b := by
 cases a; cases b
 have := Array.ext' h
 simp only at this
 rw [this]
structure Rdb (l0 l1 : List ByteArray) (a2 : Int) (R : List S52) : Prop where
 n0 : l0.Nodup
 n1 : l1.Nodup
 fr : ∀ x ∈ l1, freeL x.data.toList = true
 ax : a2 = 0
 pos : 0 < l1.length
 lf : riseL (leftsL R) 0 = some (l1.length : Int)
 tm : riseL (termsL R) 0 = some (l0.length : Int)
 ok : ∀ x ∈ R, 0 ≤ x.f0 ∧ x.f0 < (l1.length : Int) ∧ ∀ s ∈ x.f1, s < (l0.length : Int) ∧ -(l1.length : Int) ≤ s
theorem free_facts {l : List UInt8} (h : freeL l = true) : ((∀ c ∈ l, plainB c = true) ∧ l ≠ []) ∧ l ≠ [58] ∧ l ≠ [124] := by
 unfold freeL at h
 simp only [Bool.and_eq_true, Bool.not_eq_true', beq_eq_false_iff_ne, ne_eq] at h
 exact ⟨plain_all h.1, h.2.1, h.2.2⟩
theorem quote_not {n a : List UInt8} (ha : (∀ c ∈ a, plainB c = true) ∧ a ≠ []) : quoteL n ≠ a := by
 intro e
 have : a ++ [] = quoteL n ++ [] := by rw [e]
 exact plain_quote ha this
section
variable {l0 l1 l0' l1' : List ByteArray} {a2 a2' : Int} {R R' : List S52}
def InR (l0 l1 : List ByteArray) (s : Int) : Prop := s < (l0.length : Int) ∧ -(l1.length : Int) ≤ s
theorem mem_getD {l : List ByteArray} {i : Nat} (h : i < l.length) : l.getD i ByteArray.empty ∈ l := by
 rw [List.getD_eq_getElem?_getD, List.getElem?_eq_getElem h]
 exact List.getElem_mem h
theorem sym_non (fr : ∀ x ∈ l1, freeL x.data.toList = true) {s : Int} (hs : InR l0 l1 s) (h : s < 0) : symL l0 l1 s = (l1.getD (-1 - s).toNat ByteArray.empty).data.toList ∧ freeL (l1.getD (-1 - s).toNat ByteArray.empty).data.toList = true := by
 obtain ⟨h1, h2⟩ := hs
 have hf := fr _ (mem_getD (l := l1) (i := (-1 - s).toNat) (by omega))
 unfold symL
 rw [if_neg (by omega), if_neg (by omega), if_pos (by omega), if_pos hf]
 exact ⟨rfl, hf⟩
theorem sym_term {s : Int} (hs : InR l0 l1 s) (h : 0 ≤ s) : (symL l0 l1 s = quoteL (l0.getD s.toNat ByteArray.empty).data.toList) ∨ (symL l0 l1 s = (l0.getD s.toNat ByteArray.empty).data.toList ∧ freeL (l0.getD s.toNat ByteArray.empty).data.toList = true ∧ l0.getD s.toNat ByteArray.empty ∉ l1) := by
 obtain ⟨h1, h2⟩ := hs
 unfold symL
 rw [if_neg (by omega), if_pos h, if_pos h1]
 by_cases c : l0.getD s.toNat ByteArray.empty ∈ l1 ∨ freeL (l0.getD s.toNat ByteArray.empty).data.toList = false
 · rw [if_pos c]; exact .inl rfl
 · rw [if_neg c]
   exact .inr ⟨rfl, by cases h : freeL (l0.getD s.toNat ByteArray.empty).data.toList with | true => rfl | false => exact absurd (.inr h) c, fun h => c (.inl h)⟩
theorem sym_wd (fr : ∀ x ∈ l1, freeL x.data.toList = true) {s : Int} (hs : InR l0 l1 s) : Wrd (symL l0 l1 s) ∧ symL l0 l1 s ≠ [124] := by
 by_cases h : s < 0
 · obtain ⟨e, hf⟩ := sym_non fr hs h
   obtain ⟨g1, g2, g3⟩ := free_facts hf
   rw [e]
   exact ⟨.inl g1, g3⟩
 · rcases sym_term hs (by omega) with e | ⟨e, hf, _⟩
   · rw [e]
     exact ⟨.inr ⟨_, rfl⟩, quote_not ⟨by decide, by decide⟩⟩
   · obtain ⟨g1, g2, g3⟩ := free_facts hf
     rw [e]
     exact ⟨.inl g1, g3⟩
theorem sym_inj (n1 : l1.Nodup) (fr : ∀ x ∈ l1, freeL x.data.toList = true) {s t : Int} (hs : InR l0 l1 s) (ht : InR l0' l1 t) (h : symL l0 l1 s = symL l0' l1 t) : (s < 0 ∧ t = s) ∨ (0 ≤ s ∧ 0 ≤ t ∧ l0.getD s.toNat ByteArray.empty = l0'.getD t.toNat ByteArray.empty) := by
 by_cases c : s < 0
 · left
   obtain ⟨e, hf⟩ := sym_non fr hs c
   rw [e] at h
   by_cases d : t < 0
   · obtain ⟨e', hf'⟩ := sym_non fr ht d
     rw [e'] at h
     have h' := ba_inj h
     obtain ⟨_, h2⟩ := hs
     obtain ⟨_, h4⟩ := ht
     rw [List.getD_eq_getElem?_getD, List.getD_eq_getElem?_getD, List.getElem?_eq_getElem (by omega), List.getElem?_eq_getElem (by omega)] at h'
     have := (List.getElem_inj n1).1 h'
     exact ⟨c, by omega⟩
   · exfalso
     rcases sym_term ht (by omega) with e' | ⟨e', hf', hn⟩
     · rw [e'] at h
       exact quote_not (free_facts hf).1 h.symm
     · rw [e'] at h
       rw [← ba_inj h] at hn
       exact hn (mem_getD (by obtain ⟨_, h2⟩ := hs; omega))
 · right
   by_cases d : t < 0
   · exfalso
     obtain ⟨e, hf⟩ := sym_non fr ht d
     rw [e] at h
     rcases sym_term hs (by omega) with e' | ⟨e', hf', hn⟩
     · rw [e'] at h
       exact quote_not (free_facts hf).1 h
     · rw [e'] at h
       rw [ba_inj h] at hn
       exact hn (mem_getD (by obtain ⟨_, h2⟩ := ht; omega))
   · refine ⟨by omega, by omega, ?_⟩
     rcases sym_term hs (by omega) with e | ⟨e, hf, hn⟩
     · rw [e] at h
       rcases sym_term ht (by omega) with e' | ⟨e', hf', hn'⟩
       · rw [e'] at h
         have : quoteL (l0.getD s.toNat ByteArray.empty).data.toList ++ [] = quoteL (l0'.getD t.toNat ByteArray.empty).data.toList ++ [] := by rw [h]
         exact ba_inj (quote_cancel this).1
       · rw [e'] at h
         exact (quote_not (free_facts hf').1 h).elim
     · rw [e] at h
       rcases sym_term ht (by omega) with e' | ⟨e', hf', hn'⟩
       · rw [e'] at h
         exact (quote_not (free_facts hf).1 h.symm).elim
       · rw [e'] at h
         exact ba_inj h
def itemA (l0 l1 : List ByteArray) (p : Option Int) (x : S52) : List (UInt8 × List UInt8) :=
 (if p = some x.f0 then [(32, [124])] else [(10, symL l0 l1 (-1 - x.f0)), (32, [58])]) ++ x.f1.map fun s => (32, symL l0 l1 s)
def items (l0 l1 : List ByteArray) : Option Int → List S52 → List (UInt8 × List UInt8)
 | _, [] => []
 | p, x :: r => itemA l0 l1 p x ++ items l0 l1 (some x.f0) r
theorem flatW_syms (l : List Int) : flatW (l.map fun s => ((32 : UInt8), symL l0 l1 s)) = tlL l0 l1 l := by simp [flatW, tlL, List.flatMap_map]
theorem altL_item (p : Option Int) (x : S52) : flatW (itemA l0 l1 p x) = (if p = none then [10] else []) ++ altL l0 l1 p x := by
 unfold itemA altL
 rw [flatW_append, flatW_syms]
 by_cases c : p = some x.f0
 · rw [if_pos c, if_pos c, if_neg (by rw [c]; simp)]
   simp [flatW]
 · rw [if_neg c, if_neg c]
   by_cases d : p = none
   · rw [if_pos d, if_pos d]; simp [flatW]
   · rw [if_neg d, if_neg d]; simp [flatW]
theorem alts_items : ∀ (R : List S52) (q : Int), flatW (items l0 l1 (some q) R) = altsL l0 l1 (some q) R
 | [], q => rfl
 | x :: R, q => by
  unfold items altsL
  rw [flatW_append, altL_item, alts_items R x.f0, if_neg (by simp)]; rfl
theorem text_items (h : R ≠ []) : flatW (items l0 l1 none R) ++ [10] = 10 :: textL l0 l1 R := by
 cases R with
 | nil => exact absurd rfl h
 | cons x R =>
  unfold items textL altsL
  rw [flatW_append, altL_item, alts_items R x.f0, if_pos rfl]; simp
theorem items_ok (fr : ∀ x ∈ l1, freeL x.data.toList = true) : ∀ (R : List S52) (p : Option Int), (∀ x ∈ R, 0 ≤ x.f0 ∧ x.f0 < (l1.length : Int) ∧ ∀ s ∈ x.f1, InR l0 l1 s) → OkW (items l0 l1 p R)
 | [], _, _ => fun x hx => by cases hx
 | y :: R, p, h => by
  intro x hx
  unfold items at hx
  have hy := h y List.mem_cons_self
  rcases List.mem_append.1 hx with hx | hx
  · unfold itemA at hx
    rcases List.mem_append.1 hx with hx | hx
    · split at hx
      · obtain rfl := List.mem_singleton.1 hx
        exact ⟨.inl rfl, .inl ⟨by decide, by decide⟩⟩
      · rcases List.mem_cons.1 hx with rfl | hx
        · exact ⟨.inr rfl, (sym_wd fr ⟨by omega, by omega⟩).1⟩
        · obtain rfl := List.mem_singleton.1 hx
          exact ⟨.inl rfl, .inl ⟨by decide, by decide⟩⟩
    · obtain ⟨s, hs, rfl⟩ := List.mem_map.1 hx
      exact ⟨.inl rfl, (sym_wd fr (hy.2.2 s hs)).1⟩
  · exact items_ok fr R _ (fun z hz => h z (List.mem_cons_of_mem _ hz)) x hx
def decA (l0 l1 : List ByteArray) (x : S52) : List UInt8 × List (List UInt8) := (symL l0 l1 (-1 - x.f0), x.f1.map fun s => symL l0 l1 s)
def isS (x : UInt8 × List UInt8) : Prop := x.1 = 32 ∧ x.2 ≠ [124]
theorem items_head (R : List S52) (p : Option Int) : ∀ c t, items l0 l1 p R = c :: t → ¬ isS c := by
 intro c t h
 cases R with
 | nil => cases h
 | cons x R =>
  unfold items itemA at h
  split at h
  · injection h with h1 _
    rw [← h1]; exact fun h => h.2 rfl
  · injection h with h1 _
    rw [← h1]; exact fun h => absurd (show (10 : UInt8) = 32 from h.1) (by decide)
theorem syms_is (fr : ∀ x ∈ l1, freeL x.data.toList = true) {l : List Int} (h : ∀ s ∈ l, InR l0 l1 s) : ∀ c ∈ l.map (fun s => ((32 : UInt8), symL l0 l1 s)), isS c := by
 intro c hc
 obtain ⟨s, hs, rfl⟩ := List.mem_map.1 hc
 exact ⟨rfl, (sym_wd fr (h s hs)).2⟩
theorem dec_inj (fr : ∀ x ∈ l1, freeL x.data.toList = true) (fr' : ∀ x ∈ l1', freeL x.data.toList = true) : ∀ (R R' : List S52) (p p' : Option Int), (∀ x ∈ R, 0 ≤ x.f0 ∧ x.f0 < (l1.length : Int) ∧ ∀ s ∈ x.f1, InR l0 l1 s) → (∀ x ∈ R', 0 ≤ x.f0 ∧ x.f0 < (l1'.length : Int) ∧ ∀ s ∈ x.f1, InR l0' l1' s) →
 p.map (fun q => symL l0 l1 (-1 - q)) = p'.map (fun q => symL l0' l1' (-1 - q)) → items l0 l1 p R = items l0' l1' p' R' → R.map (decA l0 l1) = R'.map (decA l0' l1')
 | [], [], _, _, _, _, _, _ => rfl
 | [], y :: R', p, p', _, _, _, h => by
  unfold items itemA at h
  split at h <;> cases h
 | x :: R, [], p, p', _, _, _, h => by
  unfold items itemA at h
  split at h <;> cases h
 | x :: R, y :: R', p, p', hx, hy, hp, h => by
  have hx0 := hx x List.mem_cons_self
  have hy0 := hy y List.mem_cons_self
  have hR : ∀ z ∈ R, 0 ≤ z.f0 ∧ z.f0 < (l1.length : Int) ∧ ∀ s ∈ z.f1, InR l0 l1 s := fun z hz => hx z (List.mem_cons_of_mem _ hz)
  have hR' : ∀ z ∈ R', 0 ≤ z.f0 ∧ z.f0 < (l1'.length : Int) ∧ ∀ s ∈ z.f1, InR l0' l1' s := fun z hz => hy z (List.mem_cons_of_mem _ hz)
  have key : symL l0 l1 (-1 - x.f0) = symL l0' l1' (-1 - y.f0) ∧ (x.f1.map fun s => ((32 : UInt8), symL l0 l1 s)) ++ items l0 l1 (some x.f0) R = (y.f1.map fun s => ((32 : UInt8), symL l0' l1' s)) ++ items l0' l1' (some y.f0) R' := by
   have h' : itemA l0 l1 p x ++ items l0 l1 (some x.f0) R = itemA l0' l1' p' y ++ items l0' l1' (some y.f0) R' := h
   unfold itemA at h'
   by_cases c : p = some x.f0
   · rw [if_pos c] at h'
     by_cases d : p' = some y.f0
     · rw [if_pos d] at h'
       simp only [List.cons_append, List.nil_append] at h'
       injection h' with _ h'
       rw [c, d] at hp
       exact ⟨Option.some.inj hp, h'⟩
     · rw [if_neg d] at h'
       simp only [List.cons_append, List.nil_append] at h'
       injection h' with h1 _
       injection h1 with h1 _
       exact absurd h1 (by decide)
   · rw [if_neg c] at h'
     by_cases d : p' = some y.f0
     · rw [if_pos d] at h'
       simp only [List.cons_append, List.nil_append] at h'
       injection h' with h1 _
       injection h1 with h1 _
       exact absurd h1 (by decide)
     · rw [if_neg d] at h'
       simp only [List.cons_append, List.nil_append] at h'
       injection h' with h1 h'
       injection h' with _ h'
       injection h1 with _ h1
       exact ⟨h1, h'⟩
  obtain ⟨k1, k2⟩ := key
  obtain ⟨e1, e2⟩ := span_cancel isS (syms_is fr hx0.2.2) (syms_is fr' hy0.2.2) (items_head R _) (items_head R' _) k2
  have e3 : x.f1.map (fun s => symL l0 l1 s) = y.f1.map (fun s => symL l0' l1' s) := by
   have := congrArg (List.map fun z : UInt8 × List UInt8 => z.2) e1
   rw [List.map_map, List.map_map] at this
   exact this
  rw [List.map_cons, List.map_cons, dec_inj fr fr' R R' (some x.f0) (some y.f0) hR hR' (by simp [k1]) e2]
  congr 1
  unfold decA
  rw [k1, e3]
theorem terms_names {f g : List Int} (n1 : l1.Nodup) (fr : ∀ x ∈ l1, freeL x.data.toList = true) (hf : ∀ s ∈ f, InR l0 l1 s) (hg : ∀ s ∈ g, InR l0' l1 s) (h : f.map (fun s => symL l0 l1 s) = g.map (fun s => symL l0' l1 s)) :
 (f.filter fun s => decide (0 ≤ s)).map (fun s => l0.getD s.toNat ByteArray.empty) = (g.filter fun s => decide (0 ≤ s)).map (fun s => l0'.getD s.toNat ByteArray.empty) := by
 induction f generalizing g with
 | nil =>
  cases g with
  | nil => rfl
  | cons t g => simp at h
 | cons s f ih =>
  cases g with
  | nil => simp at h
  | cons t g =>
   rw [List.map_cons, List.map_cons] at h
   injection h with h1 h2
   have ih' := ih (g := g) (fun z hz => hf z (List.mem_cons_of_mem _ hz)) (fun z hz => hg z (List.mem_cons_of_mem _ hz)) h2
   rcases sym_inj n1 fr (hf s List.mem_cons_self) (hg t List.mem_cons_self) h1 with ⟨c, rfl⟩ | ⟨c, d, e⟩
   · have : decide (0 ≤ t) = false := decide_eq_false (by omega)
     rw [List.filter_cons, List.filter_cons, this]
     exact ih'
   · rw [List.filter_cons, List.filter_cons, decide_eq_true c, decide_eq_true d]
     simp only [if_true, List.map_cons]
     rw [e, ih']
theorem terms_all (n1 : l1.Nodup) (fr : ∀ x ∈ l1, freeL x.data.toList = true) : ∀ (R R' : List S52), (∀ x ∈ R, ∀ s ∈ x.f1, InR l0 l1 s) → (∀ x ∈ R', ∀ s ∈ x.f1, InR l0' l1 s) → R.map (decA l0 l1) = R'.map (decA l0' l1) →
 (termsL R).map (fun s => l0.getD s.toNat ByteArray.empty) = (termsL R').map (fun s => l0'.getD s.toNat ByteArray.empty)
 | [], [], _, _, _ => rfl
 | [], _ :: _, _, _, h => by simp at h
 | _ :: _, [], _, _, h => by simp at h
 | x :: R, y :: R', hx, hy, h => by
  rw [List.map_cons, List.map_cons] at h
  injection h with h1 h2
  have ih := terms_all n1 fr R R' (fun z hz => hx z (List.mem_cons_of_mem _ hz)) (fun z hz => hy z (List.mem_cons_of_mem _ hz)) h2
  have h3 : x.f1.map (fun s => symL l0 l1 s) = y.f1.map (fun s => symL l0' l1 s) := congrArg (fun z => z.2) h1
  have h4 := terms_names n1 fr (hx x List.mem_cons_self) (hy y List.mem_cons_self) h3
  have e : ∀ (z : S52) (Q : List S52), termsL (z :: Q) = (z.f1.filter fun s => decide (0 ≤ s)) ++ termsL Q := fun z Q => by simp [termsL]
  rw [e, e, List.map_append, List.map_append, h4, ih]
theorem side_inj (n0 : l0.Nodup) (n1 : l1.Nodup) (fr : ∀ x ∈ l1, freeL x.data.toList = true) : ∀ (f g : List Int), (∀ s ∈ f, InR l0 l1 s) → (∀ s ∈ g, InR l0 l1 s) → f.map (fun s => symL l0 l1 s) = g.map (fun s => symL l0 l1 s) → f = g
 | [], [], _, _, _ => rfl
 | [], _ :: _, _, _, h => by simp at h
 | _ :: _, [], _, _, h => by simp at h
 | s :: f, t :: g, hf, hg, h => by
  rw [List.map_cons, List.map_cons] at h
  injection h with h1 h2
  rw [side_inj n0 n1 fr f g (fun z hz => hf z (List.mem_cons_of_mem _ hz)) (fun z hz => hg z (List.mem_cons_of_mem _ hz)) h2]
  congr 1
  have h3 := hf s List.mem_cons_self
  have h4 := hg t List.mem_cons_self
  rcases sym_inj n1 fr h3 h4 h1 with ⟨c, e⟩ | ⟨c, d, e⟩
  · exact e.symm
  · obtain ⟨q1, _⟩ := h3
    obtain ⟨q2, _⟩ := h4
    rw [List.getD_eq_getElem?_getD, List.getD_eq_getElem?_getD, List.getElem?_eq_getElem (by omega), List.getElem?_eq_getElem (by omega)] at e
    have := (List.getElem_inj n0).1 e
    omega
theorem text_inj (h : Rdb l0 l1 a2 R) (h' : Rdb l0' l1' a2' R') (e : textL l0 l1 R = textL l0' l1' R') : l0 = l0' ∧ l1 = l1' ∧ a2 = a2' ∧ R = R' := by
 have hne : ∀ {l0 l1 : List ByteArray} {a2 : Int} {R : List S52}, Rdb l0 l1 a2 R → R ≠ [] := by
  intro l0 l1 a2 R h e
  subst e
  have := Option.some.inj h.lf
  have := h.pos
  omega
 have hit : items l0 l1 none R = items l0' l1' none R' := by
  refine flat_inj (items_ok h.fr R none h.ok) (items_ok h'.fr R' none h'.ok) ?_
  rw [text_items (hne h), text_items (hne h'), e]
 have hd := dec_inj h.fr h'.fr R R' none none h.ok h'.ok rfl hit
 have hle : ∀ {l0 l1 : List ByteArray} {a2 : Int} {R : List S52}, Rdb l0 l1 a2 R → ∀ x ∈ leftsL R, 0 ≤ x := by
  intro l0 l1 a2 R h x hx
  obtain ⟨y, hy, rfl⟩ := List.mem_map.1 hx
  exact (h.ok y hy).1
 have hnm : ∀ {l0 l1 : List ByteArray} {a2 : Int} {R : List S52}, Rdb l0 l1 a2 R → (leftsL R).map (fun x => (l1.getD x.toNat ByteArray.empty).data.toList) = (R.map (decA l0 l1)).map fun z => z.1 := by
  intro l0 l1 a2 R h
  unfold leftsL
  rw [List.map_map, List.map_map]
  refine List.map_congr_left fun x hx => ?_
  obtain ⟨q1, q2, _⟩ := h.ok x hx
  have := (sym_non (l0 := l0) h.fr (s := -1 - x.f0) ⟨by omega, by omega⟩ (by omega)).1
  show _ = (decA l0 l1 x).1
  unfold decA
  rw [this, show (-1 - (-1 - x.f0)) = x.f0 by omega]
  rfl
 have hmap : (leftsL R).map (fun x => l1.getD x.toNat ByteArray.empty) = (leftsL R').map (fun x => l1'.getD x.toNat ByteArray.empty) := by
  have e1 : (leftsL R).map (fun x => (l1.getD x.toNat ByteArray.empty).data.toList) = (leftsL R').map (fun x => (l1'.getD x.toNat ByteArray.empty).data.toList) := by rw [hnm h, hnm h', hd]
  have e2 : ∀ (L M : List Int), L.map (fun x => (l1.getD x.toNat ByteArray.empty).data.toList) = M.map (fun x => (l1'.getD x.toNat ByteArray.empty).data.toList) → L.map (fun x => l1.getD x.toNat ByteArray.empty) = M.map (fun x => l1'.getD x.toNat ByteArray.empty) := by
   intro L
   induction L with
   | nil =>
    intro M hM
    cases M with
    | nil => rfl
    | cons y M => simp at hM
   | cons x L ih =>
    intro M hM
    cases M with
    | nil => simp at hM
    | cons y M =>
     rw [List.map_cons, List.map_cons] at hM ⊢
     injection hM with g1 g2
     rw [ba_inj g1, ih M g2]
  exact e2 _ _ e1
 obtain ⟨r1, r2, _, r4⟩ := rise_inj ByteArray.empty h.n1 h'.n1 (leftsL R) (leftsL R') 0 _ _ (hle h) (hle h') h.lf h'.lf (Int.le_refl _) (Int.le_refl _) (Nat.zero_le _) (Nat.zero_le _) rfl hmap
 have e1 : l1 = l1' := by
  have r2' : l1.length = l1'.length := by omega
  rw [Int.toNat_natCast, List.take_length] at r4
  rw [r4, r2', List.take_length]
 subst e1
 have ht0 : ∀ (R : List S52), ∀ x ∈ termsL R, 0 ≤ x := by
  intro R x hx
  obtain ⟨y, _, hy⟩ := List.mem_flatMap.1 hx
  simpa using (List.mem_filter.1 hy).2
 have htm := terms_all h.n1 h.fr R R' (fun x hx => (h.ok x hx).2.2) (fun x hx => (h'.ok x hx).2.2) hd
 obtain ⟨t1, t2, _, t4⟩ := rise_inj ByteArray.empty h.n0 h'.n0 (termsL R) (termsL R') 0 _ _ (ht0 R) (ht0 R') h.tm h'.tm (Int.le_refl _) (Int.le_refl _) (Nat.zero_le _) (Nat.zero_le _) rfl htm
 have e0 : l0 = l0' := by
  have t2' : l0.length = l0'.length := by omega
  rw [Int.toNat_natCast, List.take_length] at t4
  rw [t4, t2', List.take_length]
 subst e0
 refine ⟨rfl, rfl, by rw [h.ax, h'.ax], ?_⟩
 have all : ∀ (Q Q' : List S52), (∀ x ∈ Q, ∀ s ∈ x.f1, InR l0 l1 s) → (∀ x ∈ Q', ∀ s ∈ x.f1, InR l0 l1 s) → leftsL Q = leftsL Q' → Q.map (decA l0 l1) = Q'.map (decA l0 l1) → Q = Q' := by
  intro Q
  induction Q with
  | nil =>
   intro Q' _ _ h1 _
   cases Q' with
   | nil => rfl
   | cons y Q' => simp [leftsL] at h1
  | cons x Q ih =>
   intro Q' hq hq' h1 h2
   cases Q' with
   | nil => simp [leftsL] at h1
   | cons y Q' =>
    rw [List.map_cons, List.map_cons] at h2
    injection h2 with h2 h3
    have h1' : x.f0 :: leftsL Q = y.f0 :: leftsL Q' := h1
    injection h1' with h4 h5
    rw [ih Q' (fun z hz => hq z (List.mem_cons_of_mem _ hz)) (fun z hz => hq' z (List.mem_cons_of_mem _ hz)) h5 h3]
    congr 1
    have h6 : x.f1.map (fun s => symL l0 l1 s) = y.f1.map (fun s => symL l0 l1 s) := congrArg (fun z => z.2) h2
    have h7 := side_inj h.n0 h.n1 h.fr x.f1 y.f1 (hq x List.mem_cons_self) (hq' y List.mem_cons_self) h6
    obtain ⟨x0, x1⟩ := x
    obtain ⟨y0, y1⟩ := y
    dsimp only at h4 h7
    rw [h4, h7]
 exact all R R' (fun x hx => (h.ok x hx).2.2) (fun x hx => (h'.ok x hx).2.2) r1 hd
end
end Go.Proofs.YthjhaogfpdkhbaaDoor.P
/- Text's two answers; the text tells the grammar. -/
namespace Go.Proofs.YthjhaogfpdkhbaaDoor.Sh
open Go.RowKit YthjhaogfpdkhbaaDoorW.PrintWords YthjhaogfpdkhbaaDoorW.PrintLast YthjhaogfpdkhbaaDoorW.PrintMore
open B H F
theorem namesOK_nd {l : List ByteArray} (h : namesOK l = true) : l.Nodup := by
 refine List.pairwise_iff_getElem.2 fun i j hi hj hij e => ?_
 refine namesOK_nodup h j hj ?_
 rw [← e]
 exact List.mem_take_iff_getElem.2 ⟨i, by omega, rfl⟩
theorem Rd.rdb {l0 l1 : List ByteArray} {a2 : Int} {R : List S52} (h : Rd l0 l1 a2 R) : P.Rdb l0 l1 a2 R := by
 have hf := h.form
 unfold P.formB at hf
 simp only [Bool.and_eq_true, decide_eq_true_eq] at hf
 have h0 := h.ax0
 have h1 := h.ax1
 exact ⟨namesOK_nd h.names0, namesOK_nd h.names1, h.fr, hf.1, by omega, hf.2.1, hf.2.2, fun x hx => by
  have := okR_sides (h.ok x hx)
  exact ⟨this.2.1, this.2.2.1, this.2.2.2⟩⟩
theorem textP_ok {l0 l1 : List ByteArray} {a2 : Int} {R : List S52} (h : (textP l0 l1 a2 R).2 = 0) : readK l0 l1 a2 R = 0 ∧ (textP l0 l1 a2 R).1 = P.textL l0 l1 R := by
 unfold textP at h ⊢
 split at h
 · rename_i hk
   split at h
   · exact absurd h (by decide)
   · rename_i hl
     rw [if_pos hk, if_neg hl]
     exact ⟨hk, rfl⟩
 · rename_i hk
   exact absurd h hk
theorem textP_bad {l0 l1 : List ByteArray} {a2 : Int} {R : List S52} (h : (textP l0 l1 a2 R).2 ≠ 0) : (textP l0 l1 a2 R).1 = [] := by
 unfold textP at h ⊢
 split at h
 · rename_i hk
   split at h
   · rename_i hl
     rw [if_pos hk, if_pos hl]
   · exact absurd rfl h
 · rename_i hk
   rw [if_neg hk]
theorem text_iff {l0 l1 m0 m1 : List ByteArray} {a2 b2 : Int} {R Q : List S52} (h : (textP l0 l1 a2 R).2 = 0) (h' : (textP m0 m1 b2 Q).2 = 0) :
 (textP l0 l1 a2 R).1 = (textP m0 m1 b2 Q).1 ↔ (l0 = m0 ∧ l1 = m1 ∧ a2 = b2 ∧ R.map prR = Q.map prR) := by
 obtain ⟨r1, e1⟩ := textP_ok h
 obtain ⟨r2, e2⟩ := textP_ok h'
 rw [e1, e2, prR_inj]
 constructor
 · exact fun e => P.text_inj (read_ok r1).rdb (read_ok r2).rdb e
 · rintro ⟨rfl, rfl, rfl, rfl⟩; rfl
section
variable (ad : Int → Addr) (A0 : Option Addr) (c0 : Nat) (l0 : List ByteArray) (A1 : Option Addr) (c1 : Nat) (l1 : List ByteArray) (a2 : Int) (A3 : Option Addr) (c3 : Nat) (R : List S52) (w : World) (hs : SentsK ad w) (hr0 : Kd.C Kd.string w A0 l0.length l0) (hc0 : l0.length ≤ c0) (hr1 : Kd.C Kd.string w A1 l1.length l1) (hc1 : l1.length ≤ c1) (hr3 : Kd.C k52 w A3 R.length R) (hc3 : R.length ≤ c3)
include hs hr0 hc0 hr1 hc1 hr3 hc3
theorem Text_ok (h : (textP l0 l1 a2 R).2 = 0) : Calls Tryd.prog 23 #[.agg #[.slice A0 l0.length c0, .slice A1 l1.length c1, .int .i64 a2, .slice A3 R.length c3]] w fun e w' => e = .returned (.tuple #[.string ⟨(textP l0 l1 a2 R).1.toArray⟩, .nilIface]) ∧ Below w.heap.size w w' := by
 refine (Text_calls ad A0 c0 l0 A1 c1 l1 a2 A3 c3 R w hs hr0 hc0 hr1 hc1 hr3 hc3).mono ?_
 rintro e w' ⟨E, r, rfl, hE, hb⟩
 obtain rfl := hE.nil h
 exact ⟨rfl, hb⟩
theorem Text_bad (h : (textP l0 l1 a2 R).2 ≠ 0) : Calls Tryd.prog 23 #[.agg #[.slice A0 l0.length c0, .slice A1 l1.length c1, .int .i64 a2, .slice A3 R.length c3]] w fun e w' => ∃ t u, e = .returned (.tuple #[.string ⟨#[]⟩, .iface t u]) ∧ Below w.heap.size w w' := by
 refine (Text_calls ad A0 c0 l0 A1 c1 l1 a2 A3 c3 R w hs hr0 hc0 hr1 hc1 hr3 hc3).mono ?_
 rintro e w' ⟨E, r, rfl, hE, hb⟩
 obtain ⟨t, u, rfl⟩ := hE.any h
 refine ⟨t, u, ?_, hb⟩
 rw [textP_bad h]
end
end Go.Proofs.YthjhaogfpdkhbaaDoor.Sh
/- dovetaillaw05.ShowOne: the walk (printed by tools/mk_showow.py). -/
namespace Go.Proofs.YthjhaogfpdkhbaaDoor.Sh
open Go.RowKit YthjhaogfpdkhbaaDoorW.PrintWords YthjhaogfpdkhbaaDoorW.PrintLast YthjhaogfpdkhbaaDoorW.PrintMore
open B H F D
def OT (w : World) (cs bs : Array Value) (W : World) : Prop := TN w (w.alloc (.cells cs 25)) cs bs W
theorem OT.low {w W : World} {cs bs : Array Value} (h : OT w cs bs W) : Below w.heap.size w W := TN.low h
theorem OT.more {w W W' : World} {cs bs : Array Value} (h : OT w cs bs W) (hb : Below W.heap.size W W') : OT w cs bs W' := TN.more h hb
theorem OT.start (w : World) (cs bs : Array Value) : OT w cs bs ((w.alloc (.cells cs 25)).alloc (.cells bs 25)) := TN.start (GS.start w cs)
theorem OT.cells {w W : World} {v0 v1 v2 v3 u0 u1 u2 u3 : Value} (h : OT w #[v0, v1, v2, v3] #[u0, u1, u2, u3] W) : W.cell? ⟨w.heap.size, 0, none⟩ = some v0 ∧ W.cell? ⟨w.heap.size, 1, none⟩ = some v1 ∧ W.cell? ⟨w.heap.size, 2, none⟩ = some v2 ∧ W.cell? ⟨w.heap.size, 3, none⟩ = some v3 ∧
 W.cell? ⟨w.heap.size + 1, 0, none⟩ = some u0 ∧ W.cell? ⟨w.heap.size + 1, 1, none⟩ = some u1 ∧ W.cell? ⟨w.heap.size + 1, 2, none⟩ = some u2 ∧ W.cell? ⟨w.heap.size + 1, 3, none⟩ = some u3 := by
 have h2 := TN.cells h
 rw [World.size_alloc] at h2
 exact h2
set_option maxHeartbeats 8000000 in
set_option maxRecDepth 100000 in
theorem ShowOne_00 (ad : Int → Addr) (A0 : Option Addr) (c0 : Nat) (l0 : List ByteArray) (A1 : Option Addr) (c1 : Nat) (l1 : List ByteArray) (l2 : Int) (A3 : Option Addr) (c3 : Nat) (l3 : List S52) (B0 : Option Addr) (d0 : Nat) (m0 : List ByteArray) (B1 : Option Addr) (d1 : Nat) (m1 : List ByteArray) (m2 : Int) (B3 : Option Addr) (d3 : Nat) (m3 : List S52) (w : World) (hs : SentsK ad w) (r0 : Kd.C Kd.string w A0 l0.length l0) (rc0 : l0.length ≤ c0) (r1 : Kd.C Kd.string w A1 l1.length l1) (rc1 : l1.length ≤ c1) (r3 : Kd.C k52 w A3 l3.length l3) (rc3 : l3.length ≤ c3) (s0 : Kd.C Kd.string w B0 m0.length m0) (sc0 : m0.length ≤ d0) (s1 : Kd.C Kd.string w B1 m1.length m1) (sc1 : m1.length ≤ d1) (s3 : Kd.C k52 w B3 m3.length m3) (sc3 : m3.length ≤ d3)
 (b0 : l0.length < 8796093022207) (b1 : l1.length < 8796093022207) (b3 : l3.length < 4398046511104) (bx : ∀ x ∈ l3, x.f1.length < 17592186044415) (k0 : m0.length < 8796093022207) (k1 : m1.length < 8796093022207) (k3 : m3.length < 4398046511104) (kx : ∀ x ∈ m3, x.f1.length < 17592186044415) (h1 : (textP l0 l1 l2 l3).2 ≠ 0) (h2 : (textP m0 m1 m2 m3).2 ≠ 0) :
 Calls Tryd.prog 6 #[.agg #[.slice A0 l0.length c0, .slice A1 l1.length c1, .int .i64 l2, .slice A3 l3.length c3], .agg #[.slice B0 m0.length d0, .slice B1 m1.length d1, .int .i64 m2, .slice B3 m3.length d3]] w fun e w' => e = .returned (.bool true) ∧ Below w.heap.size w w' := by
 obtain ⟨cs, hcs⟩ : ∃ cs : Array Value, cs = #[.slice A0 l0.length c0, .slice A1 l1.length c1, .int .i64 l2, .slice A3 l3.length c3] := ⟨_, rfl⟩
 obtain ⟨bs, hbs⟩ : ∃ bs : Array Value, bs = #[.slice B0 m0.length d0, .slice B1 m1.length d1, .int .i64 m2, .slice B3 m3.length d3] := ⟨_, rfl⟩
 have st : OT w cs bs ((w.alloc (.cells #[.slice A0 l0.length c0, .slice A1 l1.length c1, .int .i64 l2, .slice A3 l3.length c3] 25)).alloc (.cells #[.slice B0 m0.length d0, .slice B1 m1.length d1, .int .i64 m2, .slice B3 m3.length d3] 25)) := by subst hcs hbs; exact OT.start w _ _
 have CE : ∀ W, OT w cs bs W → W.cell? ⟨w.heap.size, 0, none⟩ = some (.slice A0 l0.length c0) ∧ W.cell? ⟨w.heap.size, 1, none⟩ = some (.slice A1 l1.length c1) ∧ W.cell? ⟨w.heap.size, 2, none⟩ = some (.int .i64 l2) ∧ W.cell? ⟨w.heap.size, 3, none⟩ = some (.slice A3 l3.length c3) ∧ W.cell? ⟨w.heap.size + 1, 0, none⟩ = some (.slice B0 m0.length d0) ∧ W.cell? ⟨w.heap.size + 1, 1, none⟩ = some (.slice B1 m1.length d1) ∧ W.cell? ⟨w.heap.size + 1, 2, none⟩ = some (.int .i64 m2) ∧ W.cell? ⟨w.heap.size + 1, 3, none⟩ = some (.slice B3 m3.length d3) := by
  intro W hW; subst hcs hbs; exact hW.cells
 have kN : ∀ W, OT w cs bs W → Calls Tryd.prog 27 #[] W fun e w' => e = .returned (.bool true) ∧ Aside0 (OT w cs bs w') ∧ w'.cell? ⟨w.heap.size, 0, none⟩ = some (.slice A0 l0.length c0) ∧ w'.cell? ⟨w.heap.size, 1, none⟩ = some (.slice A1 l1.length c1) ∧ w'.cell? ⟨w.heap.size, 2, none⟩ = some (.int .i64 l2) ∧ w'.cell? ⟨w.heap.size, 3, none⟩ = some (.slice A3 l3.length c3) ∧ w'.cell? ⟨w.heap.size + 1, 0, none⟩ = some (.slice B0 m0.length d0) ∧ w'.cell? ⟨w.heap.size + 1, 1, none⟩ = some (.slice B1 m1.length d1) ∧ w'.cell? ⟨w.heap.size + 1, 2, none⟩ = some (.int .i64 m2) ∧ w'.cell? ⟨w.heap.size + 1, 3, none⟩ = some (.slice B3 m3.length d3) := fun W hW => (known_calls ad W (hs.below hW.low)).mono fun e w' ⟨he, hb⟩ => ⟨he, ⟨hW.more hb⟩, CE _ (hW.more hb)⟩
 have kL1 : ∀ W, OT w cs bs W → Calls Tryd.prog 10 #[.agg #[.slice A0 l0.length c0, .slice A1 l1.length c1, .int .i64 l2, .slice A3 l3.length c3]] W fun e w' => ∃ E0 e0 E1 e1 E3 e3, e = .returned (.agg #[.slice E0 l0.length e0, .slice E1 l1.length e1, .int .i64 l2, .slice E3 l3.length e3]) ∧ Aside0 (MG w' E0 e0 l0 E1 e1 l1 E3 e3 l3 ∧ OT w cs bs w') :=
  fun W hW => (LentGrammar_m A0 c0 l0 A1 c1 l1 l2 A3 c3 l3 W (Kd.C_below r0 hW.low) (Kd.C_below r1 hW.low) (Kd.C_below r3 hW.low) b0 b1 b3 bx).mono fun e w' ⟨E0, e0, E1, e1, E3, e3, he, hm⟩ => ⟨E0, e0, E1, e1, E3, e3, he, ⟨hm.out.1, hW.more hm.out.2⟩⟩
 have kL2 : ∀ W, OT w cs bs W → Calls Tryd.prog 10 #[.agg #[.slice B0 m0.length d0, .slice B1 m1.length d1, .int .i64 m2, .slice B3 m3.length d3]] W fun e w' => ∃ E0 e0 E1 e1 E3 e3, e = .returned (.agg #[.slice E0 m0.length e0, .slice E1 m1.length e1, .int .i64 m2, .slice E3 m3.length e3]) ∧ Aside0 (MG w' E0 e0 m0 E1 e1 m1 E3 e3 m3 ∧ OT w cs bs w') :=
  fun W hW => (LentGrammar_m B0 d0 m0 B1 d1 m1 m2 B3 d3 m3 W (Kd.C_below s0 hW.low) (Kd.C_below s1 hW.low) (Kd.C_below s3 hW.low) k0 k1 k3 kx).mono fun e w' ⟨E0, e0, E1, e1, E3, e3, he, hm⟩ => ⟨E0, e0, E1, e1, E3, e3, he, ⟨hm.out.1, hW.more hm.out.2⟩⟩
 have kT1 : ∀ W E0 e0 E1 e1 E3 e3, MG W E0 e0 l0 E1 e1 l1 E3 e3 l3 ∧ OT w cs bs W → Calls Tryd.prog 23 #[.agg #[.slice E0 l0.length e0, .slice E1 l1.length e1, .int .i64 l2, .slice E3 l3.length e3]] W fun e w' => ∃ t u, e = .returned (.tuple #[.string ⟨#[]⟩, .iface t u]) ∧ Aside0 (OT w cs bs w') ∧ w'.cell? ⟨w.heap.size, 0, none⟩ = some (.slice A0 l0.length c0) ∧ w'.cell? ⟨w.heap.size, 1, none⟩ = some (.slice A1 l1.length c1) ∧ w'.cell? ⟨w.heap.size, 2, none⟩ = some (.int .i64 l2) ∧ w'.cell? ⟨w.heap.size, 3, none⟩ = some (.slice A3 l3.length c3) ∧ w'.cell? ⟨w.heap.size + 1, 0, none⟩ = some (.slice B0 m0.length d0) ∧ w'.cell? ⟨w.heap.size + 1, 1, none⟩ = some (.slice B1 m1.length d1) ∧ w'.cell? ⟨w.heap.size + 1, 2, none⟩ = some (.int .i64 m2) ∧ w'.cell? ⟨w.heap.size + 1, 3, none⟩ = some (.slice B3 m3.length d3) := fun W E0 e0 E1 e1 E3 e3 hW => (Text_bad ad E0 e0 l0 E1 e1 l1 l2 E3 e3 l3 W (hs.below hW.2.low) (C_pre hW.1.r0) (by have := hW.1.h0; omega) (C_pre hW.1.r1) (by have := hW.1.h1; omega) hW.1.r3.reads (by have := hW.1.r3.1; omega) h1).mono fun e w' ⟨t, u, he, hb⟩ => ⟨t, u, he, ⟨hW.2.more hb⟩, CE _ (hW.2.more hb)⟩
 have kT2 : ∀ W E0 e0 E1 e1 E3 e3, MG W E0 e0 m0 E1 e1 m1 E3 e3 m3 ∧ OT w cs bs W → Calls Tryd.prog 23 #[.agg #[.slice E0 m0.length e0, .slice E1 m1.length e1, .int .i64 m2, .slice E3 m3.length e3]] W fun e w' => ∃ t u, e = .returned (.tuple #[.string ⟨#[]⟩, .iface t u]) ∧ Aside0 (OT w cs bs w') ∧ w'.cell? ⟨w.heap.size, 0, none⟩ = some (.slice A0 l0.length c0) ∧ w'.cell? ⟨w.heap.size, 1, none⟩ = some (.slice A1 l1.length c1) ∧ w'.cell? ⟨w.heap.size, 2, none⟩ = some (.int .i64 l2) ∧ w'.cell? ⟨w.heap.size, 3, none⟩ = some (.slice A3 l3.length c3) ∧ w'.cell? ⟨w.heap.size + 1, 0, none⟩ = some (.slice B0 m0.length d0) ∧ w'.cell? ⟨w.heap.size + 1, 1, none⟩ = some (.slice B1 m1.length d1) ∧ w'.cell? ⟨w.heap.size + 1, 2, none⟩ = some (.int .i64 m2) ∧ w'.cell? ⟨w.heap.size + 1, 3, none⟩ = some (.slice B3 m3.length d3) := fun W E0 e0 E1 e1 E3 e3 hW => (Text_bad ad E0 e0 m0 E1 e1 m1 m2 E3 e3 m3 W (hs.below hW.2.low) (C_pre hW.1.r0) (by have := hW.1.h0; omega) (C_pre hW.1.r1) (by have := hW.1.h1; omega) hW.1.r3.reads (by have := hW.1.r3.1; omega) h2).mono fun e w' ⟨t, u, he, hb⟩ => ⟨t, u, he, ⟨hW.2.more hb⟩, CE _ (hW.2.more hb)⟩
 have ST := Aside0.mk st
 have CE' := Aside0.mk CE
 have KN := Aside0.mk kN
 have KL1 := Aside0.mk kL1
 have KL2 := Aside0.mk kL2
 have KT1 := Aside0.mk kT1
 have KT2 := Aside0.mk kT2
 have HCS := Lib.hid hcs
 have HBS := Lib.hid hbs
 clear kN kL1 kL2 kT1 kT2 st CE hcs hbs hs r0 r1 r3 s0 s1 s3 h1 h2 b0 b1 b3 bx k0 k1 k3 kx
 go_enter Tryd.func6, Tryd.ntmps6
 go_wp2_with (first
  | (go_at_call 27; (with_reducible refine (KN.out _ ST.out).mono ?_); rintro e w2 ⟨rfl, t2, f0, f1, f2, f3, f4, f5, f6, f7⟩)
  | (go_at_call 10; (with_reducible refine (KL1.out _ t2.out).mono ?_); clear f0 f1 f2 f3 f4 f5 f6 f7; clear t2; rintro e w3 ⟨E0, e0, E1, e1, E3, e3, rfl, t3⟩)
  | (go_at_call 23; (with_reducible refine (KT1.out _ _ _ _ _ _ _ t3.out).mono ?_); clear t3; rintro e w4 ⟨tt1, uu1, rfl, t4, f0, f1, f2, f3, f4, f5, f6, f7⟩)
  | (go_at_call 10; (with_reducible refine (KL2.out _ t4.out).mono ?_); clear f0 f1 f2 f3 f4 f5 f6 f7; clear t4; rintro e w5 ⟨E0, e0, E1, e1, E3, e3, rfl, t5⟩)
  | (go_at_call 23; (with_reducible refine (KT2.out _ _ _ _ _ _ _ t5.out).mono ?_); clear t5; rintro e w6 ⟨tt2, uu2, rfl, t6, f0, f1, f2, f3, f4, f5, f6, f7⟩))
 go_ret
 exact ⟨rfl, t6.out.low⟩
set_option maxHeartbeats 8000000 in
set_option maxRecDepth 100000 in
theorem ShowOne_01 (ad : Int → Addr) (A0 : Option Addr) (c0 : Nat) (l0 : List ByteArray) (A1 : Option Addr) (c1 : Nat) (l1 : List ByteArray) (l2 : Int) (A3 : Option Addr) (c3 : Nat) (l3 : List S52) (B0 : Option Addr) (d0 : Nat) (m0 : List ByteArray) (B1 : Option Addr) (d1 : Nat) (m1 : List ByteArray) (m2 : Int) (B3 : Option Addr) (d3 : Nat) (m3 : List S52) (w : World) (hs : SentsK ad w) (r0 : Kd.C Kd.string w A0 l0.length l0) (rc0 : l0.length ≤ c0) (r1 : Kd.C Kd.string w A1 l1.length l1) (rc1 : l1.length ≤ c1) (r3 : Kd.C k52 w A3 l3.length l3) (rc3 : l3.length ≤ c3) (s0 : Kd.C Kd.string w B0 m0.length m0) (sc0 : m0.length ≤ d0) (s1 : Kd.C Kd.string w B1 m1.length m1) (sc1 : m1.length ≤ d1) (s3 : Kd.C k52 w B3 m3.length m3) (sc3 : m3.length ≤ d3)
 (b0 : l0.length < 8796093022207) (b1 : l1.length < 8796093022207) (b3 : l3.length < 4398046511104) (bx : ∀ x ∈ l3, x.f1.length < 17592186044415) (k0 : m0.length < 8796093022207) (k1 : m1.length < 8796093022207) (k3 : m3.length < 4398046511104) (kx : ∀ x ∈ m3, x.f1.length < 17592186044415) (h1 : (textP l0 l1 l2 l3).2 ≠ 0) (h2 : (textP m0 m1 m2 m3).2 = 0) :
 Calls Tryd.prog 6 #[.agg #[.slice A0 l0.length c0, .slice A1 l1.length c1, .int .i64 l2, .slice A3 l3.length c3], .agg #[.slice B0 m0.length d0, .slice B1 m1.length d1, .int .i64 m2, .slice B3 m3.length d3]] w fun e w' => e = .returned (.bool true) ∧ Below w.heap.size w w' := by
 obtain ⟨cs, hcs⟩ : ∃ cs : Array Value, cs = #[.slice A0 l0.length c0, .slice A1 l1.length c1, .int .i64 l2, .slice A3 l3.length c3] := ⟨_, rfl⟩
 obtain ⟨bs, hbs⟩ : ∃ bs : Array Value, bs = #[.slice B0 m0.length d0, .slice B1 m1.length d1, .int .i64 m2, .slice B3 m3.length d3] := ⟨_, rfl⟩
 have st : OT w cs bs ((w.alloc (.cells #[.slice A0 l0.length c0, .slice A1 l1.length c1, .int .i64 l2, .slice A3 l3.length c3] 25)).alloc (.cells #[.slice B0 m0.length d0, .slice B1 m1.length d1, .int .i64 m2, .slice B3 m3.length d3] 25)) := by subst hcs hbs; exact OT.start w _ _
 have CE : ∀ W, OT w cs bs W → W.cell? ⟨w.heap.size, 0, none⟩ = some (.slice A0 l0.length c0) ∧ W.cell? ⟨w.heap.size, 1, none⟩ = some (.slice A1 l1.length c1) ∧ W.cell? ⟨w.heap.size, 2, none⟩ = some (.int .i64 l2) ∧ W.cell? ⟨w.heap.size, 3, none⟩ = some (.slice A3 l3.length c3) ∧ W.cell? ⟨w.heap.size + 1, 0, none⟩ = some (.slice B0 m0.length d0) ∧ W.cell? ⟨w.heap.size + 1, 1, none⟩ = some (.slice B1 m1.length d1) ∧ W.cell? ⟨w.heap.size + 1, 2, none⟩ = some (.int .i64 m2) ∧ W.cell? ⟨w.heap.size + 1, 3, none⟩ = some (.slice B3 m3.length d3) := by
  intro W hW; subst hcs hbs; exact hW.cells
 have kN : ∀ W, OT w cs bs W → Calls Tryd.prog 27 #[] W fun e w' => e = .returned (.bool true) ∧ Aside0 (OT w cs bs w') ∧ w'.cell? ⟨w.heap.size, 0, none⟩ = some (.slice A0 l0.length c0) ∧ w'.cell? ⟨w.heap.size, 1, none⟩ = some (.slice A1 l1.length c1) ∧ w'.cell? ⟨w.heap.size, 2, none⟩ = some (.int .i64 l2) ∧ w'.cell? ⟨w.heap.size, 3, none⟩ = some (.slice A3 l3.length c3) ∧ w'.cell? ⟨w.heap.size + 1, 0, none⟩ = some (.slice B0 m0.length d0) ∧ w'.cell? ⟨w.heap.size + 1, 1, none⟩ = some (.slice B1 m1.length d1) ∧ w'.cell? ⟨w.heap.size + 1, 2, none⟩ = some (.int .i64 m2) ∧ w'.cell? ⟨w.heap.size + 1, 3, none⟩ = some (.slice B3 m3.length d3) := fun W hW => (known_calls ad W (hs.below hW.low)).mono fun e w' ⟨he, hb⟩ => ⟨he, ⟨hW.more hb⟩, CE _ (hW.more hb)⟩
 have kL1 : ∀ W, OT w cs bs W → Calls Tryd.prog 10 #[.agg #[.slice A0 l0.length c0, .slice A1 l1.length c1, .int .i64 l2, .slice A3 l3.length c3]] W fun e w' => ∃ E0 e0 E1 e1 E3 e3, e = .returned (.agg #[.slice E0 l0.length e0, .slice E1 l1.length e1, .int .i64 l2, .slice E3 l3.length e3]) ∧ Aside0 (MG w' E0 e0 l0 E1 e1 l1 E3 e3 l3 ∧ OT w cs bs w') :=
  fun W hW => (LentGrammar_m A0 c0 l0 A1 c1 l1 l2 A3 c3 l3 W (Kd.C_below r0 hW.low) (Kd.C_below r1 hW.low) (Kd.C_below r3 hW.low) b0 b1 b3 bx).mono fun e w' ⟨E0, e0, E1, e1, E3, e3, he, hm⟩ => ⟨E0, e0, E1, e1, E3, e3, he, ⟨hm.out.1, hW.more hm.out.2⟩⟩
 have kL2 : ∀ W, OT w cs bs W → Calls Tryd.prog 10 #[.agg #[.slice B0 m0.length d0, .slice B1 m1.length d1, .int .i64 m2, .slice B3 m3.length d3]] W fun e w' => ∃ E0 e0 E1 e1 E3 e3, e = .returned (.agg #[.slice E0 m0.length e0, .slice E1 m1.length e1, .int .i64 m2, .slice E3 m3.length e3]) ∧ Aside0 (MG w' E0 e0 m0 E1 e1 m1 E3 e3 m3 ∧ OT w cs bs w') :=
  fun W hW => (LentGrammar_m B0 d0 m0 B1 d1 m1 m2 B3 d3 m3 W (Kd.C_below s0 hW.low) (Kd.C_below s1 hW.low) (Kd.C_below s3 hW.low) k0 k1 k3 kx).mono fun e w' ⟨E0, e0, E1, e1, E3, e3, he, hm⟩ => ⟨E0, e0, E1, e1, E3, e3, he, ⟨hm.out.1, hW.more hm.out.2⟩⟩
 have kT1 : ∀ W E0 e0 E1 e1 E3 e3, MG W E0 e0 l0 E1 e1 l1 E3 e3 l3 ∧ OT w cs bs W → Calls Tryd.prog 23 #[.agg #[.slice E0 l0.length e0, .slice E1 l1.length e1, .int .i64 l2, .slice E3 l3.length e3]] W fun e w' => ∃ t u, e = .returned (.tuple #[.string ⟨#[]⟩, .iface t u]) ∧ Aside0 (OT w cs bs w') ∧ w'.cell? ⟨w.heap.size, 0, none⟩ = some (.slice A0 l0.length c0) ∧ w'.cell? ⟨w.heap.size, 1, none⟩ = some (.slice A1 l1.length c1) ∧ w'.cell? ⟨w.heap.size, 2, none⟩ = some (.int .i64 l2) ∧ w'.cell? ⟨w.heap.size, 3, none⟩ = some (.slice A3 l3.length c3) ∧ w'.cell? ⟨w.heap.size + 1, 0, none⟩ = some (.slice B0 m0.length d0) ∧ w'.cell? ⟨w.heap.size + 1, 1, none⟩ = some (.slice B1 m1.length d1) ∧ w'.cell? ⟨w.heap.size + 1, 2, none⟩ = some (.int .i64 m2) ∧ w'.cell? ⟨w.heap.size + 1, 3, none⟩ = some (.slice B3 m3.length d3) := fun W E0 e0 E1 e1 E3 e3 hW => (Text_bad ad E0 e0 l0 E1 e1 l1 l2 E3 e3 l3 W (hs.below hW.2.low) (C_pre hW.1.r0) (by have := hW.1.h0; omega) (C_pre hW.1.r1) (by have := hW.1.h1; omega) hW.1.r3.reads (by have := hW.1.r3.1; omega) h1).mono fun e w' ⟨t, u, he, hb⟩ => ⟨t, u, he, ⟨hW.2.more hb⟩, CE _ (hW.2.more hb)⟩
 have kT2 : ∀ W E0 e0 E1 e1 E3 e3, MG W E0 e0 m0 E1 e1 m1 E3 e3 m3 ∧ OT w cs bs W → Calls Tryd.prog 23 #[.agg #[.slice E0 m0.length e0, .slice E1 m1.length e1, .int .i64 m2, .slice E3 m3.length e3]] W fun e w' => e = .returned (.tuple #[.string ⟨(textP m0 m1 m2 m3).1.toArray⟩, .nilIface]) ∧ Aside0 (OT w cs bs w') ∧ w'.cell? ⟨w.heap.size, 0, none⟩ = some (.slice A0 l0.length c0) ∧ w'.cell? ⟨w.heap.size, 1, none⟩ = some (.slice A1 l1.length c1) ∧ w'.cell? ⟨w.heap.size, 2, none⟩ = some (.int .i64 l2) ∧ w'.cell? ⟨w.heap.size, 3, none⟩ = some (.slice A3 l3.length c3) ∧ w'.cell? ⟨w.heap.size + 1, 0, none⟩ = some (.slice B0 m0.length d0) ∧ w'.cell? ⟨w.heap.size + 1, 1, none⟩ = some (.slice B1 m1.length d1) ∧ w'.cell? ⟨w.heap.size + 1, 2, none⟩ = some (.int .i64 m2) ∧ w'.cell? ⟨w.heap.size + 1, 3, none⟩ = some (.slice B3 m3.length d3) := fun W E0 e0 E1 e1 E3 e3 hW => (Text_ok ad E0 e0 m0 E1 e1 m1 m2 E3 e3 m3 W (hs.below hW.2.low) (C_pre hW.1.r0) (by have := hW.1.h0; omega) (C_pre hW.1.r1) (by have := hW.1.h1; omega) hW.1.r3.reads (by have := hW.1.r3.1; omega) h2).mono fun e w' ⟨he, hb⟩ => ⟨he, ⟨hW.2.more hb⟩, CE _ (hW.2.more hb)⟩
 generalize (⟨(textP m0 m1 m2 m3).1.toArray⟩ : ByteArray) = sb at kT2
 have ST := Aside0.mk st
 have CE' := Aside0.mk CE
 have KN := Aside0.mk kN
 have KL1 := Aside0.mk kL1
 have KL2 := Aside0.mk kL2
 have KT1 := Aside0.mk kT1
 have KT2 := Aside0.mk kT2
 have HCS := Lib.hid hcs
 have HBS := Lib.hid hbs
 clear kN kL1 kL2 kT1 kT2 st CE hcs hbs hs r0 r1 r3 s0 s1 s3 h1 h2 b0 b1 b3 bx k0 k1 k3 kx
 go_enter Tryd.func6, Tryd.ntmps6
 go_wp2_with (first
  | (go_at_call 27; (with_reducible refine (KN.out _ ST.out).mono ?_); rintro e w2 ⟨rfl, t2, f0, f1, f2, f3, f4, f5, f6, f7⟩)
  | (go_at_call 10; (with_reducible refine (KL1.out _ t2.out).mono ?_); clear f0 f1 f2 f3 f4 f5 f6 f7; clear t2; rintro e w3 ⟨E0, e0, E1, e1, E3, e3, rfl, t3⟩)
  | (go_at_call 23; (with_reducible refine (KT1.out _ _ _ _ _ _ _ t3.out).mono ?_); clear t3; rintro e w4 ⟨tt1, uu1, rfl, t4, f0, f1, f2, f3, f4, f5, f6, f7⟩)
  | (go_at_call 10; (with_reducible refine (KL2.out _ t4.out).mono ?_); clear f0 f1 f2 f3 f4 f5 f6 f7; clear t4; rintro e w5 ⟨E0, e0, E1, e1, E3, e3, rfl, t5⟩)
  | (go_at_call 23; (with_reducible refine (KT2.out _ _ _ _ _ _ _ t5.out).mono ?_); clear t5; rintro e w6 ⟨rfl, t6, f0, f1, f2, f3, f4, f5, f6, f7⟩))
 go_ret
 exact ⟨rfl, t6.out.low⟩
set_option maxHeartbeats 8000000 in
set_option maxRecDepth 100000 in
theorem ShowOne_10 (ad : Int → Addr) (A0 : Option Addr) (c0 : Nat) (l0 : List ByteArray) (A1 : Option Addr) (c1 : Nat) (l1 : List ByteArray) (l2 : Int) (A3 : Option Addr) (c3 : Nat) (l3 : List S52) (B0 : Option Addr) (d0 : Nat) (m0 : List ByteArray) (B1 : Option Addr) (d1 : Nat) (m1 : List ByteArray) (m2 : Int) (B3 : Option Addr) (d3 : Nat) (m3 : List S52) (w : World) (hs : SentsK ad w) (r0 : Kd.C Kd.string w A0 l0.length l0) (rc0 : l0.length ≤ c0) (r1 : Kd.C Kd.string w A1 l1.length l1) (rc1 : l1.length ≤ c1) (r3 : Kd.C k52 w A3 l3.length l3) (rc3 : l3.length ≤ c3) (s0 : Kd.C Kd.string w B0 m0.length m0) (sc0 : m0.length ≤ d0) (s1 : Kd.C Kd.string w B1 m1.length m1) (sc1 : m1.length ≤ d1) (s3 : Kd.C k52 w B3 m3.length m3) (sc3 : m3.length ≤ d3)
 (b0 : l0.length < 8796093022207) (b1 : l1.length < 8796093022207) (b3 : l3.length < 4398046511104) (bx : ∀ x ∈ l3, x.f1.length < 17592186044415) (k0 : m0.length < 8796093022207) (k1 : m1.length < 8796093022207) (k3 : m3.length < 4398046511104) (kx : ∀ x ∈ m3, x.f1.length < 17592186044415) (h1 : (textP l0 l1 l2 l3).2 = 0) (h2 : (textP m0 m1 m2 m3).2 ≠ 0) :
 Calls Tryd.prog 6 #[.agg #[.slice A0 l0.length c0, .slice A1 l1.length c1, .int .i64 l2, .slice A3 l3.length c3], .agg #[.slice B0 m0.length d0, .slice B1 m1.length d1, .int .i64 m2, .slice B3 m3.length d3]] w fun e w' => e = .returned (.bool true) ∧ Below w.heap.size w w' := by
 obtain ⟨cs, hcs⟩ : ∃ cs : Array Value, cs = #[.slice A0 l0.length c0, .slice A1 l1.length c1, .int .i64 l2, .slice A3 l3.length c3] := ⟨_, rfl⟩
 obtain ⟨bs, hbs⟩ : ∃ bs : Array Value, bs = #[.slice B0 m0.length d0, .slice B1 m1.length d1, .int .i64 m2, .slice B3 m3.length d3] := ⟨_, rfl⟩
 have st : OT w cs bs ((w.alloc (.cells #[.slice A0 l0.length c0, .slice A1 l1.length c1, .int .i64 l2, .slice A3 l3.length c3] 25)).alloc (.cells #[.slice B0 m0.length d0, .slice B1 m1.length d1, .int .i64 m2, .slice B3 m3.length d3] 25)) := by subst hcs hbs; exact OT.start w _ _
 have CE : ∀ W, OT w cs bs W → W.cell? ⟨w.heap.size, 0, none⟩ = some (.slice A0 l0.length c0) ∧ W.cell? ⟨w.heap.size, 1, none⟩ = some (.slice A1 l1.length c1) ∧ W.cell? ⟨w.heap.size, 2, none⟩ = some (.int .i64 l2) ∧ W.cell? ⟨w.heap.size, 3, none⟩ = some (.slice A3 l3.length c3) ∧ W.cell? ⟨w.heap.size + 1, 0, none⟩ = some (.slice B0 m0.length d0) ∧ W.cell? ⟨w.heap.size + 1, 1, none⟩ = some (.slice B1 m1.length d1) ∧ W.cell? ⟨w.heap.size + 1, 2, none⟩ = some (.int .i64 m2) ∧ W.cell? ⟨w.heap.size + 1, 3, none⟩ = some (.slice B3 m3.length d3) := by
  intro W hW; subst hcs hbs; exact hW.cells
 have kN : ∀ W, OT w cs bs W → Calls Tryd.prog 27 #[] W fun e w' => e = .returned (.bool true) ∧ Aside0 (OT w cs bs w') ∧ w'.cell? ⟨w.heap.size, 0, none⟩ = some (.slice A0 l0.length c0) ∧ w'.cell? ⟨w.heap.size, 1, none⟩ = some (.slice A1 l1.length c1) ∧ w'.cell? ⟨w.heap.size, 2, none⟩ = some (.int .i64 l2) ∧ w'.cell? ⟨w.heap.size, 3, none⟩ = some (.slice A3 l3.length c3) ∧ w'.cell? ⟨w.heap.size + 1, 0, none⟩ = some (.slice B0 m0.length d0) ∧ w'.cell? ⟨w.heap.size + 1, 1, none⟩ = some (.slice B1 m1.length d1) ∧ w'.cell? ⟨w.heap.size + 1, 2, none⟩ = some (.int .i64 m2) ∧ w'.cell? ⟨w.heap.size + 1, 3, none⟩ = some (.slice B3 m3.length d3) := fun W hW => (known_calls ad W (hs.below hW.low)).mono fun e w' ⟨he, hb⟩ => ⟨he, ⟨hW.more hb⟩, CE _ (hW.more hb)⟩
 have kL1 : ∀ W, OT w cs bs W → Calls Tryd.prog 10 #[.agg #[.slice A0 l0.length c0, .slice A1 l1.length c1, .int .i64 l2, .slice A3 l3.length c3]] W fun e w' => ∃ E0 e0 E1 e1 E3 e3, e = .returned (.agg #[.slice E0 l0.length e0, .slice E1 l1.length e1, .int .i64 l2, .slice E3 l3.length e3]) ∧ Aside0 (MG w' E0 e0 l0 E1 e1 l1 E3 e3 l3 ∧ OT w cs bs w') :=
  fun W hW => (LentGrammar_m A0 c0 l0 A1 c1 l1 l2 A3 c3 l3 W (Kd.C_below r0 hW.low) (Kd.C_below r1 hW.low) (Kd.C_below r3 hW.low) b0 b1 b3 bx).mono fun e w' ⟨E0, e0, E1, e1, E3, e3, he, hm⟩ => ⟨E0, e0, E1, e1, E3, e3, he, ⟨hm.out.1, hW.more hm.out.2⟩⟩
 have kL2 : ∀ W, OT w cs bs W → Calls Tryd.prog 10 #[.agg #[.slice B0 m0.length d0, .slice B1 m1.length d1, .int .i64 m2, .slice B3 m3.length d3]] W fun e w' => ∃ E0 e0 E1 e1 E3 e3, e = .returned (.agg #[.slice E0 m0.length e0, .slice E1 m1.length e1, .int .i64 m2, .slice E3 m3.length e3]) ∧ Aside0 (MG w' E0 e0 m0 E1 e1 m1 E3 e3 m3 ∧ OT w cs bs w') :=
  fun W hW => (LentGrammar_m B0 d0 m0 B1 d1 m1 m2 B3 d3 m3 W (Kd.C_below s0 hW.low) (Kd.C_below s1 hW.low) (Kd.C_below s3 hW.low) k0 k1 k3 kx).mono fun e w' ⟨E0, e0, E1, e1, E3, e3, he, hm⟩ => ⟨E0, e0, E1, e1, E3, e3, he, ⟨hm.out.1, hW.more hm.out.2⟩⟩
 have kT1 : ∀ W E0 e0 E1 e1 E3 e3, MG W E0 e0 l0 E1 e1 l1 E3 e3 l3 ∧ OT w cs bs W → Calls Tryd.prog 23 #[.agg #[.slice E0 l0.length e0, .slice E1 l1.length e1, .int .i64 l2, .slice E3 l3.length e3]] W fun e w' => e = .returned (.tuple #[.string ⟨(textP l0 l1 l2 l3).1.toArray⟩, .nilIface]) ∧ Aside0 (OT w cs bs w') ∧ w'.cell? ⟨w.heap.size, 0, none⟩ = some (.slice A0 l0.length c0) ∧ w'.cell? ⟨w.heap.size, 1, none⟩ = some (.slice A1 l1.length c1) ∧ w'.cell? ⟨w.heap.size, 2, none⟩ = some (.int .i64 l2) ∧ w'.cell? ⟨w.heap.size, 3, none⟩ = some (.slice A3 l3.length c3) ∧ w'.cell? ⟨w.heap.size + 1, 0, none⟩ = some (.slice B0 m0.length d0) ∧ w'.cell? ⟨w.heap.size + 1, 1, none⟩ = some (.slice B1 m1.length d1) ∧ w'.cell? ⟨w.heap.size + 1, 2, none⟩ = some (.int .i64 m2) ∧ w'.cell? ⟨w.heap.size + 1, 3, none⟩ = some (.slice B3 m3.length d3) := fun W E0 e0 E1 e1 E3 e3 hW => (Text_ok ad E0 e0 l0 E1 e1 l1 l2 E3 e3 l3 W (hs.below hW.2.low) (C_pre hW.1.r0) (by have := hW.1.h0; omega) (C_pre hW.1.r1) (by have := hW.1.h1; omega) hW.1.r3.reads (by have := hW.1.r3.1; omega) h1).mono fun e w' ⟨he, hb⟩ => ⟨he, ⟨hW.2.more hb⟩, CE _ (hW.2.more hb)⟩
 have kT2 : ∀ W E0 e0 E1 e1 E3 e3, MG W E0 e0 m0 E1 e1 m1 E3 e3 m3 ∧ OT w cs bs W → Calls Tryd.prog 23 #[.agg #[.slice E0 m0.length e0, .slice E1 m1.length e1, .int .i64 m2, .slice E3 m3.length e3]] W fun e w' => ∃ t u, e = .returned (.tuple #[.string ⟨#[]⟩, .iface t u]) ∧ Aside0 (OT w cs bs w') ∧ w'.cell? ⟨w.heap.size, 0, none⟩ = some (.slice A0 l0.length c0) ∧ w'.cell? ⟨w.heap.size, 1, none⟩ = some (.slice A1 l1.length c1) ∧ w'.cell? ⟨w.heap.size, 2, none⟩ = some (.int .i64 l2) ∧ w'.cell? ⟨w.heap.size, 3, none⟩ = some (.slice A3 l3.length c3) ∧ w'.cell? ⟨w.heap.size + 1, 0, none⟩ = some (.slice B0 m0.length d0) ∧ w'.cell? ⟨w.heap.size + 1, 1, none⟩ = some (.slice B1 m1.length d1) ∧ w'.cell? ⟨w.heap.size + 1, 2, none⟩ = some (.int .i64 m2) ∧ w'.cell? ⟨w.heap.size + 1, 3, none⟩ = some (.slice B3 m3.length d3) := fun W E0 e0 E1 e1 E3 e3 hW => (Text_bad ad E0 e0 m0 E1 e1 m1 m2 E3 e3 m3 W (hs.below hW.2.low) (C_pre hW.1.r0) (by have := hW.1.h0; omega) (C_pre hW.1.r1) (by have := hW.1.h1; omega) hW.1.r3.reads (by have := hW.1.r3.1; omega) h2).mono fun e w' ⟨t, u, he, hb⟩ => ⟨t, u, he, ⟨hW.2.more hb⟩, CE _ (hW.2.more hb)⟩
 generalize (⟨(textP l0 l1 l2 l3).1.toArray⟩ : ByteArray) = sa at kT1
 have ST := Aside0.mk st
 have CE' := Aside0.mk CE
 have KN := Aside0.mk kN
 have KL1 := Aside0.mk kL1
 have KL2 := Aside0.mk kL2
 have KT1 := Aside0.mk kT1
 have KT2 := Aside0.mk kT2
 have HCS := Lib.hid hcs
 have HBS := Lib.hid hbs
 clear kN kL1 kL2 kT1 kT2 st CE hcs hbs hs r0 r1 r3 s0 s1 s3 h1 h2 b0 b1 b3 bx k0 k1 k3 kx
 go_enter Tryd.func6, Tryd.ntmps6
 go_wp2_with (first
  | (go_at_call 27; (with_reducible refine (KN.out _ ST.out).mono ?_); rintro e w2 ⟨rfl, t2, f0, f1, f2, f3, f4, f5, f6, f7⟩)
  | (go_at_call 10; (with_reducible refine (KL1.out _ t2.out).mono ?_); clear f0 f1 f2 f3 f4 f5 f6 f7; clear t2; rintro e w3 ⟨E0, e0, E1, e1, E3, e3, rfl, t3⟩)
  | (go_at_call 23; (with_reducible refine (KT1.out _ _ _ _ _ _ _ t3.out).mono ?_); clear t3; rintro e w4 ⟨rfl, t4, f0, f1, f2, f3, f4, f5, f6, f7⟩)
  | (go_at_call 10; (with_reducible refine (KL2.out _ t4.out).mono ?_); clear f0 f1 f2 f3 f4 f5 f6 f7; clear t4; rintro e w5 ⟨E0, e0, E1, e1, E3, e3, rfl, t5⟩)
  | (go_at_call 23; (with_reducible refine (KT2.out _ _ _ _ _ _ _ t5.out).mono ?_); clear t5; rintro e w6 ⟨tt2, uu2, rfl, t6, f0, f1, f2, f3, f4, f5, f6, f7⟩))
 go_ret
 exact ⟨rfl, t6.out.low⟩
set_option maxHeartbeats 8000000 in
set_option maxRecDepth 100000 in
theorem ShowOne_11 (ad : Int → Addr) (A0 : Option Addr) (c0 : Nat) (l0 : List ByteArray) (A1 : Option Addr) (c1 : Nat) (l1 : List ByteArray) (l2 : Int) (A3 : Option Addr) (c3 : Nat) (l3 : List S52) (B0 : Option Addr) (d0 : Nat) (m0 : List ByteArray) (B1 : Option Addr) (d1 : Nat) (m1 : List ByteArray) (m2 : Int) (B3 : Option Addr) (d3 : Nat) (m3 : List S52) (w : World) (hs : SentsK ad w) (r0 : Kd.C Kd.string w A0 l0.length l0) (rc0 : l0.length ≤ c0) (r1 : Kd.C Kd.string w A1 l1.length l1) (rc1 : l1.length ≤ c1) (r3 : Kd.C k52 w A3 l3.length l3) (rc3 : l3.length ≤ c3) (s0 : Kd.C Kd.string w B0 m0.length m0) (sc0 : m0.length ≤ d0) (s1 : Kd.C Kd.string w B1 m1.length m1) (sc1 : m1.length ≤ d1) (s3 : Kd.C k52 w B3 m3.length m3) (sc3 : m3.length ≤ d3)
 (b0 : l0.length < 8796093022207) (b1 : l1.length < 8796093022207) (b3 : l3.length < 4398046511104) (bx : ∀ x ∈ l3, x.f1.length < 17592186044415) (k0 : m0.length < 8796093022207) (k1 : m1.length < 8796093022207) (k3 : m3.length < 4398046511104) (kx : ∀ x ∈ m3, x.f1.length < 17592186044415) (h1 : (textP l0 l1 l2 l3).2 = 0) (h2 : (textP m0 m1 m2 m3).2 = 0) :
 Calls Tryd.prog 6 #[.agg #[.slice A0 l0.length c0, .slice A1 l1.length c1, .int .i64 l2, .slice A3 l3.length c3], .agg #[.slice B0 m0.length d0, .slice B1 m1.length d1, .int .i64 m2, .slice B3 m3.length d3]] w fun e w' => e = .returned (.bool true) ∧ Below w.heap.size w w' := by
 obtain ⟨cs, hcs⟩ : ∃ cs : Array Value, cs = #[.slice A0 l0.length c0, .slice A1 l1.length c1, .int .i64 l2, .slice A3 l3.length c3] := ⟨_, rfl⟩
 obtain ⟨bs, hbs⟩ : ∃ bs : Array Value, bs = #[.slice B0 m0.length d0, .slice B1 m1.length d1, .int .i64 m2, .slice B3 m3.length d3] := ⟨_, rfl⟩
 have st : OT w cs bs ((w.alloc (.cells #[.slice A0 l0.length c0, .slice A1 l1.length c1, .int .i64 l2, .slice A3 l3.length c3] 25)).alloc (.cells #[.slice B0 m0.length d0, .slice B1 m1.length d1, .int .i64 m2, .slice B3 m3.length d3] 25)) := by subst hcs hbs; exact OT.start w _ _
 have CE : ∀ W, OT w cs bs W → W.cell? ⟨w.heap.size, 0, none⟩ = some (.slice A0 l0.length c0) ∧ W.cell? ⟨w.heap.size, 1, none⟩ = some (.slice A1 l1.length c1) ∧ W.cell? ⟨w.heap.size, 2, none⟩ = some (.int .i64 l2) ∧ W.cell? ⟨w.heap.size, 3, none⟩ = some (.slice A3 l3.length c3) ∧ W.cell? ⟨w.heap.size + 1, 0, none⟩ = some (.slice B0 m0.length d0) ∧ W.cell? ⟨w.heap.size + 1, 1, none⟩ = some (.slice B1 m1.length d1) ∧ W.cell? ⟨w.heap.size + 1, 2, none⟩ = some (.int .i64 m2) ∧ W.cell? ⟨w.heap.size + 1, 3, none⟩ = some (.slice B3 m3.length d3) := by
  intro W hW; subst hcs hbs; exact hW.cells
 have kN : ∀ W, OT w cs bs W → Calls Tryd.prog 27 #[] W fun e w' => e = .returned (.bool true) ∧ Aside0 (OT w cs bs w') ∧ w'.cell? ⟨w.heap.size, 0, none⟩ = some (.slice A0 l0.length c0) ∧ w'.cell? ⟨w.heap.size, 1, none⟩ = some (.slice A1 l1.length c1) ∧ w'.cell? ⟨w.heap.size, 2, none⟩ = some (.int .i64 l2) ∧ w'.cell? ⟨w.heap.size, 3, none⟩ = some (.slice A3 l3.length c3) ∧ w'.cell? ⟨w.heap.size + 1, 0, none⟩ = some (.slice B0 m0.length d0) ∧ w'.cell? ⟨w.heap.size + 1, 1, none⟩ = some (.slice B1 m1.length d1) ∧ w'.cell? ⟨w.heap.size + 1, 2, none⟩ = some (.int .i64 m2) ∧ w'.cell? ⟨w.heap.size + 1, 3, none⟩ = some (.slice B3 m3.length d3) := fun W hW => (known_calls ad W (hs.below hW.low)).mono fun e w' ⟨he, hb⟩ => ⟨he, ⟨hW.more hb⟩, CE _ (hW.more hb)⟩
 have kL1 : ∀ W, OT w cs bs W → Calls Tryd.prog 10 #[.agg #[.slice A0 l0.length c0, .slice A1 l1.length c1, .int .i64 l2, .slice A3 l3.length c3]] W fun e w' => ∃ E0 e0 E1 e1 E3 e3, e = .returned (.agg #[.slice E0 l0.length e0, .slice E1 l1.length e1, .int .i64 l2, .slice E3 l3.length e3]) ∧ Aside0 (MG w' E0 e0 l0 E1 e1 l1 E3 e3 l3 ∧ OT w cs bs w') :=
  fun W hW => (LentGrammar_m A0 c0 l0 A1 c1 l1 l2 A3 c3 l3 W (Kd.C_below r0 hW.low) (Kd.C_below r1 hW.low) (Kd.C_below r3 hW.low) b0 b1 b3 bx).mono fun e w' ⟨E0, e0, E1, e1, E3, e3, he, hm⟩ => ⟨E0, e0, E1, e1, E3, e3, he, ⟨hm.out.1, hW.more hm.out.2⟩⟩
 have kL2 : ∀ W, OT w cs bs W → Calls Tryd.prog 10 #[.agg #[.slice B0 m0.length d0, .slice B1 m1.length d1, .int .i64 m2, .slice B3 m3.length d3]] W fun e w' => ∃ E0 e0 E1 e1 E3 e3, e = .returned (.agg #[.slice E0 m0.length e0, .slice E1 m1.length e1, .int .i64 m2, .slice E3 m3.length e3]) ∧ Aside0 (MG w' E0 e0 m0 E1 e1 m1 E3 e3 m3 ∧ OT w cs bs w') :=
  fun W hW => (LentGrammar_m B0 d0 m0 B1 d1 m1 m2 B3 d3 m3 W (Kd.C_below s0 hW.low) (Kd.C_below s1 hW.low) (Kd.C_below s3 hW.low) k0 k1 k3 kx).mono fun e w' ⟨E0, e0, E1, e1, E3, e3, he, hm⟩ => ⟨E0, e0, E1, e1, E3, e3, he, ⟨hm.out.1, hW.more hm.out.2⟩⟩
 have kT1 : ∀ W E0 e0 E1 e1 E3 e3, MG W E0 e0 l0 E1 e1 l1 E3 e3 l3 ∧ OT w cs bs W → Calls Tryd.prog 23 #[.agg #[.slice E0 l0.length e0, .slice E1 l1.length e1, .int .i64 l2, .slice E3 l3.length e3]] W fun e w' => e = .returned (.tuple #[.string ⟨(textP l0 l1 l2 l3).1.toArray⟩, .nilIface]) ∧ Aside0 (OT w cs bs w') ∧ w'.cell? ⟨w.heap.size, 0, none⟩ = some (.slice A0 l0.length c0) ∧ w'.cell? ⟨w.heap.size, 1, none⟩ = some (.slice A1 l1.length c1) ∧ w'.cell? ⟨w.heap.size, 2, none⟩ = some (.int .i64 l2) ∧ w'.cell? ⟨w.heap.size, 3, none⟩ = some (.slice A3 l3.length c3) ∧ w'.cell? ⟨w.heap.size + 1, 0, none⟩ = some (.slice B0 m0.length d0) ∧ w'.cell? ⟨w.heap.size + 1, 1, none⟩ = some (.slice B1 m1.length d1) ∧ w'.cell? ⟨w.heap.size + 1, 2, none⟩ = some (.int .i64 m2) ∧ w'.cell? ⟨w.heap.size + 1, 3, none⟩ = some (.slice B3 m3.length d3) := fun W E0 e0 E1 e1 E3 e3 hW => (Text_ok ad E0 e0 l0 E1 e1 l1 l2 E3 e3 l3 W (hs.below hW.2.low) (C_pre hW.1.r0) (by have := hW.1.h0; omega) (C_pre hW.1.r1) (by have := hW.1.h1; omega) hW.1.r3.reads (by have := hW.1.r3.1; omega) h1).mono fun e w' ⟨he, hb⟩ => ⟨he, ⟨hW.2.more hb⟩, CE _ (hW.2.more hb)⟩
 have kT2 : ∀ W E0 e0 E1 e1 E3 e3, MG W E0 e0 m0 E1 e1 m1 E3 e3 m3 ∧ OT w cs bs W → Calls Tryd.prog 23 #[.agg #[.slice E0 m0.length e0, .slice E1 m1.length e1, .int .i64 m2, .slice E3 m3.length e3]] W fun e w' => e = .returned (.tuple #[.string ⟨(textP m0 m1 m2 m3).1.toArray⟩, .nilIface]) ∧ Aside0 (OT w cs bs w') ∧ w'.cell? ⟨w.heap.size, 0, none⟩ = some (.slice A0 l0.length c0) ∧ w'.cell? ⟨w.heap.size, 1, none⟩ = some (.slice A1 l1.length c1) ∧ w'.cell? ⟨w.heap.size, 2, none⟩ = some (.int .i64 l2) ∧ w'.cell? ⟨w.heap.size, 3, none⟩ = some (.slice A3 l3.length c3) ∧ w'.cell? ⟨w.heap.size + 1, 0, none⟩ = some (.slice B0 m0.length d0) ∧ w'.cell? ⟨w.heap.size + 1, 1, none⟩ = some (.slice B1 m1.length d1) ∧ w'.cell? ⟨w.heap.size + 1, 2, none⟩ = some (.int .i64 m2) ∧ w'.cell? ⟨w.heap.size + 1, 3, none⟩ = some (.slice B3 m3.length d3) := fun W E0 e0 E1 e1 E3 e3 hW => (Text_ok ad E0 e0 m0 E1 e1 m1 m2 E3 e3 m3 W (hs.below hW.2.low) (C_pre hW.1.r0) (by have := hW.1.h0; omega) (C_pre hW.1.r1) (by have := hW.1.h1; omega) hW.1.r3.reads (by have := hW.1.r3.1; omega) h2).mono fun e w' ⟨he, hb⟩ => ⟨he, ⟨hW.2.more hb⟩, CE _ (hW.2.more hb)⟩
 have kG : ∀ b, b = decide ((⟨(textP l0 l1 l2 l3).1.toArray⟩ : ByteArray) = ⟨(textP m0 m1 m2 m3).1.toArray⟩) → ∀ W, OT w cs bs W → Calls Tryd.prog 28 #[.agg #[.slice A0 l0.length c0, .slice A1 l1.length c1, .int .i64 l2, .slice A3 l3.length c3], .agg #[.slice B0 m0.length d0, .slice B1 m1.length d1, .int .i64 m2, .slice B3 m3.length d3]] W fun e w' => e = .returned (.bool b) ∧ Aside0 (OT w cs bs w') := fun b hb W hW => by
  have hM : ∀ x ∈ l3, x.f1.length ≤ 17592186044415 := fun x hx => by have := bx x hx; omega
  have hf := KGrammar_f (17592186044415 + 17592186044415 + 2) l0 l1 l2 l3 m0 m1 m2 m3 17592186044415 (by omega) (by omega) (by omega) (by omega) hM (by omega)
  refine (dovetailkit_Grammar.calls _ A0 c0 l0 A1 c1 l1 l2 A3 c3 l3 B0 d0 m0 B1 d1 m1 m2 B3 d3 m3 _ W (Kd.C_below r0 hW.low) rc0 (Kd.C_below r1 hW.low) rc1 (Kd.C_below r3 hW.low) rc3 (Kd.C_below s0 hW.low) sc0 (Kd.C_below s1 hW.low) sc1 (Kd.C_below s3 hW.low) sc3 hf).mono ?_
  rintro e w' ⟨rfl, hb'⟩
  refine ⟨?_, ⟨hW.more hb'⟩⟩
  have hiff : (textP l0 l1 l2 l3).1 = (textP m0 m1 m2 m3).1 ↔ (⟨(textP l0 l1 l2 l3).1.toArray⟩ : ByteArray) = ⟨(textP m0 m1 m2 m3).1.toArray⟩ := ⟨fun e => by rw [e], fun e => by
   have := congrArg (fun a : ByteArray => a.data.toList) e
   simpa using this⟩
  rw [hb, decide_eq_decide.2 ((text_iff h1 h2).symm.trans hiff)]
 generalize (⟨(textP l0 l1 l2 l3).1.toArray⟩ : ByteArray) = sa at kT1 kG
 generalize (⟨(textP m0 m1 m2 m3).1.toArray⟩ : ByteArray) = sb at kT2 kG
 have ST := Aside0.mk st
 have CE' := Aside0.mk CE
 have KN := Aside0.mk kN
 have KL1 := Aside0.mk kL1
 have KL2 := Aside0.mk kL2
 have KT1 := Aside0.mk kT1
 have KT2 := Aside0.mk kT2
 have KG := Aside0.mk kG
 have HCS := Lib.hid hcs
 have HBS := Lib.hid hbs
 clear kN kL1 kL2 kT1 kT2 kG st CE hcs hbs hs r0 r1 r3 s0 s1 s3 h1 h2 b0 b1 b3 bx k0 k1 k3 kx
 by_cases hab : sa = sb
 · subst hab
   have KGX := Aside0.mk (KG.out true (decide_eq_true rfl).symm)
   clear KG
   go_enter Tryd.func6, Tryd.ntmps6
   go_wp2_with (first
    | (go_at_call 27; (with_reducible refine (KN.out _ ST.out).mono ?_); rintro e w2 ⟨rfl, t2, f0, f1, f2, f3, f4, f5, f6, f7⟩)
    | (go_at_call 10; (with_reducible refine (KL1.out _ t2.out).mono ?_); clear f0 f1 f2 f3 f4 f5 f6 f7; clear t2; rintro e w3 ⟨E0, e0, E1, e1, E3, e3, rfl, t3⟩)
    | (go_at_call 23; (with_reducible refine (KT1.out _ _ _ _ _ _ _ t3.out).mono ?_); clear t3; rintro e w4 ⟨rfl, t4, f0, f1, f2, f3, f4, f5, f6, f7⟩)
    | (go_at_call 10; (with_reducible refine (KL2.out _ t4.out).mono ?_); clear f0 f1 f2 f3 f4 f5 f6 f7; clear t4; rintro e w5 ⟨E0, e0, E1, e1, E3, e3, rfl, t5⟩)
    | (go_at_call 23; (with_reducible refine (KT2.out _ _ _ _ _ _ _ t5.out).mono ?_); clear t5; rintro e w6 ⟨rfl, t6, f0, f1, f2, f3, f4, f5, f6, f7⟩)
    | (go_at_call 28; (with_reducible refine (KGX.out _ t6.out).mono ?_); rintro e w7 ⟨rfl, t7⟩))
   go_ret
   exact ⟨rfl, t7.out.low⟩
 · have KGX := Aside0.mk (KG.out false (decide_eq_false hab).symm)
   have hab1 : (sa.toList == sb.toList) = false := beq_false_of_ne fun h => hab ((toL_inj sa sb).1 h)
   have hab2 : decide (sa.toList = sb.toList) = false := decide_eq_false fun h => hab ((toL_inj sa sb).1 h)
   clear KG
   go_enter Tryd.func6, Tryd.ntmps6
   go_wp2_with (first
    | (go_at_call 27; (with_reducible refine (KN.out _ ST.out).mono ?_); rintro e w2 ⟨rfl, t2, f0, f1, f2, f3, f4, f5, f6, f7⟩)
    | (go_at_call 10; (with_reducible refine (KL1.out _ t2.out).mono ?_); clear f0 f1 f2 f3 f4 f5 f6 f7; clear t2; rintro e w3 ⟨E0, e0, E1, e1, E3, e3, rfl, t3⟩)
    | (go_at_call 23; (with_reducible refine (KT1.out _ _ _ _ _ _ _ t3.out).mono ?_); clear t3; rintro e w4 ⟨rfl, t4, f0, f1, f2, f3, f4, f5, f6, f7⟩)
    | (go_at_call 10; (with_reducible refine (KL2.out _ t4.out).mono ?_); clear f0 f1 f2 f3 f4 f5 f6 f7; clear t4; rintro e w5 ⟨E0, e0, E1, e1, E3, e3, rfl, t5⟩)
    | (go_at_call 23; (with_reducible refine (KT2.out _ _ _ _ _ _ _ t5.out).mono ?_); clear t5; rintro e w6 ⟨rfl, t6, f0, f1, f2, f3, f4, f5, f6, f7⟩)
    | (go_at_call 28; (with_reducible refine (KGX.out _ t6.out).mono ?_); rintro e w7 ⟨rfl, t7⟩))
   go_ret
   exact ⟨rfl, t7.out.low⟩
theorem ShowOne_calls (ad : Int → Addr) (A0 : Option Addr) (c0 : Nat) (l0 : List ByteArray) (A1 : Option Addr) (c1 : Nat) (l1 : List ByteArray) (l2 : Int) (A3 : Option Addr) (c3 : Nat) (l3 : List S52) (B0 : Option Addr) (d0 : Nat) (m0 : List ByteArray) (B1 : Option Addr) (d1 : Nat) (m1 : List ByteArray) (m2 : Int) (B3 : Option Addr) (d3 : Nat) (m3 : List S52) (w : World) (hs : SentsK ad w) (r0 : Kd.C Kd.string w A0 l0.length l0) (rc0 : l0.length ≤ c0) (r1 : Kd.C Kd.string w A1 l1.length l1) (rc1 : l1.length ≤ c1) (r3 : Kd.C k52 w A3 l3.length l3) (rc3 : l3.length ≤ c3) (s0 : Kd.C Kd.string w B0 m0.length m0) (sc0 : m0.length ≤ d0) (s1 : Kd.C Kd.string w B1 m1.length m1) (sc1 : m1.length ≤ d1) (s3 : Kd.C k52 w B3 m3.length m3) (sc3 : m3.length ≤ d3)
 (b0 : l0.length < 8796093022207) (b1 : l1.length < 8796093022207) (b3 : l3.length < 4398046511104) (bx : ∀ x ∈ l3, x.f1.length < 17592186044415) (k0 : m0.length < 8796093022207) (k1 : m1.length < 8796093022207) (k3 : m3.length < 4398046511104) (kx : ∀ x ∈ m3, x.f1.length < 17592186044415) :
 Calls Tryd.prog 6 #[.agg #[.slice A0 l0.length c0, .slice A1 l1.length c1, .int .i64 l2, .slice A3 l3.length c3], .agg #[.slice B0 m0.length d0, .slice B1 m1.length d1, .int .i64 m2, .slice B3 m3.length d3]] w fun e w' => e = .returned (.bool true) ∧ Below w.heap.size w w' := by
 by_cases h1 : (textP l0 l1 l2 l3).2 = 0
 · by_cases h2 : (textP m0 m1 m2 m3).2 = 0
   · exact ShowOne_11 ad A0 c0 l0 A1 c1 l1 l2 A3 c3 l3 B0 d0 m0 B1 d1 m1 m2 B3 d3 m3 w hs r0 rc0 r1 rc1 r3 rc3 s0 sc0 s1 sc1 s3 sc3 b0 b1 b3 bx k0 k1 k3 kx h1 h2
   · exact ShowOne_10 ad A0 c0 l0 A1 c1 l1 l2 A3 c3 l3 B0 d0 m0 B1 d1 m1 m2 B3 d3 m3 w hs r0 rc0 r1 rc1 r3 rc3 s0 sc0 s1 sc1 s3 sc3 b0 b1 b3 bx k0 k1 k3 kx h1 h2
 · by_cases h2 : (textP m0 m1 m2 m3).2 = 0
   · exact ShowOne_01 ad A0 c0 l0 A1 c1 l1 l2 A3 c3 l3 B0 d0 m0 B1 d1 m1 m2 B3 d3 m3 w hs r0 rc0 r1 rc1 r3 rc3 s0 sc0 s1 sc1 s3 sc3 b0 b1 b3 bx k0 k1 k3 kx h1 h2
   · exact ShowOne_00 ad A0 c0 l0 A1 c1 l1 l2 A3 c3 l3 B0 d0 m0 B1 d1 m1 m2 B3 d3 m3 w hs r0 rc0 r1 rc1 r3 rc3 s0 sc0 s1 sc1 s3 sc3 b0 b1 b3 bx k0 k1 k3 kx h1 h2
end Go.Proofs.YthjhaogfpdkhbaaDoor.Sh
namespace Go.Proofs.YthjhaogfpdkhbaaDoor.showOne
open Go.ChangeShapes Go.WideShapes Go.ChangeAt Go.RowKit YthjhaogfpdkhbaaDoorW.PrintWords H B

theorem own : ownKnob Tryd.prog.godebug = none := by kernel_rfl
theorem laidOut : laidOutB Tryd.prog = true := by kernel_rfl
theorem bounds_i {n : Int} (h : (Lit.int .i64 n).wf = true) : -9223372036854775808 ≤ n ∧ n < 9223372036854775808 := by
 have h1 : IntKind.i64.min = -9223372036854775808 := by decide
 have h2 : IntKind.i64.max = 9223372036854775807 := by decide
 have h3 : (decide (IntKind.i64.min ≤ n) && decide (n ≤ IntKind.i64.max)) = true := h
 rw [h1, h2] at h3
 simp only [Bool.and_eq_true, decide_eq_true_eq] at h3
 omega

set_option maxRecDepth 100000 in
theorem contract (H : Type) (enc : TypeId × Value → H) (W : World) (base : Nat) (args : Array Value) (ds gs : List (DataW H)) (before : List MemPlace)
 (hval : ∀ (j : Nat) t v, Tryd.f6.params[j]? = some t → args[j]? = some v → Value.okWide Tryd.prog W .any base t v)
 (ad : Int → Addr) (hs : SentsK ad W)
 (hz : (DataW.weightsEach Tryd.prog (Tryd.f6.params.toList ++ (OpenSpec.ofChange Rows.showOneSpec).bare.plain.varTypes Tryd.prog) (ds ++ gs)).all (· ≤ reachBytes) = true)
 (hW : DataW.Whole enc Tryd.prog Tryd.f6.params.toList Rows.showOneSpec.vars false W args.toList ds gs before) :
 Calls Tryd.prog 6 args W fun e W' => ∃ v, e = .returned v ∧ Rows.showOneSpec.post enc Tryd.prog Tryd.f6 false true false false W args v W' := by
 have hW' := hW
 obtain ⟨p, q, hA0, hV, rfl, hfz, hnd⟩ := hW
 have hA : DataW.TrodAll enc Tryd.prog W 0 (fun _ => true) true Tryd.f6.params.toList args.toList ds p := hA0
 rw [Tryd.params6] at hA hval
 obtain ⟨v0, vs0, d0, ds0, p0, q0, hargs, rfl, rfl, h0, r0⟩ := trodAll_cons hA
 obtain ⟨v1, vs1, d1, ds1, p1, q1, rfl, rfl, rfl, h1, r1⟩ := trodAll_cons r0
 obtain ⟨rfl, rfl, rfl⟩ := trodAll_nil r1
 obtain rfl : args = #[v0, v1] := by cases args; simp_all
 obtain ⟨rfl, rfl⟩ := trodVars_none hV
 obtain ⟨g0, A00, c00, A01, c01, A03, c03, rfl, l00, k00, l01, k01, l03, k03, z00, z01, z03, zx0⟩ := OG.open_gz (hval 0 25 v0 rfl rfl) h0 (fun n hn => by simpa using List.all_eq_true.1 hz n (DataW.weights_mem_each (j := 0) (by kernel_rfl) rfl n hn))
 obtain ⟨g1, A10, c10, A11, c11, A13, c13, rfl, l10, k10, l11, k11, l13, k13, z10, z11, z13, zx1⟩ := OG.open_gz (hval 1 25 v1 rfl rfl) h1 (fun n hn => by simpa using List.all_eq_true.1 hz n (DataW.weights_mem_each (j := 1) (by kernel_rfl) rfl n hn))
 refine (Sh.ShowOne_calls ad A00 c00 g0.f0 A01 c01 g0.f1 g0.f2 A03 c03 g0.f3 A10 c10 g1.f0 A11 c11 g1.f1 g1.f2 A13 c13 g1.f3 W hs k00 l00 k01 l01 k03 l03 k10 l10 k11 l11 k13 l13 z00 z01 z03 zx0 z10 z11 z13 zx1).mono fun e W' ⟨he, bel⟩ => ?_
 subst he
 simp only [List.append_nil] at hW'
 exact ⟨_, rfl, _, _, _, [], _, [], hW', trodAll_mk1 (shut_bool Tryd.underlying4 _), (trodAll_cons_mk (Below.trod laidOut (by kernel_rfl) (of_decide_eq_true (by kernel_rfl)) h0 bel (trod_below h0)) (trodAll_cons_mk (Below.trod laidOut (by kernel_rfl) (of_decide_eq_true (by kernel_rfl)) h1 bel (trod_below h1)) trodAll_mk0)), rfl, bel.frame _, fun h => by cases h⟩

theorem laid_met (os : Os) (args : Array Value) : laidMetH Tryd.prog Rows.showOneRow.laid ((laidWorld16 os).forCall (fun _ _ => 0) ⟨#[], args, []⟩).memory := L15.laid_met os args
theorem sents {W : World} (h : laidMetH Tryd.prog Rows.showOneRow.laid W) : ∃ ad, SentsK ad W := L15.sents h
theorem reads (os : Os) {H : Type} (enc : TypeId × Value → H) : ∃ places, DataW.whole enc Tryd.prog ((laidWorld16 os).forCall (fun _ _ => 0) ⟨#[], #[Value.agg #[.slice none 0 0, .slice none 0 0, .int .i64 0, .slice none 0 0], Value.agg #[.slice none 0 0, .slice none 0 0, .int .i64 0, .slice none 0 0]], []⟩).memory Tryd.f6.params.toList Rows.showOneSpec.vars false (#[Value.agg #[.slice none 0 0, .slice none 0 0, .int .i64 0, .slice none 0 0], Value.agg #[.slice none 0 0, .slice none 0 0, .int .i64 0, .slice none 0 0]] : Array Value).toList 8 = some ([.agg [.nil, .nil, .lit (.int .i64 0), .nil], .agg [.nil, .nil, .lit (.int .i64 0), .nil]], [], places) :=
 ⟨[], by kernel_rfl⟩

set_option maxRecDepth 100000 in
theorem lifted (os : Os) (started : os.Started) (H : Type) (enc : TypeId × Value → H) (F : Stop.Interp) :
 ReturnsInHanded {} Tryd.checked os 6 .any ((OpenSpec.ofChange Rows.showOneSpec).preRow enc Tryd.prog Tryd.f6 Rows.showOneRow.domain false Rows.showOneRow.laid) (((OpenSpec.ofChange Rows.showOneSpec).at F).post enc Tryd.prog Tryd.f6 false true false false) := by
 obtain ⟨places, hx⟩ := reads os enc
 refine returnsInHanded_of_row (C := Tryd.checked) (s := OpenSpec.ofChange Rows.showOneSpec) own started (by kernel_rfl) Tryd.func6
  (witness_row_atRef (enc := enc) (C := Tryd.checked) false (laidWorld16 os) #[Value.agg #[.slice none 0 0, .slice none 0 0, .int .i64 0, .slice none 0 0], Value.agg #[.slice none 0 0, .slice none 0 0, .int .i64 0, .slice none 0 0]] rfl (by kernel_rfl) (by kernel_rfl) (by kernel_rfl)
   (OpenSpec.preRow_of_cond 8 hx (by kernel_rfl) (fun k hk => by cases hk) (by kernel_rfl) (laid_met os _))) ?_
 intro W base args ds gs before hval hW _ hcond hz hL _ _
 obtain ⟨ad, hs⟩ := sents hL
 exact contract H enc W base args ds gs before hval ad hs hz hW

theorem said : Rows.ShowOneSaid :=
 OpenClaim.holds_of_cond 6 Tryd.f6 rfl rfl rfl rfl rfl rfl rfl ⟨rfl, rfl, rfl, rfl, rfl⟩ rfl rfl rfl rfl rfl (by kernel_rfl) Tryd.func6 (by kernel_rfl)
  (of_decide_eq_true (by kernel_rfl)) (by unfold Func.isWrapper; first | (rw [if_pos (by decide +kernel)]; kernel_rfl) | (rw [if_neg (by decide +kernel)]; exact ⟨rfl, rfl⟩))
  (fun os started H enc _ F => by rw [OpenClaim.pre_eq_preRow]; exact lifted os started H enc F)

theorem plain (f : FuncId) (fn : Func) (hf : Tryd.pinned.checked.prog.funcNamed "dovetail/dovetaillaw05.ShowOne" = some f) (hfn : Tryd.pinned.checked.prog.funcs[f]? = some fn) :
 true = Tryd.pinned.checked.prog.looks [] ∧ ∀ (j : Nat) t, fn.params[j]? = some t → Tryd.pinned.checked.prog.wantsStandIn t = false := by
 obtain rfl : f = 6 := Option.some.inj ((show Tryd.prog.funcNamed "dovetail/dovetaillaw05.ShowOne" = some 6 by kernel_rfl).symm.trans hf) |>.symm
 obtain rfl : fn = Tryd.f6 := (Option.some.inj (Tryd.func6.symm.trans hfn)).symm
 refine ⟨by kernel_rfl, fun j t ht => ?_⟩
 rw [Tryd.params6] at ht
 obtain rfl : t = 25 := by simpa using Array.mem_of_getElem? ht
 exact (show Tryd.prog.wantsStandIn 25 = false by kernel_rfl)

theorem proved : Rows.ShowOneCardSaid :=
 Claim7.holds_tied_plain_at .later [] _ _ _ _ said (fun _ h => by cases h) (by kernel_rfl) (fun _ h => by cases h) showOne_row_tie rfl ⟨rfl, rfl⟩ (by kernel_rfl) rfl plain (by kernel_rfl)
#print axioms proved
end Go.Proofs.YthjhaogfpdkhbaaDoor.showOne
