/- Texts of this claim, one behind the other. -/
import Derived.Test.YteaiejippkikpaaDoorMNam2
import Derived.Test.YteaiejippkikpaaDoorMNam1
import Derived.Deep.Onto
import Derived.ArgAppend
import Derived.OwnWalk
import Derived.StillTailTactics
import Derived.Deep.RegionHeld3
/- gram.Above: each nonterminal's set has just those that come to it. -/
set_option linter.unusedVariables false
set_option linter.unusedSimpArgs false
namespace Go.Proofs.YteaiejippkikpaaDoor.B
open Go.RowKit Go.Proofs.YteaiejippkikpaaDoorW.PrintWords Go.Proofs.YteaiejippkikpaaDoorW.PrintLast Go.Proofs.YteaiejippkikpaaDoorW.PrintMore

/-- The sets on their way. -/
structure Sets (R : List S35) (n : Nat) (S : List Int) : Prop where
  len : S.length = n
  u : ∀ i, i < n → U (S.getD i 0)
  own : ∀ i, i < n → mem (S.getD i 0) i = true
  sound : ∀ i, i < n → ∀ k, mem (S.getD i 0) k = true → Reach R k i
/-- A rule brings nothing more. -/
def Shut (S : List Int) (x : S35) : Prop := ∀ m, ren x = some m → ∀ i, mem (S.getD x.f0.toNat 0) i = true → mem (S.getD m 0) i = true

theorem fill_l (n : Nat) (l0 l1 : List ByteArray) (a2 : Int) (R : List S35) (hn : n ≤ 60) (k : Nat) : ∀ (d i : Nat) (S : List Int), S.length = n → n - i = d → i ≤ n →
    gram_Above.l0 (k + d + 1) S (n : Int) (i : Int) l0 l1 a2 R = gram_Above.l1 k ((List.range n).map fun j => if j < i then S.getD j 0 else shl .u64 1 (j : Int)) true l0 l1 a2 R := by
  intro d
  induction d with
  | zero =>
    intro i S hl hd hi
    have : i = n := by omega
    subst this
    rw [gram_Above.l0, if_neg (by omega)]
    congr 1
    apply List.ext_getElem
    · simp [hl]
    · intro j h1 h2
      have : j < i := by omega
      simp [this, h1]
  | succ d ih =>
    intro i S hl hd hi
    have hlt : i < n := by omega
    rw [show k + (d + 1) + 1 = (k + d + 1) + 1 from by omega, gram_Above.l0, if_pos (by omega), if_pos (by omega), if_pos (by omega), Int.toNat_natCast, w64 i (by omega), ih (i + 1) _ (by simp [hl]) (by omega) (by omega)]
    congr 1
    apply List.map_congr_left
    intro j hj
    have hjn : j < n := by simpa using hj
    rw [getD_set]
    by_cases c : j = i
    · subst c
      rw [if_pos (by omega), if_pos ⟨rfl, by omega⟩, if_neg (by omega)]
    · by_cases c2 : j < i
      · rw [if_pos (by omega), if_neg (fun h => c h.1.symm), if_pos c2]
      · rw [if_neg (by omega), if_neg c2]

theorem pass (n t : Nat) (l0 l1 : List ByteArray) (a2 : Int) (R : List S35) (hn : n ≤ 60) (hR : ∀ x ∈ R, okR t n x = true) (hRl : R.length ≤ 120) : ∀ (d j : Nat) (S : List Int) (more : Bool), Sets R n S → R.length - j = d → j ≤ R.length →
    ∃ S' more', (∀ k, gram_Above.l2 (k + d + 1) S more R (R.length : Int) (j : Int) l0 l1 a2 R = gram_Above.l1 k S' more' l0 l1 a2 R) ∧ Sets R n S' ∧ (∀ i, i < n → S.getD i 0 ≤ S'.getD i 0) ∧
      (more' = false → more = false ∧ S' = S ∧ ∀ x ∈ R.drop j, Shut S x) ∧ (more' = true → more = true ∨ S.sum < S'.sum) := by
  intro d
  induction d with
  | zero =>
    intro j S more hS hd hj
    have : j = R.length := by omega
    subst this
    refine ⟨S, more, fun k => ?_, hS, fun i _ => Int.le_refl _, fun h => ⟨h, rfl, by simp⟩, fun h => .inl h⟩
    rw [gram_Above.l2, if_neg (by omega)]
  | succ d ih =>
    intro j S more hS hd hj
    have hlt : j < R.length := by omega
    have hx := hR R[j] (List.getElem_mem hlt)
    have hd1 : rd_T35 R (j : Int) = R[j] := by rw [rdR_D, getD_lt R j _ hlt]
    have hrf := ren_f hx hn
    obtain ⟨_, ha0, ha1, _⟩ := okR_sides hx
    have hmem : R[j] ∈ R := List.getElem_mem hlt
    have hdrop : R.drop j = R[j] :: R.drop (j + 1) := List.drop_eq_getElem_cons hlt
    have hrn : ∀ m, ren R[j] = some m → m < n := fun m h => ren_lt hx h
    generalize R[j] = x at hx hd1 hrf ha0 ha1 hmem hdrop hrn
    obtain ⟨a, ha⟩ : ∃ a : Nat, x.f0 = a := ⟨x.f0.toNat, by omega⟩
    have han : a < n := by omega
    have hlen := hS.len
    have unf : ∀ k, gram_Above.l2 (k + (d + 1) + 1) S more R (R.length : Int) (j : Int) l0 l1 a2 R =
        (match ren x with
         | none => gram_Above.l2 (k + d + 1) S more R (R.length : Int) ((j + 1 : Nat) : Int) l0 l1 a2 R
         | some m => if Go.bits .andNot .u64 (S.getD a 0) (S.getD m 0) = 0 then gram_Above.l2 (k + d + 1) S more R (R.length : Int) ((j + 1 : Nat) : Int) l0 l1 a2 R
           else gram_Above.l2 (k + d + 1) (S.set m (Go.bits .or .u64 (S.getD m 0) (S.getD a 0))) true R (R.length : Int) ((j + 1 : Nat) : Int) l0 l1 a2 R) := by
      intro k
      rw [show k + (d + 1) + 1 = (k + d + 1) + 1 from by omega, gram_Above.l2, if_pos (by omega), if_pos (by omega), if_pos (by omega), hd1, hrf, Option.bind_some, w64 j (by omega)]
      cases hr : ren x with
      | none => simp
      | some m =>
        have hm := hrn m hr
        simp only [if_true]
        rw [if_pos ha0, if_pos (by omega), if_pos (by omega), if_pos (by omega), ha, rd_D, rd_D, Int.toNat_natCast]
    cases hr : ren x with
    | none =>
      obtain ⟨S', more', h1, h2, h3, h4, h5⟩ := ih (j + 1) S more hS (by omega) (by omega)
      refine ⟨S', more', fun k => ?_, h2, h3, fun h => ?_, h5⟩
      · rw [unf k, hr]; exact h1 k
      · obtain ⟨e1, e2, e3⟩ := h4 h
        refine ⟨e1, e2, ?_⟩
        rw [hdrop]
        intro y hy
        rcases List.mem_cons.1 hy with rfl | hy
        · intro m hm; rw [hr] at hm; cases hm
        · exact e3 y hy
    | some m =>
      have hm := hrn m hr
      have ua := hS.u a han
      have um := hS.u m hm
      by_cases hz : Go.bits .andNot .u64 (S.getD a 0) (S.getD m 0) = 0
      · obtain ⟨S', more', h1, h2, h3, h4, h5⟩ := ih (j + 1) S more hS (by omega) (by omega)
        refine ⟨S', more', fun k => ?_, h2, h3, fun h => ?_, h5⟩
        · rw [unf k, hr]; dsimp only; rw [if_pos hz]; exact h1 k
        · obtain ⟨e1, e2, e3⟩ := h4 h
          refine ⟨e1, e2, ?_⟩
          rw [hdrop]
          intro y hy
          rcases List.mem_cons.1 hy with rfl | hy
          · intro m' hm'
            rw [hr] at hm'
            obtain rfl := Option.some.inj hm'
            rw [ha, Int.toNat_natCast]
            exact (andNot_zero ua um).1 hz
          · exact e3 y hy
      · have hedge : Edge R a m := ⟨x, hmem, ha, hr⟩
        have hgrow : S.getD m 0 < Go.bits .or .u64 (S.getD m 0) (S.getD a 0) := by
          have hle := or_ge um ua
          rcases Int.lt_or_eq_of_le hle with h | h
          · exact h
          · exfalso
            refine hz ((andNot_zero ua um).2 fun i hi => ?_)
            have := mem_or um ua i
            rw [← h, hi, Bool.or_true] at this
            exact this
        have hS1 : Sets R n (S.set m (Go.bits .or .u64 (S.getD m 0) (S.getD a 0))) := by
          refine ⟨by simp [hlen], fun i hi => ?_, fun i hi => ?_, fun i hi k hk => ?_⟩
          · rw [getD_set]
            split
            · exact U_or um ua
            · exact hS.u i hi
          · rw [getD_set]
            split
            · rename_i c
              rw [mem_or um ua, c.1, hS.own i hi, Bool.true_or]
            · exact hS.own i hi
          · rw [getD_set] at hk
            split at hk
            · rename_i c
              rw [mem_or um ua] at hk
              rw [← c.1]
              rcases Bool.or_eq_true_iff.1 hk with h | h
              · exact hS.sound m hm k h
              · exact (hS.sound a han k h).snoc hedge
            · exact hS.sound i hi k hk
        obtain ⟨S', more', h1, h2, h3, h4, h5⟩ := ih (j + 1) _ true hS1 (by omega) (by omega)
        have hle1 : ∀ i, i < n → S.getD i 0 ≤ (S.set m (Go.bits .or .u64 (S.getD m 0) (S.getD a 0))).getD i 0 := by
          intro i hi
          rw [getD_set]
          split
          · rename_i c; rw [← c.1]; omega
          · exact Int.le_refl _
        refine ⟨S', more', fun k => ?_, h2, fun i hi => Int.le_trans (hle1 i hi) (h3 i hi), fun h => ?_, fun h => .inr ?_⟩
        · rw [unf k, hr]; dsimp only; rw [if_neg hz]; exact h1 k
        · cases (h4 h).1
        · have hs1 := sum_set S m (Go.bits .or .u64 (S.getD m 0) (S.getD a 0)) (by omega)
          have hs2 := sum_le _ S' (by rw [hS1.len, h2.len]) (fun i hi => h3 i (by rw [hS1.len] at hi; exact hi))
          omega

theorem rounds_l (n t : Nat) (l0 l1 : List ByteArray) (a2 : Int) (R : List S35) (hn : n ≤ 60) (hR : ∀ x ∈ R, okR t n x = true) (hRl : R.length ≤ 120) : ∀ (d : Nat) (S : List Int), Sets R n S → (n : Int) * 2 ^ 64 - S.sum ≤ d →
    ∃ k S', gram_Above.l1 k S true l0 l1 a2 R = some S' ∧ Sets R n S' ∧ ∀ x ∈ R, Shut S' x := by
  intro d
  induction d with
  | zero =>
    intro S hS hd
    obtain ⟨S', more', h1, h2, h3, h4, h5⟩ := pass n t l0 l1 a2 R hn hR hRl R.length 0 S false hS (by omega) (by omega)
    cases more' with
    | false =>
      obtain ⟨_, rfl, hsh⟩ := h4 rfl
      refine ⟨1 + R.length + 1 + 1, S', ?_, h2, by simpa using hsh⟩
      rw [gram_Above.l1, if_pos rfl]
      have := h1 1
      rw [show ((0 : Nat) : Int) = 0 from rfl] at this
      rw [this, gram_Above.l1, if_neg (by decide)]
    | true =>
      exfalso
      have hlt := (h5 rfl).resolve_left (by decide)
      have hb := sum_bound S' (fun i hi => (h2.u i (by rw [h2.len] at hi; exact hi)).2)
      rw [h2.len] at hb
      omega
  | succ d ih =>
    intro S hS hd
    obtain ⟨S', more', h1, h2, h3, h4, h5⟩ := pass n t l0 l1 a2 R hn hR hRl R.length 0 S false hS (by omega) (by omega)
    cases more' with
    | false =>
      obtain ⟨_, rfl, hsh⟩ := h4 rfl
      refine ⟨1 + R.length + 1 + 1, S', ?_, h2, by simpa using hsh⟩
      rw [gram_Above.l1, if_pos rfl]
      have := h1 1
      rw [show ((0 : Nat) : Int) = 0 from rfl] at this
      rw [this, gram_Above.l1, if_neg (by decide)]
    | true =>
      have hlt := (h5 rfl).resolve_left (by decide)
      obtain ⟨k, S2, e1, e2, e3⟩ := ih S' h2 (by omega)
      refine ⟨k + R.length + 1 + 1, S2, ?_, e2, e3⟩
      rw [gram_Above.l1, if_pos rfl]
      have := h1 k
      rw [show ((0 : Nat) : Int) = 0 from rfl] at this
      rw [this, e1]

/-- What the sets are. -/
structure AboveIs (R : List S35) (n : Nat) (S : List Int) : Prop where
  len : S.length = n
  u : ∀ i, i < n → U (S.getD i 0)
  iff : ∀ i, i < n → ∀ j, mem (S.getD i 0) j = true ↔ Reach R j i

theorem shut_reach {R : List S35} {n t : Nat} {S : List Int} (hR : ∀ x ∈ R, okR t n x = true) (hS : Sets R n S) (hsh : ∀ x ∈ R, Shut S x) {a b : Nat} (h : Reach R a b) : ∀ i, mem (S.getD a 0) i = true → mem (S.getD b 0) i = true := by
  induction h with
  | refl a => exact fun i h => h
  | step e _ ih =>
    intro i hi
    obtain ⟨x, hx, ha, hm⟩ := e
    refine ih i ?_
    have := hsh x hx _ hm i
    rw [ha, Int.toNat_natCast] at this
    exact this hi

theorem Above_ev (K : Nat) (l0 l1 : List ByteArray) (a2 : Int) (R : List S35) (ho : okG K l0 l1 a2 R) : ∃ k S, gram_Above.f k l0 l1 a2 R = some S ∧ AboveIs R l1.length S := by
  obtain ⟨h60, h120, hn0, hn1, ha0, ha1, hall⟩ := ho
  have hn : l1.length ≤ 60 := by omega
  have hstart : Sets R l1.length ((List.range l1.length).map fun j => if j < 0 then (List.replicate l1.length (0 : Int)).getD j 0 else shl .u64 1 (j : Int)) := by
    have hget : ∀ i, i < l1.length → ((List.range l1.length).map fun j => if j < 0 then (List.replicate l1.length (0 : Int)).getD j 0 else shl .u64 1 (j : Int)).getD i 0 = shl .u64 1 (i : Int) := by
      intro i hi
      rw [getD_lt _ _ _ (by simpa using hi)]
      simp
    refine ⟨by simp, fun i hi => ?_, fun i hi => ?_, fun i hi k hk => ?_⟩
    · rw [hget i hi]; exact U_one i (by omega)
    · rw [hget i hi, mem_one i (by omega)]; simp
    · rw [hget i hi, mem_one i (by omega)] at hk
      rw [← of_decide_eq_true hk]; exact .refl _
  obtain ⟨k, S, h1, h2, h3⟩ := rounds_l l1.length l0.length l0 l1 a2 R hn hall h120 (((l1.length : Int) * 2 ^ 64 - ((List.range l1.length).map fun j => if j < 0 then (List.replicate l1.length (0 : Int)).getD j 0 else shl .u64 1 (j : Int)).sum).toNat) _ hstart (by omega)
  have h4 := fill_l l1.length l0 l1 a2 R hn k l1.length 0 (List.replicate l1.length 0) (by simp) (by omega) (by omega)
  rw [h1] at h4
  have hchk : gram_Check.f K l0 l1 a2 R = some none := by
    unfold gram_Check.f
    rw [if_pos ⟨h60, h120, ha0, ha1, List.all_eq_true.2 hall⟩, hn0, hn1]; rfl
  have e1 : Ev (fun k => gram_Check.f k l0 l1 a2 R) none := Ev.of (gram_Check.mono _ _ _ _) hchk
  have e2 : Ev (fun k => gram_Above.l0 k (List.replicate l1.length 0) (l1.length : Int) 0 l0 l1 a2 R) S := Ev.of (fun k => (gram_Above.mono_l k).1 _ _ _ _ _ _ _) h4
  have e3 : Ev (fun k => gram_Above.f k l0 l1 a2 R) S := by
    unfold gram_Above.f
    refine Ev.bind e1 ?_
    refine Ev.congr (fun k => ?_) e2
    rw [if_pos (by rfl), if_pos (by omega), Int.toNat_natCast, if_pos (by omega), Option.bind_some, List.length_replicate]
  obtain ⟨k', hk'⟩ := e3.rounds
  refine ⟨k', S, hk', h2.len, h2.u, fun i hi j => ⟨h2.sound i hi j, fun h => ?_⟩⟩
  exact shut_reach hall h2 h3 h j (h2.own j (h.lt hall hi))
end Go.Proofs.YteaiejippkikpaaDoor.B
namespace Go.Proofs.YteaiejippkikpaaDoor.B
open Go.RowKit Go.Proofs.YteaiejippkikpaaDoorW.PrintWords Go.Proofs.YteaiejippkikpaaDoorW.PrintLast Go.Proofs.YteaiejippkikpaaDoorW.PrintMore
attribute [local go_sem] max2_int min2_int max_two min_two max_three min_three max_four min_four   -- for this text's walks alone
set_option linter.unusedVariables false
set_option linter.unusedSimpArgs false

/-! ### dovetailref03_Comes: function 65 -/
mutual
def dovetailref03_Comes.l0 : Nat → Int → List Bool → List Int → Int → List ByteArray → List ByteArray → Int → List (S35) → Option (Bool)
  | 0, _, _, _, _, _, _, _, _ => none
  | k + 1, x2, x7, x8, x9, x154000, x154001, x154002, x154003 => if x9 < (x8.length : Int) then (dovetailref03_Comes.l1 k x2 x7 x8 x9 0 x154000 x154001 x154002 x154003) else (if 0 ≤ x2 then (if x2 < (x7.length : Int) then (some (rdOf false x7 x2)) else (none)) else (none))
def dovetailref03_Comes.l1 : Nat → Int → List Bool → List Int → Int → Int → List ByteArray → List ByteArray → Int → List (S35) → Option (Bool)
  | 0, _, _, _, _, _, _, _, _, _ => none
  | k + 1, x2, x7, x8, x9, x10, x154000, x154001, x154002, x154003 => if x10 < (x154003.length : Int) then (if 0 ≤ x10 then ((dovetailref03_Renaming.f ((rd_T35 x154003 x10).f0) ((rd_T35 x154003 x10).f1)).bind fun bt163 => (if bt163.2 = true then (if 0 ≤ x9 then (if x9 < (x8.length : Int) then (if ((rd_T35 x154003 x10).f0) = (rd x8 x9) then (if 0 ≤ bt163.1 then (if bt163.1 < (x7.length : Int) then (if rdOf false x7 bt163.1 = true then (dovetailref03_Comes.l1 k x2 x7 x8 x9 (wrap64 (x10 + 1)) x154000 x154001 x154002 x154003) else (if x8.length < 17592186044416 then (dovetailref03_Comes.l1 k x2 (x7.set (bt163.1 : Int).toNat true) (x8 ++ [bt163.1]) x9 (wrap64 (x10 + 1)) x154000 x154001 x154002 x154003) else (none))) else (none)) else (none)) else (dovetailref03_Comes.l1 k x2 x7 x8 x9 (wrap64 (x10 + 1)) x154000 x154001 x154002 x154003)) else (none)) else (none)) else (dovetailref03_Comes.l1 k x2 x7 x8 x9 (wrap64 (x10 + 1)) x154000 x154001 x154002 x154003))) else (none)) else (dovetailref03_Comes.l0 k x2 x7 x8 (wrap64 (x9 + 1)) x154000 x154001 x154002 x154003)
end
def dovetailref03_Comes.f (k : Nat) (l0_0 : List ByteArray) (l0_1 : List ByteArray) (a0_2 : Int) (l0_3 : List (S35)) (a1 : Int) (a2 : Int) : Option (Bool) := if 0 ≤ (l0_1.length : Int) then (if ((l0_1.length : Int) : Int).toNat ≤ 281474976710656 then ((some (List.replicate ((l0_1.length : Int) : Int).toNat false : List Bool)).bind fun y154 => (if 0 ≤ a1 then (if a1 < (y154.length : Int) then (dovetailref03_Comes.l0 k a2 (y154.set (a1 : Int).toNat true) (([a1] : List Int)) 0 l0_0 l0_1 a0_2 l0_3) else (none)) else (none))) else (none)) else (none)
theorem dovetailref03_Comes.mono_l : ∀ k, (∀ y0 y1 y2 y3 y4 y5 y6 y7, LeO (dovetailref03_Comes.l0 k y0 y1 y2 y3 y4 y5 y6 y7) (dovetailref03_Comes.l0 (k + 1) y0 y1 y2 y3 y4 y5 y6 y7)) ∧ (∀ y0 y1 y2 y3 y4 y5 y6 y7 y8, LeO (dovetailref03_Comes.l1 k y0 y1 y2 y3 y4 y5 y6 y7 y8) (dovetailref03_Comes.l1 (k + 1) y0 y1 y2 y3 y4 y5 y6 y7 y8))
  | 0 => ⟨fun _ _ _ _ _ _ _ _ r h => by simp [dovetailref03_Comes.l0] at h, fun _ _ _ _ _ _ _ _ _ r h => by simp [dovetailref03_Comes.l1] at h⟩
  | k + 1 => by
    obtain ⟨ih0, ih1⟩ := dovetailref03_Comes.mono_l k
    refine ⟨?_, ?_⟩
    · intro y0 y1 y2 y3 y4 y5 y6 y7
      unfold dovetailref03_Comes.l0
      repeat' first
      | (with_reducible exact ih0 _ _ _ _ _ _ _ _)
      | (with_reducible exact ih1 _ _ _ _ _ _ _ _ _)
      | (with_reducible exact LeO.refl _)
      | (with_reducible exact LeO.none _)
      | (with_reducible refine LeO.ite ?_ ?_)
      | (with_reducible refine LeO.bind ?_ (fun _ => ?_))
      | exact ih0 _ _ _ _ _ _ _ _
      | exact ih1 _ _ _ _ _ _ _ _ _
      | exact LeO.none _
      | refine LeO.ite ?_ ?_
      | refine LeO.bind ?_ (fun _ => ?_)
    · intro y0 y1 y2 y3 y4 y5 y6 y7 y8
      unfold dovetailref03_Comes.l1
      repeat' first
      | (with_reducible exact ih0 _ _ _ _ _ _ _ _)
      | (with_reducible exact ih1 _ _ _ _ _ _ _ _ _)
      | (with_reducible exact LeO.refl _)
      | (with_reducible exact LeO.none _)
      | (with_reducible refine LeO.ite ?_ ?_)
      | (with_reducible refine LeO.bind ?_ (fun _ => ?_))
      | exact ih0 _ _ _ _ _ _ _ _
      | exact ih1 _ _ _ _ _ _ _ _ _
      | exact LeO.none _
      | refine LeO.ite ?_ ?_
      | refine LeO.bind ?_ (fun _ => ?_)
theorem dovetailref03_Comes.mono : ∀ a0 a1 a2 a3 a4 a5 k, LeO (dovetailref03_Comes.f k a0 a1 a2 a3 a4 a5) (dovetailref03_Comes.f (k + 1) a0 a1 a2 a3 a4 a5) := by
  intro a0 a1 a2 a3 a4 a5 k
  obtain ⟨ih0, ih1⟩ := dovetailref03_Comes.mono_l k
  unfold dovetailref03_Comes.f
  repeat' first
      | (with_reducible exact ih0 _ _ _ _ _ _ _ _)
      | (with_reducible exact ih1 _ _ _ _ _ _ _ _ _)
      | (with_reducible exact LeO.refl _)
      | (with_reducible exact LeO.none _)
      | (with_reducible refine LeO.ite ?_ ?_)
      | (with_reducible refine LeO.bind ?_ (fun _ => ?_))
      | exact ih0 _ _ _ _ _ _ _ _
      | exact ih1 _ _ _ _ _ _ _ _ _
      | exact LeO.none _
      | refine LeO.ite ?_ ?_
      | refine LeO.bind ?_ (fun _ => ?_)
set_option maxHeartbeats 8000000 in
set_option maxRecDepth 100000 in
theorem dovetailref03_Comes.calls (k : Nat) (A0_0 : Option Addr) (c0_0 : Nat) (l0_0 : List ByteArray) (A0_1 : Option Addr) (c0_1 : Nat) (l0_1 : List ByteArray) (a0_2 : Int) (A0_3 : Option Addr) (c0_3 : Nat) (l0_3 : List (S35)) (a1 : Int) (a2 : Int) (r : Bool) (w : World) (hr0_0 : Kd.C Kd.string w A0_0 l0_0.length l0_0) (hc0_0 : l0_0.length ≤ c0_0) (hr0_1 : Kd.C Kd.string w A0_1 l0_1.length l0_1) (hc0_1 : l0_1.length ≤ c0_1) (hr0_3 : Kd.C k35 w A0_3 l0_3.length l0_3) (hc0_3 : l0_3.length ≤ c0_3) (h : dovetailref03_Comes.f k l0_0 l0_1 a0_2 l0_3 a1 a2 = some r) :
    Calls Tryd.prog 65 #[.agg #[.slice A0_0 l0_0.length c0_0, .slice A0_1 l0_1.length c0_1, .int .i64 a0_2, .slice A0_3 l0_3.length c0_3], .int .i64 a1, .int .i64 a2] w fun e w' => e = .returned (.bool r) ∧ Below w.heap.size w w' := by
  have hu25 := Tryd.underlying25
  have hu35 := Tryd.underlying35
  have HR0_0 := Aside0.mk hr0_0
  have HC0_0 := Aside0.mk hc0_0
  clear hr0_0 hc0_0
  have HR0_1 := Aside0.mk hr0_1
  have HC0_1 := Aside0.mk hc0_1
  clear hr0_1 hc0_1
  have HR0_3 := Aside0.mk hr0_3
  have HC0_3 := Aside0.mk hc0_3
  clear hr0_3 hc0_3
  have HB := Aside0.mk (Below.refl w.heap.size w)
  have H : (if 0 ≤ (l0_1.length : Int) then (if ((l0_1.length : Int) : Int).toNat ≤ 281474976710656 then ((some (List.replicate ((l0_1.length : Int) : Int).toNat false : List Bool)).bind fun y154 => (if 0 ≤ a1 then (if a1 < (y154.length : Int) then (dovetailref03_Comes.l0 k a2 (y154.set (a1 : Int).toNat true) (([a1] : List Int)) 0 l0_0 l0_1 a0_2 l0_3) else (none)) else (none))) else (none)) else (none)) = some r := h
  clear h
  by_cases c4 : 0 ≤ (l0_1.length : Int)
  · rw [if_pos c4] at H
    have c4b0 := eq_true c4
    have c4b1 : decide (0 ≤ (l0_1.length : Int)) = true := decide_eq_true c4
    clear c4
    by_cases c5 : ((l0_1.length : Int) : Int).toNat ≤ 281474976710656
    · rw [if_pos c5] at H
      have c5b0 := eq_true c5
      have c5b1 : decide (((l0_1.length : Int) : Int).toNat ≤ 281474976710656) = true := decide_eq_true c5
      clear c5
      obtain ⟨y154, hy154⟩ : ∃ y_ : List Bool, y_ = (List.replicate ((l0_1.length : Int) : Int).toNat false) := ⟨_, rfl⟩
      replace H : (if 0 ≤ a1 then (if a1 < (y154.length : Int) then (dovetailref03_Comes.l0 k a2 (y154.set (a1 : Int).toNat true) (([a1] : List Int)) 0 l0_0 l0_1 a0_2 l0_3) else (none)) else (none)) = some r := by first | (rw [hy154]; with_reducible exact H) | (have H2_ := (Option.bind_some _ _).symm.trans H; rw [hy154]; with_reducible exact H2_) | (have H2_ := (Option.bind_some _ _).symm.trans H; with_reducible exact H2_) | with_reducible exact H | (rw [hy154]; exact H) | exact H
      have Ny154 := Aside0.mk hy154
      clear hy154
      obtain ⟨y157, hy157⟩ : ∃ y_ : List Int, y_ = (([a1] : List Int)) := ⟨_, rfl⟩
      replace H : (if 0 ≤ a1 then (if a1 < (y154.length : Int) then (dovetailref03_Comes.l0 k a2 (y154.set (a1 : Int).toNat true) y157 0 l0_0 l0_1 a0_2 l0_3) else (none)) else (none)) = some r := by first | (rw [hy157]; with_reducible exact H) | (have H2_ := (Option.bind_some _ _).symm.trans H; rw [hy157]; with_reducible exact H2_) | (have H2_ := (Option.bind_some _ _).symm.trans H; with_reducible exact H2_) | with_reducible exact H | (rw [hy157]; exact H) | exact H
      have Ny157 := Aside0.mk hy157
      clear hy157
      by_cases c6 : 0 ≤ a1
      · rw [if_pos c6] at H
        have c6b0 : decide (0 ≤ a1) = true := decide_eq_true c6
        clear c6
        by_cases c7 : a1 < (y154.length : Int)
        · rw [if_pos c7] at H
          have c7b0 : decide (a1 < (y154.length : Int)) = true := decide_eq_true c7
          clear c7
          obtain ⟨y160, hy160⟩ : ∃ y_ : List Bool, y_ = (y154.set (a1 : Int).toNat true) := ⟨_, rfl⟩
          replace H : (dovetailref03_Comes.l0 k a2 y160 y157 0 l0_0 l0_1 a0_2 l0_3) = some r := by first | (rw [hy160]; with_reducible exact H) | (have H2_ := (Option.bind_some _ _).symm.trans H; rw [hy160]; with_reducible exact H2_) | (have H2_ := (Option.bind_some _ _).symm.trans H; with_reducible exact H2_) | with_reducible exact H | (rw [hy160]; exact H) | exact H
          have Ny160 := Aside0.mk hy160
          clear hy160
          have H' := Aside0.mk H
          clear H
          go_enter Tryd.func65, Tryd.ntmps65
          go_wp2_with (first | ((with_reducible refine gate_dst (N := 3) rfl ?_); refine box_event ?hg (N := 3) ?hd (cs := #[.slice A0_0 l0_0.length c0_0, .slice A0_1 l0_1.length c0_1, .int .i64 a0_2, .slice A0_3 l0_3.length c0_3]) (t := 25) ?hr ?_; (case hd => rfl); (case hg => rfl); (case hr => first | (go_simp; done) | (go_simp; rfl)); intro gb153 hg w9 hbox hb; have n0_ := Aside0.mk (below_step (by repeat (first | (with_reducible first | exact HB.out | apply below_alloc | apply pw_below_drewN | apply below_drew1) | exact HB.out)) hb); have n1_ := Aside0.mk (hbox); have n2_ := Aside0.mk ((by rw [hg]; exact (below_size (by repeat (first | (with_reducible first | exact HB.out | apply below_alloc | apply pw_below_drewN | apply below_drew1) | exact HB.out))) : w.heap.size ≤ gb153)); have n3_ := Aside0.mk ((by rw [hg]; exact (below_size (by repeat (first | (with_reducible first | exact HB.out | apply below_alloc | apply pw_below_drewN | apply below_drew1) | exact HB.out))) : w.heap.size ≤ gb153)); clear HB; have HB := n0_; have BK153 := n1_; have GW153 := n2_; have GE153 := n3_; clear n0_ n1_ n2_ n3_; clear hb hbox hg; have hcz10_0 : w9.cell? ⟨gb153, 0, none⟩ = some (.slice A0_0 l0_0.length c0_0) := (blk_cell BK153.out 0).trans rfl; have hcz10_1 : w9.cell? ⟨gb153, 1, none⟩ = some (.slice A0_1 l0_1.length c0_1) := (blk_cell BK153.out 1).trans rfl; have hcz10_2 : w9.cell? ⟨gb153, 2, none⟩ = some (.int .i64 a0_2) := (blk_cell BK153.out 2).trans rfl; have hcz10_3 : w9.cell? ⟨gb153, 3, none⟩ = some (.slice A0_3 l0_3.length c0_3) := (blk_cell BK153.out 3).trans rfl; have hfz10_0 := blk_frozen BK153.out 0; have hfz10_1 := blk_frozen BK153.out 1; have hfz10_2 := blk_frozen BK153.out 2; have hfz10_3 := blk_frozen BK153.out 3) | ((with_reducible refine gate_dst (N := 16) rfl ?_); refine Kd.R_make Kd.bool _ 4 rfl (N := 16) rfl 84 _ _ rfl (l0_1.length : Int) rfl rfl Tryd.underlying84 (.bool false) 1 info4 rfl (by decide) (by omega) false (ok := fun _ => True) (okp := fun _ => True) rfl (fun _ hk => hk) trivial (of_decide_eq_true (by first | (with_reducible assumption) | assumption)) (Nat.le_trans (Nat.mul_le_mul_right _ (of_decide_eq_true (by first | (with_reducible assumption) | assumption) : (l0_1.length : Int).toNat ≤ 281474976710656)) (by omega)) (Below.refl _ _) (Nat.le_refl _) ?_; intro v155 w11 ho12 hb hg_ hnew_; clear hg_ hnew_; (first | rw [← Ny154.out] at ho12 | (simp only [Int.reduceToNat] at ho12; rw [← Ny154.out] at ho12)); have n0_ := Aside0.mk (Kd.R_lower ho12 (below_size (by repeat (first | (with_reducible first | exact HB.out | apply below_alloc | apply pw_below_drewN | apply below_drew1 | refine below_set ?_ GE153.out) | exact HB.out)))); have n1_ := Aside0.mk (blk_below (g := gb153) (o := .cells #[.slice A0_0 l0_0.length c0_0, .slice A0_1 l0_1.length c0_1, .int .i64 a0_2, .slice A0_3 l0_3.length c0_3] 25 (0, 0)) (by (with_reducible repeat (first | refine blk_drewN ?_ _ | refine blk_drew ?_ | refine blk_alloc ?_ _)); exact BK153.out) hb); have n2_ := Aside0.mk (below_step (by repeat (first | (with_reducible first | exact HB.out | apply below_alloc | apply pw_below_drewN | apply below_drew1 | refine below_set ?_ GE153.out) | exact HB.out)) hb); clear BK153; clear HB; have HO156 := n0_; have BK153 := n1_; have HB := n2_; clear n0_ n1_ n2_; clear hb ho12) | ((with_reducible refine gate_dst (N := 18) rfl ?_); refine Kd.R_lit (Kd.int .i64) _ 3 ?hg (N := 18) ?hd (xs := ([a1] : List Int)) (inner := [.int .i64 a1]) (ok := fun _ => True) (okp := fun _ => True) ?hr ?hp (fun _ hk => hk) trivial (Below.refl _ _) (Nat.le_refl _) (by simp) ?_; (case hd => rfl); (case hg => rfl); (case hr => first | (go_simp; done) | (go_simp; rfl)); (case hp => exact (Reps.one (show Kd.M (Kd.int .i64) _ _ _ a1 [.int .i64 a1] from rfl) (Reps.none _ _))); intro v158 w13 ho14 hb hg_ hnew_; clear hg_ hnew_; (first | rw [← Ny157.out] at ho14 | (simp only [Int.reduceToNat] at ho14; rw [← Ny157.out] at ho14)); have n0_ := Aside0.mk (Kd.R_below (by (with_reducible repeat (first | apply Kd.R_alloc | apply Kd.R_drewN | apply Kd.R_drew)); exact HO156.out) hb); have n1_ := Aside0.mk (Kd.R_lower ho14 (below_size (by repeat (first | (with_reducible first | exact HB.out | apply below_alloc | apply pw_below_drewN | apply below_drew1 | refine below_set ?_ GE153.out) | exact HB.out)))); have n2_ := Aside0.mk (blk_below (g := gb153) (o := .cells #[.slice A0_0 l0_0.length c0_0, .slice A0_1 l0_1.length c0_1, .int .i64 a0_2, .slice A0_3 l0_3.length c0_3] 25 (0, 0)) (by (with_reducible repeat (first | refine blk_drewN ?_ _ | refine blk_drew ?_ | refine blk_alloc ?_ _)); exact BK153.out) hb); have n3_ := Aside0.mk (below_step (by repeat (first | (with_reducible first | exact HB.out | apply below_alloc | apply pw_below_drewN | apply below_drew1 | refine below_set ?_ GE153.out) | exact HB.out)) hb); clear HO156; clear BK153; clear HB; have HO156 := n0_; have HO159 := n1_; have BK153 := n2_; have HB := n3_; clear n0_ n1_ n2_ n3_; clear hb ho14; have p8 : 0 ≤ (a1 : Int) := of_decide_eq_true (by first | (with_reducible assumption) | assumption); have q8 : (a1 : Int) < ((y154.length : Int) : Int) := of_decide_eq_true (by first | (with_reducible assumption) | assumption); obtain ⟨go8, co8, eo8, gb8, gl8, cl8, HG8⟩ := Kd.R_form HO156.out (by omega); (first | cases eo8 | (injection eo8 with ea_ en_ ec_; (first | subst ea_ | (injection ea_ with ea_; subst ea_)); subst ec_; clear en_)); have GB8 := Aside0.mk gb8; have GG8 := Aside0.mk HG8; clear gb8 gl8 HG8; obtain ⟨hx8_0, hf8_0⟩ := Kd.R_celln false HO156.out (a1 : Int) p8 q8; replace p8 := eq_true p8; replace q8 := eq_true q8; obtain ⟨hy15_, hz15_⟩ := Kd.R_celln false HO156.out (a1 : Int) (of_decide_eq_true (by first | (with_reducible assumption) | assumption)) (of_decide_eq_true (by first | (with_reducible assumption) | assumption)); have HP15 := Kd.R_putg HO156.out (a1 : Int) true) | ((with_reducible refine gate_store (t := 4) (p := 21) rfl ?_); (try (rw [drewN_self w13]; generalize hq_ : World.drewN w13 _ = w13; have n0_ := Aside0.mk (Kd.R_at hq_ HO156.out); have n1_ := Aside0.mk (Kd.R_at hq_ HO159.out); have n2_ := Aside0.mk (blk_at hq_ BK153.out); have n3_ := Aside0.mk (below_at hq_ HB.out); clear hq_ HO156 HO159 BK153 HB; have HO156 := n0_; have HO159 := n1_; have BK153 := n2_; have HB := n3_; clear n0_ n1_ n2_ n3_; (try (obtain ⟨hy15_, hz15_⟩ := Kd.R_celln false HO156.out (a1 : Int) (of_decide_eq_true (by first | (with_reducible assumption) | assumption)) (of_decide_eq_true (by first | (with_reducible assumption) | assumption)))); (try (have HP15 := Kd.R_putg HO156.out (a1 : Int) true)))); refine store_event (t := 4) (p := 21) (v := ?vo_w16) (w1 := (w13.setCell ⟨go8, (a1 : Int).toNat, none⟩ (.bool true))) ?hg ?ho ?hn ?hr ?_; (case ho => rfl); (case hg => rfl); (case hn => rfl); (case hr => first | (go_simp; done) | (go_simp; rfl)); intro w16 hw; have hg : w13.grownBy w16 (some go8) := (by rw [hw]; exact HP15.2); have hp_ : Kd.R Kd.bool 4 w16 w.heap.size (fun _ => True) (.slice (some ⟨go8, 0, none⟩) y154.length co8) y160 := (by rw [hw, Ny160.out]; exact HP15.1); clear HP15; have n0_ := Aside0.mk (blk_grown (g := gb153) (o := .cells #[.slice A0_0 l0_0.length c0_0, .slice A0_1 l0_1.length c0_1, .int .i64 a0_2, .slice A0_3 l0_3.length c0_3] 25 (0, 0)) (by (with_reducible repeat (first | refine blk_drewN ?_ _ | refine blk_drew ?_ | refine blk_alloc ?_ _)); exact BK153.out) hg (Kd.R_ne HO156.out BK153.out (by decide))); have n1_ := Aside0.mk (hp_); have n2_ := Aside0.mk (Kd.R_over' (v := (.slice (some ⟨go8, 0, none⟩) y154.length co8)) (by (with_reducible repeat (first | apply Kd.R_alloc | apply Kd.R_drewN | apply Kd.R_drew)); exact HO159.out) (Kd.R_typed HO156.out) (by decide) hg); have n3_ := Aside0.mk ((by rw [hw]; exact below_set (HB.out) GB8.out : Below w.heap.size w w16)); clear BK153; clear HO156; clear HO159; clear HB; have BK153 := n0_; have HO156 := n1_; have HO159 := n2_; have HB := n3_; clear n0_ n1_ n2_ n3_; clear hg hw hp_))
          repeat (go_quiet (first | ((with_reducible refine gate_dst (N := 3) rfl ?_); refine box_event ?hg (N := 3) ?hd (cs := #[.slice A0_0 l0_0.length c0_0, .slice A0_1 l0_1.length c0_1, .int .i64 a0_2, .slice A0_3 l0_3.length c0_3]) (t := 25) ?hr ?_; (case hd => rfl); (case hg => rfl); (case hr => first | (go_simp; done) | (go_simp; rfl)); intro gb153 hg w9 hbox hb; have n0_ := Aside0.mk (below_step (by repeat (first | (with_reducible first | exact HB.out | apply below_alloc | apply pw_below_drewN | apply below_drew1) | exact HB.out)) hb); have n1_ := Aside0.mk (hbox); have n2_ := Aside0.mk ((by rw [hg]; exact (below_size (by repeat (first | (with_reducible first | exact HB.out | apply below_alloc | apply pw_below_drewN | apply below_drew1) | exact HB.out))) : w.heap.size ≤ gb153)); have n3_ := Aside0.mk ((by rw [hg]; exact (below_size (by repeat (first | (with_reducible first | exact HB.out | apply below_alloc | apply pw_below_drewN | apply below_drew1) | exact HB.out))) : w.heap.size ≤ gb153)); clear HB; have HB := n0_; have BK153 := n1_; have GW153 := n2_; have GE153 := n3_; clear n0_ n1_ n2_ n3_; clear hb hbox hg; have hcz10_0 : w9.cell? ⟨gb153, 0, none⟩ = some (.slice A0_0 l0_0.length c0_0) := (blk_cell BK153.out 0).trans rfl; have hcz10_1 : w9.cell? ⟨gb153, 1, none⟩ = some (.slice A0_1 l0_1.length c0_1) := (blk_cell BK153.out 1).trans rfl; have hcz10_2 : w9.cell? ⟨gb153, 2, none⟩ = some (.int .i64 a0_2) := (blk_cell BK153.out 2).trans rfl; have hcz10_3 : w9.cell? ⟨gb153, 3, none⟩ = some (.slice A0_3 l0_3.length c0_3) := (blk_cell BK153.out 3).trans rfl; have hfz10_0 := blk_frozen BK153.out 0; have hfz10_1 := blk_frozen BK153.out 1; have hfz10_2 := blk_frozen BK153.out 2; have hfz10_3 := blk_frozen BK153.out 3) | ((with_reducible refine gate_dst (N := 16) rfl ?_); refine Kd.R_make Kd.bool _ 4 rfl (N := 16) rfl 84 _ _ rfl (l0_1.length : Int) rfl rfl Tryd.underlying84 (.bool false) 1 info4 rfl (by decide) (by omega) false (ok := fun _ => True) (okp := fun _ => True) rfl (fun _ hk => hk) trivial (of_decide_eq_true (by first | (with_reducible assumption) | assumption)) (Nat.le_trans (Nat.mul_le_mul_right _ (of_decide_eq_true (by first | (with_reducible assumption) | assumption) : (l0_1.length : Int).toNat ≤ 281474976710656)) (by omega)) (Below.refl _ _) (Nat.le_refl _) ?_; intro v155 w11 ho12 hb hg_ hnew_; clear hg_ hnew_; (first | rw [← Ny154.out] at ho12 | (simp only [Int.reduceToNat] at ho12; rw [← Ny154.out] at ho12)); have n0_ := Aside0.mk (Kd.R_lower ho12 (below_size (by repeat (first | (with_reducible first | exact HB.out | apply below_alloc | apply pw_below_drewN | apply below_drew1 | refine below_set ?_ GE153.out) | exact HB.out)))); have n1_ := Aside0.mk (blk_below (g := gb153) (o := .cells #[.slice A0_0 l0_0.length c0_0, .slice A0_1 l0_1.length c0_1, .int .i64 a0_2, .slice A0_3 l0_3.length c0_3] 25 (0, 0)) (by (with_reducible repeat (first | refine blk_drewN ?_ _ | refine blk_drew ?_ | refine blk_alloc ?_ _)); exact BK153.out) hb); have n2_ := Aside0.mk (below_step (by repeat (first | (with_reducible first | exact HB.out | apply below_alloc | apply pw_below_drewN | apply below_drew1 | refine below_set ?_ GE153.out) | exact HB.out)) hb); clear BK153; clear HB; have HO156 := n0_; have BK153 := n1_; have HB := n2_; clear n0_ n1_ n2_; clear hb ho12) | ((with_reducible refine gate_dst (N := 18) rfl ?_); refine Kd.R_lit (Kd.int .i64) _ 3 ?hg (N := 18) ?hd (xs := ([a1] : List Int)) (inner := [.int .i64 a1]) (ok := fun _ => True) (okp := fun _ => True) ?hr ?hp (fun _ hk => hk) trivial (Below.refl _ _) (Nat.le_refl _) (by simp) ?_; (case hd => rfl); (case hg => rfl); (case hr => first | (go_simp; done) | (go_simp; rfl)); (case hp => exact (Reps.one (show Kd.M (Kd.int .i64) _ _ _ a1 [.int .i64 a1] from rfl) (Reps.none _ _))); intro v158 w13 ho14 hb hg_ hnew_; clear hg_ hnew_; (first | rw [← Ny157.out] at ho14 | (simp only [Int.reduceToNat] at ho14; rw [← Ny157.out] at ho14)); have n0_ := Aside0.mk (Kd.R_below (by (with_reducible repeat (first | apply Kd.R_alloc | apply Kd.R_drewN | apply Kd.R_drew)); exact HO156.out) hb); have n1_ := Aside0.mk (Kd.R_lower ho14 (below_size (by repeat (first | (with_reducible first | exact HB.out | apply below_alloc | apply pw_below_drewN | apply below_drew1 | refine below_set ?_ GE153.out) | exact HB.out)))); have n2_ := Aside0.mk (blk_below (g := gb153) (o := .cells #[.slice A0_0 l0_0.length c0_0, .slice A0_1 l0_1.length c0_1, .int .i64 a0_2, .slice A0_3 l0_3.length c0_3] 25 (0, 0)) (by (with_reducible repeat (first | refine blk_drewN ?_ _ | refine blk_drew ?_ | refine blk_alloc ?_ _)); exact BK153.out) hb); have n3_ := Aside0.mk (below_step (by repeat (first | (with_reducible first | exact HB.out | apply below_alloc | apply pw_below_drewN | apply below_drew1 | refine below_set ?_ GE153.out) | exact HB.out)) hb); clear HO156; clear BK153; clear HB; have HO156 := n0_; have HO159 := n1_; have BK153 := n2_; have HB := n3_; clear n0_ n1_ n2_ n3_; clear hb ho14; have p8 : 0 ≤ (a1 : Int) := of_decide_eq_true (by first | (with_reducible assumption) | assumption); have q8 : (a1 : Int) < ((y154.length : Int) : Int) := of_decide_eq_true (by first | (with_reducible assumption) | assumption); obtain ⟨go8, co8, eo8, gb8, gl8, cl8, HG8⟩ := Kd.R_form HO156.out (by omega); (first | cases eo8 | (injection eo8 with ea_ en_ ec_; (first | subst ea_ | (injection ea_ with ea_; subst ea_)); subst ec_; clear en_)); have GB8 := Aside0.mk gb8; have GG8 := Aside0.mk HG8; clear gb8 gl8 HG8; obtain ⟨hx8_0, hf8_0⟩ := Kd.R_celln false HO156.out (a1 : Int) p8 q8; replace p8 := eq_true p8; replace q8 := eq_true q8; obtain ⟨hy15_, hz15_⟩ := Kd.R_celln false HO156.out (a1 : Int) (of_decide_eq_true (by first | (with_reducible assumption) | assumption)) (of_decide_eq_true (by first | (with_reducible assumption) | assumption)); have HP15 := Kd.R_putg HO156.out (a1 : Int) true) | ((with_reducible refine gate_store (t := 4) (p := 21) rfl ?_); (try (rw [drewN_self w13]; generalize hq_ : World.drewN w13 _ = w13; have n0_ := Aside0.mk (Kd.R_at hq_ HO156.out); have n1_ := Aside0.mk (Kd.R_at hq_ HO159.out); have n2_ := Aside0.mk (blk_at hq_ BK153.out); have n3_ := Aside0.mk (below_at hq_ HB.out); clear hq_ HO156 HO159 BK153 HB; have HO156 := n0_; have HO159 := n1_; have BK153 := n2_; have HB := n3_; clear n0_ n1_ n2_ n3_; (try (obtain ⟨hy15_, hz15_⟩ := Kd.R_celln false HO156.out (a1 : Int) (of_decide_eq_true (by first | (with_reducible assumption) | assumption)) (of_decide_eq_true (by first | (with_reducible assumption) | assumption)))); (try (have HP15 := Kd.R_putg HO156.out (a1 : Int) true)))); refine store_event (t := 4) (p := 21) (v := ?vo_w16) (w1 := (w13.setCell ⟨go8, (a1 : Int).toNat, none⟩ (.bool true))) ?hg ?ho ?hn ?hr ?_; (case ho => rfl); (case hg => rfl); (case hn => rfl); (case hr => first | (go_simp; done) | (go_simp; rfl)); intro w16 hw; have hg : w13.grownBy w16 (some go8) := (by rw [hw]; exact HP15.2); have hp_ : Kd.R Kd.bool 4 w16 w.heap.size (fun _ => True) (.slice (some ⟨go8, 0, none⟩) y154.length co8) y160 := (by rw [hw, Ny160.out]; exact HP15.1); clear HP15; have n0_ := Aside0.mk (blk_grown (g := gb153) (o := .cells #[.slice A0_0 l0_0.length c0_0, .slice A0_1 l0_1.length c0_1, .int .i64 a0_2, .slice A0_3 l0_3.length c0_3] 25 (0, 0)) (by (with_reducible repeat (first | refine blk_drewN ?_ _ | refine blk_drew ?_ | refine blk_alloc ?_ _)); exact BK153.out) hg (Kd.R_ne HO156.out BK153.out (by decide))); have n1_ := Aside0.mk (hp_); have n2_ := Aside0.mk (Kd.R_over' (v := (.slice (some ⟨go8, 0, none⟩) y154.length co8)) (by (with_reducible repeat (first | apply Kd.R_alloc | apply Kd.R_drewN | apply Kd.R_drew)); exact HO159.out) (Kd.R_typed HO156.out) (by decide) hg); have n3_ := Aside0.mk ((by rw [hw]; exact below_set (HB.out) GB8.out : Below w.heap.size w w16)); clear BK153; clear HO156; clear HO159; clear HB; have BK153 := n0_; have HO156 := n1_; have HO159 := n2_; have HB := n3_; clear n0_ n1_ n2_ n3_; clear hg hw hp_)); try go_wp2_with (first | ((with_reducible refine gate_dst (N := 3) rfl ?_); refine box_event ?hg (N := 3) ?hd (cs := #[.slice A0_0 l0_0.length c0_0, .slice A0_1 l0_1.length c0_1, .int .i64 a0_2, .slice A0_3 l0_3.length c0_3]) (t := 25) ?hr ?_; (case hd => rfl); (case hg => rfl); (case hr => first | (go_simp; done) | (go_simp; rfl)); intro gb153 hg w9 hbox hb; have n0_ := Aside0.mk (below_step (by repeat (first | (with_reducible first | exact HB.out | apply below_alloc | apply pw_below_drewN | apply below_drew1) | exact HB.out)) hb); have n1_ := Aside0.mk (hbox); have n2_ := Aside0.mk ((by rw [hg]; exact (below_size (by repeat (first | (with_reducible first | exact HB.out | apply below_alloc | apply pw_below_drewN | apply below_drew1) | exact HB.out))) : w.heap.size ≤ gb153)); have n3_ := Aside0.mk ((by rw [hg]; exact (below_size (by repeat (first | (with_reducible first | exact HB.out | apply below_alloc | apply pw_below_drewN | apply below_drew1) | exact HB.out))) : w.heap.size ≤ gb153)); clear HB; have HB := n0_; have BK153 := n1_; have GW153 := n2_; have GE153 := n3_; clear n0_ n1_ n2_ n3_; clear hb hbox hg; have hcz10_0 : w9.cell? ⟨gb153, 0, none⟩ = some (.slice A0_0 l0_0.length c0_0) := (blk_cell BK153.out 0).trans rfl; have hcz10_1 : w9.cell? ⟨gb153, 1, none⟩ = some (.slice A0_1 l0_1.length c0_1) := (blk_cell BK153.out 1).trans rfl; have hcz10_2 : w9.cell? ⟨gb153, 2, none⟩ = some (.int .i64 a0_2) := (blk_cell BK153.out 2).trans rfl; have hcz10_3 : w9.cell? ⟨gb153, 3, none⟩ = some (.slice A0_3 l0_3.length c0_3) := (blk_cell BK153.out 3).trans rfl; have hfz10_0 := blk_frozen BK153.out 0; have hfz10_1 := blk_frozen BK153.out 1; have hfz10_2 := blk_frozen BK153.out 2; have hfz10_3 := blk_frozen BK153.out 3) | ((with_reducible refine gate_dst (N := 16) rfl ?_); refine Kd.R_make Kd.bool _ 4 rfl (N := 16) rfl 84 _ _ rfl (l0_1.length : Int) rfl rfl Tryd.underlying84 (.bool false) 1 info4 rfl (by decide) (by omega) false (ok := fun _ => True) (okp := fun _ => True) rfl (fun _ hk => hk) trivial (of_decide_eq_true (by first | (with_reducible assumption) | assumption)) (Nat.le_trans (Nat.mul_le_mul_right _ (of_decide_eq_true (by first | (with_reducible assumption) | assumption) : (l0_1.length : Int).toNat ≤ 281474976710656)) (by omega)) (Below.refl _ _) (Nat.le_refl _) ?_; intro v155 w11 ho12 hb hg_ hnew_; clear hg_ hnew_; (first | rw [← Ny154.out] at ho12 | (simp only [Int.reduceToNat] at ho12; rw [← Ny154.out] at ho12)); have n0_ := Aside0.mk (Kd.R_lower ho12 (below_size (by repeat (first | (with_reducible first | exact HB.out | apply below_alloc | apply pw_below_drewN | apply below_drew1 | refine below_set ?_ GE153.out) | exact HB.out)))); have n1_ := Aside0.mk (blk_below (g := gb153) (o := .cells #[.slice A0_0 l0_0.length c0_0, .slice A0_1 l0_1.length c0_1, .int .i64 a0_2, .slice A0_3 l0_3.length c0_3] 25 (0, 0)) (by (with_reducible repeat (first | refine blk_drewN ?_ _ | refine blk_drew ?_ | refine blk_alloc ?_ _)); exact BK153.out) hb); have n2_ := Aside0.mk (below_step (by repeat (first | (with_reducible first | exact HB.out | apply below_alloc | apply pw_below_drewN | apply below_drew1 | refine below_set ?_ GE153.out) | exact HB.out)) hb); clear BK153; clear HB; have HO156 := n0_; have BK153 := n1_; have HB := n2_; clear n0_ n1_ n2_; clear hb ho12) | ((with_reducible refine gate_dst (N := 18) rfl ?_); refine Kd.R_lit (Kd.int .i64) _ 3 ?hg (N := 18) ?hd (xs := ([a1] : List Int)) (inner := [.int .i64 a1]) (ok := fun _ => True) (okp := fun _ => True) ?hr ?hp (fun _ hk => hk) trivial (Below.refl _ _) (Nat.le_refl _) (by simp) ?_; (case hd => rfl); (case hg => rfl); (case hr => first | (go_simp; done) | (go_simp; rfl)); (case hp => exact (Reps.one (show Kd.M (Kd.int .i64) _ _ _ a1 [.int .i64 a1] from rfl) (Reps.none _ _))); intro v158 w13 ho14 hb hg_ hnew_; clear hg_ hnew_; (first | rw [← Ny157.out] at ho14 | (simp only [Int.reduceToNat] at ho14; rw [← Ny157.out] at ho14)); have n0_ := Aside0.mk (Kd.R_below (by (with_reducible repeat (first | apply Kd.R_alloc | apply Kd.R_drewN | apply Kd.R_drew)); exact HO156.out) hb); have n1_ := Aside0.mk (Kd.R_lower ho14 (below_size (by repeat (first | (with_reducible first | exact HB.out | apply below_alloc | apply pw_below_drewN | apply below_drew1 | refine below_set ?_ GE153.out) | exact HB.out)))); have n2_ := Aside0.mk (blk_below (g := gb153) (o := .cells #[.slice A0_0 l0_0.length c0_0, .slice A0_1 l0_1.length c0_1, .int .i64 a0_2, .slice A0_3 l0_3.length c0_3] 25 (0, 0)) (by (with_reducible repeat (first | refine blk_drewN ?_ _ | refine blk_drew ?_ | refine blk_alloc ?_ _)); exact BK153.out) hb); have n3_ := Aside0.mk (below_step (by repeat (first | (with_reducible first | exact HB.out | apply below_alloc | apply pw_below_drewN | apply below_drew1 | refine below_set ?_ GE153.out) | exact HB.out)) hb); clear HO156; clear BK153; clear HB; have HO156 := n0_; have HO159 := n1_; have BK153 := n2_; have HB := n3_; clear n0_ n1_ n2_ n3_; clear hb ho14; have p8 : 0 ≤ (a1 : Int) := of_decide_eq_true (by first | (with_reducible assumption) | assumption); have q8 : (a1 : Int) < ((y154.length : Int) : Int) := of_decide_eq_true (by first | (with_reducible assumption) | assumption); obtain ⟨go8, co8, eo8, gb8, gl8, cl8, HG8⟩ := Kd.R_form HO156.out (by omega); (first | cases eo8 | (injection eo8 with ea_ en_ ec_; (first | subst ea_ | (injection ea_ with ea_; subst ea_)); subst ec_; clear en_)); have GB8 := Aside0.mk gb8; have GG8 := Aside0.mk HG8; clear gb8 gl8 HG8; obtain ⟨hx8_0, hf8_0⟩ := Kd.R_celln false HO156.out (a1 : Int) p8 q8; replace p8 := eq_true p8; replace q8 := eq_true q8; obtain ⟨hy15_, hz15_⟩ := Kd.R_celln false HO156.out (a1 : Int) (of_decide_eq_true (by first | (with_reducible assumption) | assumption)) (of_decide_eq_true (by first | (with_reducible assumption) | assumption)); have HP15 := Kd.R_putg HO156.out (a1 : Int) true) | ((with_reducible refine gate_store (t := 4) (p := 21) rfl ?_); (try (rw [drewN_self w13]; generalize hq_ : World.drewN w13 _ = w13; have n0_ := Aside0.mk (Kd.R_at hq_ HO156.out); have n1_ := Aside0.mk (Kd.R_at hq_ HO159.out); have n2_ := Aside0.mk (blk_at hq_ BK153.out); have n3_ := Aside0.mk (below_at hq_ HB.out); clear hq_ HO156 HO159 BK153 HB; have HO156 := n0_; have HO159 := n1_; have BK153 := n2_; have HB := n3_; clear n0_ n1_ n2_ n3_; (try (obtain ⟨hy15_, hz15_⟩ := Kd.R_celln false HO156.out (a1 : Int) (of_decide_eq_true (by first | (with_reducible assumption) | assumption)) (of_decide_eq_true (by first | (with_reducible assumption) | assumption)))); (try (have HP15 := Kd.R_putg HO156.out (a1 : Int) true)))); refine store_event (t := 4) (p := 21) (v := ?vo_w16) (w1 := (w13.setCell ⟨go8, (a1 : Int).toNat, none⟩ (.bool true))) ?hg ?ho ?hn ?hr ?_; (case ho => rfl); (case hg => rfl); (case hn => rfl); (case hr => first | (go_simp; done) | (go_simp; rfl)); intro w16 hw; have hg : w13.grownBy w16 (some go8) := (by rw [hw]; exact HP15.2); have hp_ : Kd.R Kd.bool 4 w16 w.heap.size (fun _ => True) (.slice (some ⟨go8, 0, none⟩) y154.length co8) y160 := (by rw [hw, Ny160.out]; exact HP15.1); clear HP15; have n0_ := Aside0.mk (blk_grown (g := gb153) (o := .cells #[.slice A0_0 l0_0.length c0_0, .slice A0_1 l0_1.length c0_1, .int .i64 a0_2, .slice A0_3 l0_3.length c0_3] 25 (0, 0)) (by (with_reducible repeat (first | refine blk_drewN ?_ _ | refine blk_drew ?_ | refine blk_alloc ?_ _)); exact BK153.out) hg (Kd.R_ne HO156.out BK153.out (by decide))); have n1_ := Aside0.mk (hp_); have n2_ := Aside0.mk (Kd.R_over' (v := (.slice (some ⟨go8, 0, none⟩) y154.length co8)) (by (with_reducible repeat (first | apply Kd.R_alloc | apply Kd.R_drewN | apply Kd.R_drew)); exact HO159.out) (Kd.R_typed HO156.out) (by decide) hg); have n3_ := Aside0.mk ((by rw [hw]; exact below_set (HB.out) GB8.out : Below w.heap.size w w16)); clear BK153; clear HO156; clear HO159; clear HB; have BK153 := n0_; have HO156 := n1_; have HO159 := n2_; have HB := n3_; clear n0_ n1_ n2_ n3_; clear hg hw hp_)))
          go_loopg [8, 9] k (fun kq v8 v9 w' => ∃ (x7_1 : List Bool) (x8_1 : List Int) (x9_1 : Int), v9 = .int .i64 x9_1 ∧ Aside0 (dovetailref03_Comes.l0 kq a2 x7_1 x8_1 x9_1 l0_0 l0_1 a0_2 l0_3 = some r) ∧ Aside0 (kq ≤ k) ∧ Aside0 (Kd.R Kd.bool 4 w' w.heap.size (fun _ => True) (.slice (some ⟨go8, 0, none⟩) y154.length co8) x7_1) ∧ Aside0 (Kd.R (Kd.int .i64) 3 w' w.heap.size (fun _ => True) v8 x8_1) ∧ Aside0 (w'.heap[gb153]? = some (.cells #[(.slice A0_0 l0_0.length c0_0), (.slice A0_1 l0_1.length c0_1), .int .i64 a0_2, (.slice A0_3 l0_3.length c0_3)] 25 (0, 0))) ∧ Aside0 (Below w.heap.size w w'))
          case atStart => exact ⟨(y160), (y157), (0), (by first | rfl | (simp; done) | (simp [*]; done)), H', ⟨Nat.le_refl _⟩, ⟨by (with_reducible repeat (first | apply Kd.R_alloc | apply Kd.R_drewN | apply Kd.R_drew)); exact HO156.out⟩, ⟨by (with_reducible repeat (first | apply Kd.R_alloc | apply Kd.R_drewN | apply Kd.R_drew)); exact HO159.out⟩, ⟨by (with_reducible repeat (first | refine blk_drewN ?_ _ | refine blk_drew ?_ | refine blk_alloc ?_ _)); exact BK153.out⟩, ⟨by repeat (first | (with_reducible first | exact HB.out | apply below_alloc | apply pw_below_drewN | apply below_drew1 | refine below_set ?_ GE153.out) | exact HB.out)⟩⟩
          case round =>
            clear H'
            try clear p2
            try clear c4
            try clear c4b0
            try clear c4b1
            try clear c5
            try clear c5b0
            try clear c5b1
            try clear c6
            try clear c6b0
            try clear c7
            try clear c7b0
            try clear p8
            try clear q8
            try clear hx8
            try clear hf8
            try clear hcz10_0
            try clear hcz10_1
            try clear hcz10_2
            try clear hcz10_3
            try clear hfz10_0
            try clear hfz10_1
            try clear hfz10_2
            try clear hfz10_3
            try clear hx8_0
            try clear p8
            try clear q8
            obtain ⟨x7_1, x8_1, x9_1, rfl, HA, HK1, HO_7, HO_8, BK153, HB⟩ := hrel
            have hl7_1 := (Kd.R_reads' HO_7.out).1
            rw [hl7_1] at HO_7
            (try simp only [hl7_1])
            (try simp only [hl7_1] at BK153)
            (try simp only [hl7_1] at HO_8)
            cases gk with
            | zero => exact absurd HA.out (by simp [dovetailref03_Comes.l0])
            | succ k1 =>
              have H := HA.out
              clear HA
              simp only [dovetailref03_Comes.l0] at H
              by_cases c17 : x9_1 < (x8_1.length : Int)
              · rw [if_pos c17] at H
                have c17b0 : decide (x9_1 < (x8_1.length : Int)) = true := decide_eq_true c17
                clear c17
                have H' := Aside0.mk H
                clear H
                obtain ⟨Ao18, co18, eo18⟩ := Kd.R_slice HO_8.out
                subst eo18
                go_wp2
                repeat (go_quiet (fail); try go_wp2)
                go_loopg [8, 10] k1 (fun kq v8 v10 w' => ∃ (x7_2 : List Bool) (x8_2 : List Int) (x10_2 : Int), v10 = .int .i64 x10_2 ∧ Aside0 (dovetailref03_Comes.l1 kq a2 x7_2 x8_2 x9_1 x10_2 l0_0 l0_1 a0_2 l0_3 = some r) ∧ Aside0 (kq ≤ k1) ∧ Aside0 (Kd.R Kd.bool 4 w' w.heap.size (fun _ => True) (.slice (some ⟨go8, 0, none⟩) x7_1.length co8) x7_2) ∧ Aside0 (Kd.R (Kd.int .i64) 3 w' w.heap.size (fun _ => True) v8 x8_2) ∧ Aside0 (w'.heap[gb153]? = some (.cells #[(.slice A0_0 l0_0.length c0_0), (.slice A0_1 l0_1.length c0_1), .int .i64 a0_2, (.slice A0_3 l0_3.length c0_3)] 25 (0, 0))) ∧ Aside0 (Below w.heap.size w w'))
                case atStart => exact ⟨(x7_1), (x8_1), (0), (by first | rfl | (simp; done) | (simp [*]; done)), H', ⟨Nat.le_refl _⟩, ⟨by (try simp only [hl7_1]); (with_reducible repeat (first | apply Kd.R_alloc | apply Kd.R_drewN | apply Kd.R_drew)); exact HO_7.out⟩, ⟨by (try simp only [hl7_1]); (with_reducible repeat (first | apply Kd.R_alloc | apply Kd.R_drewN | apply Kd.R_drew)); exact HO_8.out⟩, ⟨by (try simp only [hl7_1]); (with_reducible repeat (first | refine blk_drewN ?_ _ | refine blk_drew ?_ | refine blk_alloc ?_ _)); exact BK153.out⟩, ⟨by repeat (first | (with_reducible first | exact HB.out | apply below_alloc | apply pw_below_drewN | apply below_drew1 | refine below_set ?_ GE153.out) | exact HB.out)⟩⟩
                case round =>
                  clear H'
                  try clear c1
                  try clear p2
                  try clear c4
                  try clear c4b0
                  try clear c4b1
                  try clear c5
                  try clear c5b0
                  try clear c5b1
                  try clear c6
                  try clear c6b0
                  try clear c7
                  try clear c7b0
                  try clear p8
                  try clear q8
                  try clear hx8
                  try clear hf8
                  try clear c17
                  try clear c17b0
                  try clear hcz10_0
                  try clear hcz10_1
                  try clear hcz10_2
                  try clear hcz10_3
                  try clear hfz10_0
                  try clear hfz10_1
                  try clear hfz10_2
                  try clear hfz10_3
                  try clear hx8_0
                  try clear p2
                  try clear p8
                  try clear q8
                  obtain ⟨x7_2, x8_2, x10_2, rfl, HA, HK2, HO_7, HO_8, BK153, HB⟩ := hrel
                  have hl7_2 := (Kd.R_reads' HO_7.out).1
                  rw [hl7_2] at HO_7
                  (try simp only [hl7_2])
                  (try simp only [hl7_2] at BK153)
                  (try simp only [hl7_2] at HO_8)
                  cases gk with
                  | zero => exact absurd HA.out (by simp [dovetailref03_Comes.l1])
                  | succ k2 =>
                    have H := HA.out
                    clear HA
                    simp only [dovetailref03_Comes.l1] at H
                    by_cases c19 : x10_2 < (l0_3.length : Int)
                    · rw [if_pos c19] at H
                      have c19b0 : decide (x10_2 < (l0_3.length : Int)) = true := decide_eq_true c19
                      clear c19
                      by_cases c20 : 0 ≤ x10_2
                      · rw [if_pos c20] at H
                        have c20b0 : decide (0 ≤ x10_2) = true := decide_eq_true c20
                        clear c20
                        replace H := Option.bind_eq_some_iff.mp H
                        obtain ⟨⟨t163, t164⟩, A210, H⟩ := H
                        replace H : (if t164 = true then (if 0 ≤ x9_1 then (if x9_1 < (x8_2.length : Int) then (if ((rd_T35 l0_3 x10_2).f0) = (rd x8_2 x9_1) then (if 0 ≤ t163 then (if t163 < (x7_2.length : Int) then (if rdOf false x7_2 t163 = true then (dovetailref03_Comes.l1 k2 a2 x7_2 x8_2 x9_1 (wrap64 (x10_2 + 1)) l0_0 l0_1 a0_2 l0_3) else (if x8_2.length < 17592186044416 then (dovetailref03_Comes.l1 k2 a2 (x7_2.set (t163 : Int).toNat true) (x8_2 ++ [t163]) x9_1 (wrap64 (x10_2 + 1)) l0_0 l0_1 a0_2 l0_3) else (none))) else (none)) else (none)) else (dovetailref03_Comes.l1 k2 a2 x7_2 x8_2 x9_1 (wrap64 (x10_2 + 1)) l0_0 l0_1 a0_2 l0_3)) else (none)) else (none)) else (dovetailref03_Comes.l1 k2 a2 x7_2 x8_2 x9_1 (wrap64 (x10_2 + 1)) l0_0 l0_1 a0_2 l0_3)) = some r := H
                        have A21 := Aside0.mk A210
                        clear A210
                        by_cases c22 : t164 = true
                        · subst c22
                          have H1 : (if 0 ≤ x9_1 then (if x9_1 < (x8_2.length : Int) then (if ((rd_T35 l0_3 x10_2).f0) = (rd x8_2 x9_1) then (if 0 ≤ t163 then (if t163 < (x7_2.length : Int) then (if rdOf false x7_2 t163 = true then (dovetailref03_Comes.l1 k2 a2 x7_2 x8_2 x9_1 (wrap64 (x10_2 + 1)) l0_0 l0_1 a0_2 l0_3) else (if x8_2.length < 17592186044416 then (dovetailref03_Comes.l1 k2 a2 (x7_2.set (t163 : Int).toNat true) (x8_2 ++ [t163]) x9_1 (wrap64 (x10_2 + 1)) l0_0 l0_1 a0_2 l0_3) else (none))) else (none)) else (none)) else (dovetailref03_Comes.l1 k2 a2 x7_2 x8_2 x9_1 (wrap64 (x10_2 + 1)) l0_0 l0_1 a0_2 l0_3)) else (none)) else (none)) = some r := by rw [if_pos rfl] at H; exact H
                          clear H
                          have H := H1
                          clear H1
                          by_cases c23 : 0 ≤ x9_1
                          · rw [if_pos c23] at H
                            have c23b0 : decide (0 ≤ x9_1) = true := decide_eq_true c23
                            clear c23
                            by_cases c24 : x9_1 < (x8_2.length : Int)
                            · rw [if_pos c24] at H
                              have c24b0 : decide (x9_1 < (x8_2.length : Int)) = true := decide_eq_true c24
                              clear c24
                              by_cases c25 : ((rd_T35 l0_3 x10_2).f0) = (rd x8_2 x9_1)
                              · rw [if_pos c25] at H
                                have c25b0 : (((rd_T35 l0_3 x10_2).f0) == (rd x8_2 x9_1)) = true := beq_iff_eq.mpr c25
                                have c25b1 : (((rd_T35 l0_3 x10_2).f0) != (rd x8_2 x9_1)) = false := bne_eq_false_iff_eq.mpr c25
                                clear c25
                                by_cases c26 : 0 ≤ t163
                                · rw [if_pos c26] at H
                                  have c26b0 : decide (0 ≤ t163) = true := decide_eq_true c26
                                  clear c26
                                  by_cases c27 : t163 < (x7_2.length : Int)
                                  · rw [if_pos c27] at H
                                    have c27b0 : decide (t163 < (x7_2.length : Int)) = true := decide_eq_true c27
                                    clear c27
                                    obtain ⟨bq28, hbq28⟩ : ∃ b_ : Bool, b_ = (rdOf false x7_2 t163) := ⟨_, rfl⟩
                                    replace H : (if bq28 = true then (dovetailref03_Comes.l1 k2 a2 x7_2 x8_2 x9_1 (wrap64 (x10_2 + 1)) l0_0 l0_1 a0_2 l0_3) else (if x8_2.length < 17592186044416 then (dovetailref03_Comes.l1 k2 a2 (x7_2.set (t163 : Int).toNat true) (x8_2 ++ [t163]) x9_1 (wrap64 (x10_2 + 1)) l0_0 l0_1 a0_2 l0_3) else (none))) = some r := by rw [← hbq28] at H; exact H
                                    have Nbq28 := Aside0.mk hbq28
                                    clear hbq28
                                    by_cases c29 : bq28 = true
                                    · subst c29
                                      have H1 : (dovetailref03_Comes.l1 k2 a2 x7_2 x8_2 x9_1 (wrap64 (x10_2 + 1)) l0_0 l0_1 a0_2 l0_3) = some r := by rw [if_pos rfl] at H; exact H
                                      clear H
                                      have H := H1
                                      clear H1
                                      have H' := Aside0.mk H
                                      clear H
                                      have hcz30_0 : wr.cell? ⟨gb153, 0, none⟩ = some (.slice A0_0 l0_0.length c0_0) := (blk_cell BK153.out 0).trans rfl
                                      have hcz30_1 : wr.cell? ⟨gb153, 1, none⟩ = some (.slice A0_1 l0_1.length c0_1) := (blk_cell BK153.out 1).trans rfl
                                      have hcz30_2 : wr.cell? ⟨gb153, 2, none⟩ = some (.int .i64 a0_2) := (blk_cell BK153.out 2).trans rfl
                                      have hcz30_3 : wr.cell? ⟨gb153, 3, none⟩ = some (.slice A0_3 l0_3.length c0_3) := (blk_cell BK153.out 3).trans rfl
                                      have hfz30_0 := blk_frozen BK153.out 0
                                      have hfz30_1 := blk_frozen BK153.out 1
                                      have hfz30_2 := blk_frozen BK153.out 2
                                      have hfz30_3 := blk_frozen BK153.out 3
                                      have p162 : 0 ≤ (x10_2 : Int) := of_decide_eq_true (by first | (with_reducible assumption) | assumption)
                                      have q162 : x10_2 < (l0_3.length : Int) := of_decide_eq_true (by first | (with_reducible assumption) | assumption)
                                      obtain ⟨ad162, A162_1, c162_1, e162, hx162_0, hx162_1, hl162_1, hi162_1⟩ := at_T35 HR0_3.out x10_2 p162 q162
                                      cases e162
                                      replace hx162_0 := (HB.out.cell (World.block_lt_of_cell? w _ hx162_0)).trans hx162_0
                                      replace hx162_1 := (HB.out.cell (World.block_lt_of_cell? w _ hx162_1)).trans hx162_1
                                      have HR162_1 := Aside0.mk hi162_1
                                      have HC162_1 := Aside0.mk hl162_1
                                      clear hi162_1 hl162_1
                                      replace p162 := eq_true p162
                                      replace q162 := eq_true q162
                                      go_wp2_with (first | (go_at_call 22; (with_reducible refine (dovetailref03_Renaming.calls ((rd_T35 l0_3 x10_2).f0) _ _ ((rd_T35 l0_3 x10_2).f1) t163 true _ ?side1 ?side2 A21.out).mono ?_); (case side1 => repeat (first | exact (Kd.C_below HR162_1.out HB.out) | (with_reducible refine Kd.C_alloc ?_ _) | (with_reducible refine Kd.C_drewN ?_ _) | (with_reducible refine Kd.C_drew ?_))); (case side2 => exact HC162_1.out); rintro e w31 ⟨rfl, hb⟩; have n0_ := Aside0.mk (Kd.R_below (by (with_reducible repeat (first | apply Kd.R_alloc | apply Kd.R_drewN | apply Kd.R_drew)); exact HO_7.out) hb); have n1_ := Aside0.mk (Kd.R_below (by (with_reducible repeat (first | apply Kd.R_alloc | apply Kd.R_drewN | apply Kd.R_drew)); exact HO_8.out) hb); have n2_ := Aside0.mk (blk_below (g := gb153) (o := .cells #[.slice A0_0 l0_0.length c0_0, .slice A0_1 l0_1.length c0_1, .int .i64 a0_2, .slice (some ad162) l0_3.length c0_3] 25 (0, 0)) (by (with_reducible repeat (first | refine blk_drewN ?_ _ | refine blk_drew ?_ | refine blk_alloc ?_ _)); exact BK153.out) hb); have n3_ := Aside0.mk (below_step (by repeat (first | (with_reducible first | exact HB.out | apply below_alloc | apply pw_below_drewN | apply below_drew1 | refine below_set ?_ GE153.out) | exact HB.out)) hb); clear HO_7; clear HO_8; clear BK153; clear HB; have HO_7 := n0_; have HO_8 := n1_; have BK153 := n2_; have HB := n3_; clear n0_ n1_ n2_ n3_; (try clear hb); (try clear hb2); (try clear hk); (try clear hi); have hcz32_0 : w31.cell? ⟨gb153, 0, none⟩ = some (.slice A0_0 l0_0.length c0_0) := (blk_cell BK153.out 0).trans rfl; have hcz32_1 : w31.cell? ⟨gb153, 1, none⟩ = some (.slice A0_1 l0_1.length c0_1) := (blk_cell BK153.out 1).trans rfl; have hcz32_2 : w31.cell? ⟨gb153, 2, none⟩ = some (.int .i64 a0_2) := (blk_cell BK153.out 2).trans rfl; have hcz32_3 : w31.cell? ⟨gb153, 3, none⟩ = some (.slice (some ad162) l0_3.length c0_3) := (blk_cell BK153.out 3).trans rfl; have hfz32_0 := blk_frozen BK153.out 0; have hfz32_1 := blk_frozen BK153.out 1; have hfz32_2 := blk_frozen BK153.out 2; have hfz32_3 := blk_frozen BK153.out 3; have p165 : 0 ≤ (x10_2 : Int) := of_decide_eq_true (by first | (with_reducible assumption) | assumption); have q165 : x10_2 < (l0_3.length : Int) := of_decide_eq_true (by first | (with_reducible assumption) | assumption); obtain ⟨ad165, A165_1, c165_1, e165, hx165_0, hx165_1, hl165_1, hi165_1⟩ := at_T35 HR0_3.out x10_2 p165 q165; obtain rfl : ad162 = ad165 := (by injection e165); replace hx165_0 := (HB.out.cell (World.block_lt_of_cell? w _ hx165_0)).trans hx165_0; replace hx165_1 := (HB.out.cell (World.block_lt_of_cell? w _ hx165_1)).trans hx165_1; have HR165_1 := Aside0.mk hi165_1; have HC165_1 := Aside0.mk hl165_1; clear hi165_1 hl165_1; replace p165 := eq_true p165; replace q165 := eq_true q165; obtain ⟨Ao33, co33, eo33⟩ := Kd.R_slice HO_8.out; subst eo33; have p166 : 0 ≤ (x9_1 : Int) := of_decide_eq_true (by first | (with_reducible assumption) | assumption); have q166 : x9_1 < (x8_2.length : Int) := of_decide_eq_true (by first | (with_reducible assumption) | assumption); obtain ⟨ad166, e166, hx166_0⟩ := Kd.at_int (Kd.R_reads' HO_8.out).2.2 x9_1 p166 q166; cases e166; replace p166 := eq_true p166; replace q166 := eq_true q166; have p167 : 0 ≤ (t163 : Int) := of_decide_eq_true (by first | (with_reducible assumption) | assumption); have q167 : t163 < (x7_2.length : Int) := of_decide_eq_true (by first | (with_reducible assumption) | assumption); obtain ⟨ad167, e167, hx167_0⟩ := Kd.at_bool (Kd.R_reads' HO_7.out).2.2 t163 p167 q167; (try rw [← Nbq28.out] at hx167_0); obtain rfl : (⟨go8, 0, none⟩ : Addr) = ad167 := (by injection e167); (first | simp only [add_plain] at hx167_0 | simp only [add_at] at hx167_0 | simp only [Addr.add, Nat.zero_add] at hx167_0 | skip); replace p167 := eq_true p167; replace q167 := eq_true q167))
                                      repeat (go_quiet (first | (go_at_call 22; (with_reducible refine (dovetailref03_Renaming.calls ((rd_T35 l0_3 x10_2).f0) _ _ ((rd_T35 l0_3 x10_2).f1) t163 true _ ?side1 ?side2 A21.out).mono ?_); (case side1 => repeat (first | exact (Kd.C_below HR162_1.out HB.out) | (with_reducible refine Kd.C_alloc ?_ _) | (with_reducible refine Kd.C_drewN ?_ _) | (with_reducible refine Kd.C_drew ?_))); (case side2 => exact HC162_1.out); rintro e w31 ⟨rfl, hb⟩; have n0_ := Aside0.mk (Kd.R_below (by (with_reducible repeat (first | apply Kd.R_alloc | apply Kd.R_drewN | apply Kd.R_drew)); exact HO_7.out) hb); have n1_ := Aside0.mk (Kd.R_below (by (with_reducible repeat (first | apply Kd.R_alloc | apply Kd.R_drewN | apply Kd.R_drew)); exact HO_8.out) hb); have n2_ := Aside0.mk (blk_below (g := gb153) (o := .cells #[.slice A0_0 l0_0.length c0_0, .slice A0_1 l0_1.length c0_1, .int .i64 a0_2, .slice (some ad162) l0_3.length c0_3] 25 (0, 0)) (by (with_reducible repeat (first | refine blk_drewN ?_ _ | refine blk_drew ?_ | refine blk_alloc ?_ _)); exact BK153.out) hb); have n3_ := Aside0.mk (below_step (by repeat (first | (with_reducible first | exact HB.out | apply below_alloc | apply pw_below_drewN | apply below_drew1 | refine below_set ?_ GE153.out) | exact HB.out)) hb); clear HO_7; clear HO_8; clear BK153; clear HB; have HO_7 := n0_; have HO_8 := n1_; have BK153 := n2_; have HB := n3_; clear n0_ n1_ n2_ n3_; (try clear hb); (try clear hb2); (try clear hk); (try clear hi); have hcz32_0 : w31.cell? ⟨gb153, 0, none⟩ = some (.slice A0_0 l0_0.length c0_0) := (blk_cell BK153.out 0).trans rfl; have hcz32_1 : w31.cell? ⟨gb153, 1, none⟩ = some (.slice A0_1 l0_1.length c0_1) := (blk_cell BK153.out 1).trans rfl; have hcz32_2 : w31.cell? ⟨gb153, 2, none⟩ = some (.int .i64 a0_2) := (blk_cell BK153.out 2).trans rfl; have hcz32_3 : w31.cell? ⟨gb153, 3, none⟩ = some (.slice (some ad162) l0_3.length c0_3) := (blk_cell BK153.out 3).trans rfl; have hfz32_0 := blk_frozen BK153.out 0; have hfz32_1 := blk_frozen BK153.out 1; have hfz32_2 := blk_frozen BK153.out 2; have hfz32_3 := blk_frozen BK153.out 3; have p165 : 0 ≤ (x10_2 : Int) := of_decide_eq_true (by first | (with_reducible assumption) | assumption); have q165 : x10_2 < (l0_3.length : Int) := of_decide_eq_true (by first | (with_reducible assumption) | assumption); obtain ⟨ad165, A165_1, c165_1, e165, hx165_0, hx165_1, hl165_1, hi165_1⟩ := at_T35 HR0_3.out x10_2 p165 q165; obtain rfl : ad162 = ad165 := (by injection e165); replace hx165_0 := (HB.out.cell (World.block_lt_of_cell? w _ hx165_0)).trans hx165_0; replace hx165_1 := (HB.out.cell (World.block_lt_of_cell? w _ hx165_1)).trans hx165_1; have HR165_1 := Aside0.mk hi165_1; have HC165_1 := Aside0.mk hl165_1; clear hi165_1 hl165_1; replace p165 := eq_true p165; replace q165 := eq_true q165; obtain ⟨Ao33, co33, eo33⟩ := Kd.R_slice HO_8.out; subst eo33; have p166 : 0 ≤ (x9_1 : Int) := of_decide_eq_true (by first | (with_reducible assumption) | assumption); have q166 : x9_1 < (x8_2.length : Int) := of_decide_eq_true (by first | (with_reducible assumption) | assumption); obtain ⟨ad166, e166, hx166_0⟩ := Kd.at_int (Kd.R_reads' HO_8.out).2.2 x9_1 p166 q166; cases e166; replace p166 := eq_true p166; replace q166 := eq_true q166; have p167 : 0 ≤ (t163 : Int) := of_decide_eq_true (by first | (with_reducible assumption) | assumption); have q167 : t163 < (x7_2.length : Int) := of_decide_eq_true (by first | (with_reducible assumption) | assumption); obtain ⟨ad167, e167, hx167_0⟩ := Kd.at_bool (Kd.R_reads' HO_7.out).2.2 t163 p167 q167; (try rw [← Nbq28.out] at hx167_0); obtain rfl : (⟨go8, 0, none⟩ : Addr) = ad167 := (by injection e167); (first | simp only [add_plain] at hx167_0 | simp only [add_at] at hx167_0 | simp only [Addr.add, Nat.zero_add] at hx167_0 | skip); replace p167 := eq_true p167; replace q167 := eq_true q167)); try go_wp2_with (first | (go_at_call 22; (with_reducible refine (dovetailref03_Renaming.calls ((rd_T35 l0_3 x10_2).f0) _ _ ((rd_T35 l0_3 x10_2).f1) t163 true _ ?side1 ?side2 A21.out).mono ?_); (case side1 => repeat (first | exact (Kd.C_below HR162_1.out HB.out) | (with_reducible refine Kd.C_alloc ?_ _) | (with_reducible refine Kd.C_drewN ?_ _) | (with_reducible refine Kd.C_drew ?_))); (case side2 => exact HC162_1.out); rintro e w31 ⟨rfl, hb⟩; have n0_ := Aside0.mk (Kd.R_below (by (with_reducible repeat (first | apply Kd.R_alloc | apply Kd.R_drewN | apply Kd.R_drew)); exact HO_7.out) hb); have n1_ := Aside0.mk (Kd.R_below (by (with_reducible repeat (first | apply Kd.R_alloc | apply Kd.R_drewN | apply Kd.R_drew)); exact HO_8.out) hb); have n2_ := Aside0.mk (blk_below (g := gb153) (o := .cells #[.slice A0_0 l0_0.length c0_0, .slice A0_1 l0_1.length c0_1, .int .i64 a0_2, .slice (some ad162) l0_3.length c0_3] 25 (0, 0)) (by (with_reducible repeat (first | refine blk_drewN ?_ _ | refine blk_drew ?_ | refine blk_alloc ?_ _)); exact BK153.out) hb); have n3_ := Aside0.mk (below_step (by repeat (first | (with_reducible first | exact HB.out | apply below_alloc | apply pw_below_drewN | apply below_drew1 | refine below_set ?_ GE153.out) | exact HB.out)) hb); clear HO_7; clear HO_8; clear BK153; clear HB; have HO_7 := n0_; have HO_8 := n1_; have BK153 := n2_; have HB := n3_; clear n0_ n1_ n2_ n3_; (try clear hb); (try clear hb2); (try clear hk); (try clear hi); have hcz32_0 : w31.cell? ⟨gb153, 0, none⟩ = some (.slice A0_0 l0_0.length c0_0) := (blk_cell BK153.out 0).trans rfl; have hcz32_1 : w31.cell? ⟨gb153, 1, none⟩ = some (.slice A0_1 l0_1.length c0_1) := (blk_cell BK153.out 1).trans rfl; have hcz32_2 : w31.cell? ⟨gb153, 2, none⟩ = some (.int .i64 a0_2) := (blk_cell BK153.out 2).trans rfl; have hcz32_3 : w31.cell? ⟨gb153, 3, none⟩ = some (.slice (some ad162) l0_3.length c0_3) := (blk_cell BK153.out 3).trans rfl; have hfz32_0 := blk_frozen BK153.out 0; have hfz32_1 := blk_frozen BK153.out 1; have hfz32_2 := blk_frozen BK153.out 2; have hfz32_3 := blk_frozen BK153.out 3; have p165 : 0 ≤ (x10_2 : Int) := of_decide_eq_true (by first | (with_reducible assumption) | assumption); have q165 : x10_2 < (l0_3.length : Int) := of_decide_eq_true (by first | (with_reducible assumption) | assumption); obtain ⟨ad165, A165_1, c165_1, e165, hx165_0, hx165_1, hl165_1, hi165_1⟩ := at_T35 HR0_3.out x10_2 p165 q165; obtain rfl : ad162 = ad165 := (by injection e165); replace hx165_0 := (HB.out.cell (World.block_lt_of_cell? w _ hx165_0)).trans hx165_0; replace hx165_1 := (HB.out.cell (World.block_lt_of_cell? w _ hx165_1)).trans hx165_1; have HR165_1 := Aside0.mk hi165_1; have HC165_1 := Aside0.mk hl165_1; clear hi165_1 hl165_1; replace p165 := eq_true p165; replace q165 := eq_true q165; obtain ⟨Ao33, co33, eo33⟩ := Kd.R_slice HO_8.out; subst eo33; have p166 : 0 ≤ (x9_1 : Int) := of_decide_eq_true (by first | (with_reducible assumption) | assumption); have q166 : x9_1 < (x8_2.length : Int) := of_decide_eq_true (by first | (with_reducible assumption) | assumption); obtain ⟨ad166, e166, hx166_0⟩ := Kd.at_int (Kd.R_reads' HO_8.out).2.2 x9_1 p166 q166; cases e166; replace p166 := eq_true p166; replace q166 := eq_true q166; have p167 : 0 ≤ (t163 : Int) := of_decide_eq_true (by first | (with_reducible assumption) | assumption); have q167 : t163 < (x7_2.length : Int) := of_decide_eq_true (by first | (with_reducible assumption) | assumption); obtain ⟨ad167, e167, hx167_0⟩ := Kd.at_bool (Kd.R_reads' HO_7.out).2.2 t163 p167 q167; (try rw [← Nbq28.out] at hx167_0); obtain rfl : (⟨go8, 0, none⟩ : Addr) = ad167 := (by injection e167); (first | simp only [add_plain] at hx167_0 | simp only [add_at] at hx167_0 | simp only [Addr.add, Nat.zero_add] at hx167_0 | skip); replace p167 := eq_true p167; replace q167 := eq_true q167)))
                                      (try simp only [← hl7_2])
                                      go_roundg k2
                                      case measure => have := HK1.out; have := HK2.out; omega
                                      case rel => exact ⟨(x7_2), (x8_2), (wrap64 (x10_2 + 1)), (by first | rfl | (simp; done) | (simp [*]; done)), H', ⟨by have := HK1.out; have := HK2.out; omega⟩, ⟨by (try simp only [hl7_1]); (try simp only [hl7_2]); (with_reducible repeat (first | apply Kd.R_alloc | apply Kd.R_drewN | apply Kd.R_drew)); exact HO_7.out⟩, ⟨by (try simp only [hl7_1]); (try simp only [hl7_2]); (with_reducible repeat (first | apply Kd.R_alloc | apply Kd.R_drewN | apply Kd.R_drew)); exact HO_8.out⟩, ⟨by (try simp only [hl7_1]); (try simp only [hl7_2]); (with_reducible repeat (first | refine blk_drewN ?_ _ | refine blk_drew ?_ | refine blk_alloc ?_ _)); exact BK153.out⟩, ⟨by repeat (first | (with_reducible first | exact HB.out | apply below_alloc | apply pw_below_drewN | apply below_drew1 | refine below_set ?_ GE153.out) | exact HB.out)⟩⟩
                                    · replace c29 := Bool.eq_false_iff.mpr c29
                                      subst c29
                                      have H1 : (if x8_2.length < 17592186044416 then (dovetailref03_Comes.l1 k2 a2 (x7_2.set (t163 : Int).toNat true) (x8_2 ++ [t163]) x9_1 (wrap64 (x10_2 + 1)) l0_0 l0_1 a0_2 l0_3) else (none)) = some r := by rw [if_neg (show ¬ (false = true) by decide)] at H; exact H
                                      clear H
                                      have H := H1
                                      clear H1
                                      obtain ⟨y168, hy168⟩ : ∃ y_ : List Bool, y_ = (x7_2.set (t163 : Int).toNat true) := ⟨_, rfl⟩
                                      replace H : (if x8_2.length < 17592186044416 then (dovetailref03_Comes.l1 k2 a2 y168 (x8_2 ++ [t163]) x9_1 (wrap64 (x10_2 + 1)) l0_0 l0_1 a0_2 l0_3) else (none)) = some r := by first | (rw [hy168]; with_reducible exact H) | (have H2_ := (Option.bind_some _ _).symm.trans H; rw [hy168]; with_reducible exact H2_) | (have H2_ := (Option.bind_some _ _).symm.trans H; with_reducible exact H2_) | with_reducible exact H | (rw [hy168]; exact H) | exact H
                                      have Ny168 := Aside0.mk hy168
                                      clear hy168
                                      by_cases c35 : x8_2.length < 17592186044416
                                      · rw [if_pos c35] at H
                                        have LMc35 := Aside0.mk c35
                                        clear c35
                                        obtain ⟨y169, hy169⟩ : ∃ y_ : List Int, y_ = (x8_2 ++ [t163]) := ⟨_, rfl⟩
                                        replace H : (dovetailref03_Comes.l1 k2 a2 y168 y169 x9_1 (wrap64 (x10_2 + 1)) l0_0 l0_1 a0_2 l0_3) = some r := by first | (rw [hy169]; with_reducible exact H) | (have H2_ := (Option.bind_some _ _).symm.trans H; rw [hy169]; with_reducible exact H2_) | (have H2_ := (Option.bind_some _ _).symm.trans H; with_reducible exact H2_) | with_reducible exact H | (rw [hy169]; exact H) | exact H
                                        have Ny169 := Aside0.mk hy169
                                        clear hy169
                                        have H' := Aside0.mk H
                                        clear H
                                        have hcz36_0 : wr.cell? ⟨gb153, 0, none⟩ = some (.slice A0_0 l0_0.length c0_0) := (blk_cell BK153.out 0).trans rfl
                                        have hcz36_1 : wr.cell? ⟨gb153, 1, none⟩ = some (.slice A0_1 l0_1.length c0_1) := (blk_cell BK153.out 1).trans rfl
                                        have hcz36_2 : wr.cell? ⟨gb153, 2, none⟩ = some (.int .i64 a0_2) := (blk_cell BK153.out 2).trans rfl
                                        have hcz36_3 : wr.cell? ⟨gb153, 3, none⟩ = some (.slice A0_3 l0_3.length c0_3) := (blk_cell BK153.out 3).trans rfl
                                        have hfz36_0 := blk_frozen BK153.out 0
                                        have hfz36_1 := blk_frozen BK153.out 1
                                        have hfz36_2 := blk_frozen BK153.out 2
                                        have hfz36_3 := blk_frozen BK153.out 3
                                        have p162 : 0 ≤ (x10_2 : Int) := of_decide_eq_true (by first | (with_reducible assumption) | assumption)
                                        have q162 : x10_2 < (l0_3.length : Int) := of_decide_eq_true (by first | (with_reducible assumption) | assumption)
                                        obtain ⟨ad162, A162_1, c162_1, e162, hx162_0, hx162_1, hl162_1, hi162_1⟩ := at_T35 HR0_3.out x10_2 p162 q162
                                        cases e162
                                        replace hx162_0 := (HB.out.cell (World.block_lt_of_cell? w _ hx162_0)).trans hx162_0
                                        replace hx162_1 := (HB.out.cell (World.block_lt_of_cell? w _ hx162_1)).trans hx162_1
                                        have HR162_1 := Aside0.mk hi162_1
                                        have HC162_1 := Aside0.mk hl162_1
                                        clear hi162_1 hl162_1
                                        replace p162 := eq_true p162
                                        replace q162 := eq_true q162
                                        go_wp2_with (first | (go_at_call 22; (with_reducible refine (dovetailref03_Renaming.calls ((rd_T35 l0_3 x10_2).f0) _ _ ((rd_T35 l0_3 x10_2).f1) t163 true _ ?side1 ?side2 A21.out).mono ?_); (case side1 => repeat (first | exact (Kd.C_below HR162_1.out HB.out) | (with_reducible refine Kd.C_alloc ?_ _) | (with_reducible refine Kd.C_drewN ?_ _) | (with_reducible refine Kd.C_drew ?_))); (case side2 => exact HC162_1.out); rintro e w37 ⟨rfl, hb⟩; have n0_ := Aside0.mk (Kd.R_below (by (with_reducible repeat (first | apply Kd.R_alloc | apply Kd.R_drewN | apply Kd.R_drew)); exact HO_7.out) hb); have n1_ := Aside0.mk (Kd.R_below (by (with_reducible repeat (first | apply Kd.R_alloc | apply Kd.R_drewN | apply Kd.R_drew)); exact HO_8.out) hb); have n2_ := Aside0.mk (blk_below (g := gb153) (o := .cells #[.slice A0_0 l0_0.length c0_0, .slice A0_1 l0_1.length c0_1, .int .i64 a0_2, .slice (some ad162) l0_3.length c0_3] 25 (0, 0)) (by (with_reducible repeat (first | refine blk_drewN ?_ _ | refine blk_drew ?_ | refine blk_alloc ?_ _)); exact BK153.out) hb); have n3_ := Aside0.mk (below_step (by repeat (first | (with_reducible first | exact HB.out | apply below_alloc | apply pw_below_drewN | apply below_drew1 | refine below_set ?_ GE153.out) | exact HB.out)) hb); clear HO_7; clear HO_8; clear BK153; clear HB; have HO_7 := n0_; have HO_8 := n1_; have BK153 := n2_; have HB := n3_; clear n0_ n1_ n2_ n3_; (try clear hb); (try clear hb2); (try clear hk); (try clear hi); have hcz38_0 : w37.cell? ⟨gb153, 0, none⟩ = some (.slice A0_0 l0_0.length c0_0) := (blk_cell BK153.out 0).trans rfl; have hcz38_1 : w37.cell? ⟨gb153, 1, none⟩ = some (.slice A0_1 l0_1.length c0_1) := (blk_cell BK153.out 1).trans rfl; have hcz38_2 : w37.cell? ⟨gb153, 2, none⟩ = some (.int .i64 a0_2) := (blk_cell BK153.out 2).trans rfl; have hcz38_3 : w37.cell? ⟨gb153, 3, none⟩ = some (.slice (some ad162) l0_3.length c0_3) := (blk_cell BK153.out 3).trans rfl; have hfz38_0 := blk_frozen BK153.out 0; have hfz38_1 := blk_frozen BK153.out 1; have hfz38_2 := blk_frozen BK153.out 2; have hfz38_3 := blk_frozen BK153.out 3; have p165 : 0 ≤ (x10_2 : Int) := of_decide_eq_true (by first | (with_reducible assumption) | assumption); have q165 : x10_2 < (l0_3.length : Int) := of_decide_eq_true (by first | (with_reducible assumption) | assumption); obtain ⟨ad165, A165_1, c165_1, e165, hx165_0, hx165_1, hl165_1, hi165_1⟩ := at_T35 HR0_3.out x10_2 p165 q165; obtain rfl : ad162 = ad165 := (by injection e165); replace hx165_0 := (HB.out.cell (World.block_lt_of_cell? w _ hx165_0)).trans hx165_0; replace hx165_1 := (HB.out.cell (World.block_lt_of_cell? w _ hx165_1)).trans hx165_1; have HR165_1 := Aside0.mk hi165_1; have HC165_1 := Aside0.mk hl165_1; clear hi165_1 hl165_1; replace p165 := eq_true p165; replace q165 := eq_true q165; obtain ⟨Ao39, co39, eo39⟩ := Kd.R_slice HO_8.out; subst eo39; have p166 : 0 ≤ (x9_1 : Int) := of_decide_eq_true (by first | (with_reducible assumption) | assumption); have q166 : x9_1 < (x8_2.length : Int) := of_decide_eq_true (by first | (with_reducible assumption) | assumption); obtain ⟨ad166, e166, hx166_0⟩ := Kd.at_int (Kd.R_reads' HO_8.out).2.2 x9_1 p166 q166; cases e166; replace p166 := eq_true p166; replace q166 := eq_true q166; have p167 : 0 ≤ (t163 : Int) := of_decide_eq_true (by first | (with_reducible assumption) | assumption); have q167 : t163 < (x7_2.length : Int) := of_decide_eq_true (by first | (with_reducible assumption) | assumption); obtain ⟨ad167, e167, hx167_0⟩ := Kd.at_bool (Kd.R_reads' HO_7.out).2.2 t163 p167 q167; (try rw [← Nbq28.out] at hx167_0); obtain rfl : (⟨go8, 0, none⟩ : Addr) = ad167 := (by injection e167); (first | simp only [add_plain] at hx167_0 | simp only [add_at] at hx167_0 | simp only [Addr.add, Nat.zero_add] at hx167_0 | skip); replace p167 := eq_true p167; replace q167 := eq_true q167; have p34 : 0 ≤ (t163 : Int) := of_decide_eq_true (by first | (with_reducible assumption) | assumption); have q34 : (t163 : Int) < ((x7_2.length : Int) : Int) := of_decide_eq_true (by first | (with_reducible assumption) | assumption); obtain ⟨hx34_0, hf34_0⟩ := Kd.R_celln false HO_7.out (t163 : Int) p34 q34; replace p34 := eq_true p34; replace q34 := eq_true q34; obtain ⟨hy40_, hz40_⟩ := Kd.R_celln false HO_7.out (t163 : Int) (of_decide_eq_true (by first | (with_reducible assumption) | assumption)) (of_decide_eq_true (by first | (with_reducible assumption) | assumption)); have HP40 := Kd.R_putg HO_7.out (t163 : Int) true) | ((with_reducible refine gate_store (t := 4) (p := 67) rfl ?_); (try (rw [drewN_self w37]; generalize hq_ : World.drewN w37 _ = w37; have n0_ := Aside0.mk (Kd.R_at hq_ HO_7.out); have n1_ := Aside0.mk (Kd.R_at hq_ HO_8.out); have n2_ := Aside0.mk (blk_at hq_ BK153.out); have n3_ := Aside0.mk (below_at hq_ HB.out); clear hq_ HO_7 HO_8 BK153 HB; have HO_7 := n0_; have HO_8 := n1_; have BK153 := n2_; have HB := n3_; clear n0_ n1_ n2_ n3_; (try (obtain ⟨hy40_, hz40_⟩ := Kd.R_celln false HO_7.out (t163 : Int) (of_decide_eq_true (by first | (with_reducible assumption) | assumption)) (of_decide_eq_true (by first | (with_reducible assumption) | assumption)))); (try (have HP40 := Kd.R_putg HO_7.out (t163 : Int) true)))); refine store_event (t := 4) (p := 67) (v := ?vo_w41) (w1 := (w37.setCell ⟨go8, (t163 : Int).toNat, none⟩ (.bool true))) ?hg ?ho ?hn ?hr ?_; (case ho => rfl); (case hg => rfl); (case hn => rfl); (case hr => first | (go_simp; done) | (go_simp; rfl)); intro w41 hw; have hg : w37.grownBy w41 (some go8) := (by rw [hw]; exact HP40.2); have hp_ : Kd.R Kd.bool 4 w41 w.heap.size (fun _ => True) (.slice (some ⟨go8, 0, none⟩) x7_2.length co8) y168 := (by rw [hw, Ny168.out]; exact HP40.1); clear HP40; have n0_ := Aside0.mk (hp_); have n1_ := Aside0.mk (Kd.R_over' (v := (.slice (some ⟨go8, 0, none⟩) x7_2.length co8)) (by (with_reducible repeat (first | apply Kd.R_alloc | apply Kd.R_drewN | apply Kd.R_drew)); exact HO_8.out) (Kd.R_typed HO_7.out) (by decide) hg); have n2_ := Aside0.mk (blk_grown (g := gb153) (o := .cells #[.slice A0_0 l0_0.length c0_0, .slice A0_1 l0_1.length c0_1, .int .i64 a0_2, .slice (some ad162) l0_3.length c0_3] 25 (0, 0)) (by (with_reducible repeat (first | refine blk_drewN ?_ _ | refine blk_drew ?_ | refine blk_alloc ?_ _)); exact BK153.out) hg (Kd.R_ne HO_7.out BK153.out (by decide))); have n3_ := Aside0.mk ((by rw [hw]; exact below_set (HB.out) GB8.out : Below w.heap.size w w41)); clear HO_7; clear HO_8; clear BK153; clear HB; have HO_7 := n0_; have HO_8 := n1_; have BK153 := n2_; have HB := n3_; clear n0_ n1_ n2_ n3_; clear hg hw hp_) | ((with_reducible refine gate_builtin (b := .append) (xs := #[.tmp 68, .tmp 70]) rfl ?_); at_builtin; refine Kd.R_append (Kd.int .i64) (w0 := w) w.heap.size rfl (.tmp 68) (.tmp 70) 33 3 (.int .i64 0) 8 rfl Tryd.underlying33 info3 rfl (by decide) (by omega) (.slice (some ad166) x8_2.length co39) x8_2 t163 [.int .i64 t163] (fun _ => True) (fun _ => False) rfl rfl ?aP (fun _ hk => hk.elim) ?aF ?aO ?aB ?aS ?aL ?_; (case aP => exact rfl); (case aB => exact (by repeat (first | (with_reducible first | exact HB.out | apply below_alloc | apply pw_below_drewN | apply below_drew1 | refine below_set ?_ GE153.out) | exact HB.out))); (case aF => exact (fun _ _ => trivial)); (case aO => exact (by (with_reducible repeat (first | apply Kd.R_alloc | apply Kd.R_drewN | apply Kd.R_drew)); exact HO_8.out)); (case aS => exact (below_size (by repeat (first | (with_reducible first | exact HB.out | apply below_alloc | apply pw_below_drewN | apply below_drew1 | refine below_set ?_ GE153.out) | exact HB.out)))); (case aL => have := LMc35.out; omega); intro v170 w42 ho hb hg hat; rw [← Ny169.out] at ho; have n0_ := Aside0.mk (Kd.R_over' (by (with_reducible repeat (first | apply Kd.R_alloc | apply Kd.R_drewN | apply Kd.R_drew)); exact HO_7.out) (Kd.R_typed (by (with_reducible repeat (first | apply Kd.R_alloc | apply Kd.R_drewN | apply Kd.R_drew)); exact HO_8.out)) (by decide) hg); have n1_ := Aside0.mk (blk_grown (g := gb153) (o := .cells #[.slice A0_0 l0_0.length c0_0, .slice A0_1 l0_1.length c0_1, .int .i64 a0_2, .slice (some ad162) l0_3.length c0_3] 25 (0, 0)) (by (with_reducible repeat (first | refine blk_drewN ?_ _ | refine blk_drew ?_ | refine blk_alloc ?_ _)); exact BK153.out) hg (Kd.R_ne HO_8.out BK153.out (by decide))); have n2_ := Aside0.mk (hb); have n3_ := Aside0.mk (ho); clear HO_7; clear BK153; clear HB; clear HO_8; have HO_7 := n0_; have BK153 := n1_; have HB := n2_; have HO171 := n3_; clear n0_ n1_ n2_ n3_; clear ho hb hg hat))
                                        repeat (go_quiet (first | (go_at_call 22; (with_reducible refine (dovetailref03_Renaming.calls ((rd_T35 l0_3 x10_2).f0) _ _ ((rd_T35 l0_3 x10_2).f1) t163 true _ ?side1 ?side2 A21.out).mono ?_); (case side1 => repeat (first | exact (Kd.C_below HR162_1.out HB.out) | (with_reducible refine Kd.C_alloc ?_ _) | (with_reducible refine Kd.C_drewN ?_ _) | (with_reducible refine Kd.C_drew ?_))); (case side2 => exact HC162_1.out); rintro e w37 ⟨rfl, hb⟩; have n0_ := Aside0.mk (Kd.R_below (by (with_reducible repeat (first | apply Kd.R_alloc | apply Kd.R_drewN | apply Kd.R_drew)); exact HO_7.out) hb); have n1_ := Aside0.mk (Kd.R_below (by (with_reducible repeat (first | apply Kd.R_alloc | apply Kd.R_drewN | apply Kd.R_drew)); exact HO_8.out) hb); have n2_ := Aside0.mk (blk_below (g := gb153) (o := .cells #[.slice A0_0 l0_0.length c0_0, .slice A0_1 l0_1.length c0_1, .int .i64 a0_2, .slice (some ad162) l0_3.length c0_3] 25 (0, 0)) (by (with_reducible repeat (first | refine blk_drewN ?_ _ | refine blk_drew ?_ | refine blk_alloc ?_ _)); exact BK153.out) hb); have n3_ := Aside0.mk (below_step (by repeat (first | (with_reducible first | exact HB.out | apply below_alloc | apply pw_below_drewN | apply below_drew1 | refine below_set ?_ GE153.out) | exact HB.out)) hb); clear HO_7; clear HO_8; clear BK153; clear HB; have HO_7 := n0_; have HO_8 := n1_; have BK153 := n2_; have HB := n3_; clear n0_ n1_ n2_ n3_; (try clear hb); (try clear hb2); (try clear hk); (try clear hi); have hcz38_0 : w37.cell? ⟨gb153, 0, none⟩ = some (.slice A0_0 l0_0.length c0_0) := (blk_cell BK153.out 0).trans rfl; have hcz38_1 : w37.cell? ⟨gb153, 1, none⟩ = some (.slice A0_1 l0_1.length c0_1) := (blk_cell BK153.out 1).trans rfl; have hcz38_2 : w37.cell? ⟨gb153, 2, none⟩ = some (.int .i64 a0_2) := (blk_cell BK153.out 2).trans rfl; have hcz38_3 : w37.cell? ⟨gb153, 3, none⟩ = some (.slice (some ad162) l0_3.length c0_3) := (blk_cell BK153.out 3).trans rfl; have hfz38_0 := blk_frozen BK153.out 0; have hfz38_1 := blk_frozen BK153.out 1; have hfz38_2 := blk_frozen BK153.out 2; have hfz38_3 := blk_frozen BK153.out 3; have p165 : 0 ≤ (x10_2 : Int) := of_decide_eq_true (by first | (with_reducible assumption) | assumption); have q165 : x10_2 < (l0_3.length : Int) := of_decide_eq_true (by first | (with_reducible assumption) | assumption); obtain ⟨ad165, A165_1, c165_1, e165, hx165_0, hx165_1, hl165_1, hi165_1⟩ := at_T35 HR0_3.out x10_2 p165 q165; obtain rfl : ad162 = ad165 := (by injection e165); replace hx165_0 := (HB.out.cell (World.block_lt_of_cell? w _ hx165_0)).trans hx165_0; replace hx165_1 := (HB.out.cell (World.block_lt_of_cell? w _ hx165_1)).trans hx165_1; have HR165_1 := Aside0.mk hi165_1; have HC165_1 := Aside0.mk hl165_1; clear hi165_1 hl165_1; replace p165 := eq_true p165; replace q165 := eq_true q165; obtain ⟨Ao39, co39, eo39⟩ := Kd.R_slice HO_8.out; subst eo39; have p166 : 0 ≤ (x9_1 : Int) := of_decide_eq_true (by first | (with_reducible assumption) | assumption); have q166 : x9_1 < (x8_2.length : Int) := of_decide_eq_true (by first | (with_reducible assumption) | assumption); obtain ⟨ad166, e166, hx166_0⟩ := Kd.at_int (Kd.R_reads' HO_8.out).2.2 x9_1 p166 q166; cases e166; replace p166 := eq_true p166; replace q166 := eq_true q166; have p167 : 0 ≤ (t163 : Int) := of_decide_eq_true (by first | (with_reducible assumption) | assumption); have q167 : t163 < (x7_2.length : Int) := of_decide_eq_true (by first | (with_reducible assumption) | assumption); obtain ⟨ad167, e167, hx167_0⟩ := Kd.at_bool (Kd.R_reads' HO_7.out).2.2 t163 p167 q167; (try rw [← Nbq28.out] at hx167_0); obtain rfl : (⟨go8, 0, none⟩ : Addr) = ad167 := (by injection e167); (first | simp only [add_plain] at hx167_0 | simp only [add_at] at hx167_0 | simp only [Addr.add, Nat.zero_add] at hx167_0 | skip); replace p167 := eq_true p167; replace q167 := eq_true q167; have p34 : 0 ≤ (t163 : Int) := of_decide_eq_true (by first | (with_reducible assumption) | assumption); have q34 : (t163 : Int) < ((x7_2.length : Int) : Int) := of_decide_eq_true (by first | (with_reducible assumption) | assumption); obtain ⟨hx34_0, hf34_0⟩ := Kd.R_celln false HO_7.out (t163 : Int) p34 q34; replace p34 := eq_true p34; replace q34 := eq_true q34; obtain ⟨hy40_, hz40_⟩ := Kd.R_celln false HO_7.out (t163 : Int) (of_decide_eq_true (by first | (with_reducible assumption) | assumption)) (of_decide_eq_true (by first | (with_reducible assumption) | assumption)); have HP40 := Kd.R_putg HO_7.out (t163 : Int) true) | ((with_reducible refine gate_store (t := 4) (p := 67) rfl ?_); (try (rw [drewN_self w37]; generalize hq_ : World.drewN w37 _ = w37; have n0_ := Aside0.mk (Kd.R_at hq_ HO_7.out); have n1_ := Aside0.mk (Kd.R_at hq_ HO_8.out); have n2_ := Aside0.mk (blk_at hq_ BK153.out); have n3_ := Aside0.mk (below_at hq_ HB.out); clear hq_ HO_7 HO_8 BK153 HB; have HO_7 := n0_; have HO_8 := n1_; have BK153 := n2_; have HB := n3_; clear n0_ n1_ n2_ n3_; (try (obtain ⟨hy40_, hz40_⟩ := Kd.R_celln false HO_7.out (t163 : Int) (of_decide_eq_true (by first | (with_reducible assumption) | assumption)) (of_decide_eq_true (by first | (with_reducible assumption) | assumption)))); (try (have HP40 := Kd.R_putg HO_7.out (t163 : Int) true)))); refine store_event (t := 4) (p := 67) (v := ?vo_w41) (w1 := (w37.setCell ⟨go8, (t163 : Int).toNat, none⟩ (.bool true))) ?hg ?ho ?hn ?hr ?_; (case ho => rfl); (case hg => rfl); (case hn => rfl); (case hr => first | (go_simp; done) | (go_simp; rfl)); intro w41 hw; have hg : w37.grownBy w41 (some go8) := (by rw [hw]; exact HP40.2); have hp_ : Kd.R Kd.bool 4 w41 w.heap.size (fun _ => True) (.slice (some ⟨go8, 0, none⟩) x7_2.length co8) y168 := (by rw [hw, Ny168.out]; exact HP40.1); clear HP40; have n0_ := Aside0.mk (hp_); have n1_ := Aside0.mk (Kd.R_over' (v := (.slice (some ⟨go8, 0, none⟩) x7_2.length co8)) (by (with_reducible repeat (first | apply Kd.R_alloc | apply Kd.R_drewN | apply Kd.R_drew)); exact HO_8.out) (Kd.R_typed HO_7.out) (by decide) hg); have n2_ := Aside0.mk (blk_grown (g := gb153) (o := .cells #[.slice A0_0 l0_0.length c0_0, .slice A0_1 l0_1.length c0_1, .int .i64 a0_2, .slice (some ad162) l0_3.length c0_3] 25 (0, 0)) (by (with_reducible repeat (first | refine blk_drewN ?_ _ | refine blk_drew ?_ | refine blk_alloc ?_ _)); exact BK153.out) hg (Kd.R_ne HO_7.out BK153.out (by decide))); have n3_ := Aside0.mk ((by rw [hw]; exact below_set (HB.out) GB8.out : Below w.heap.size w w41)); clear HO_7; clear HO_8; clear BK153; clear HB; have HO_7 := n0_; have HO_8 := n1_; have BK153 := n2_; have HB := n3_; clear n0_ n1_ n2_ n3_; clear hg hw hp_) | ((with_reducible refine gate_builtin (b := .append) (xs := #[.tmp 68, .tmp 70]) rfl ?_); at_builtin; refine Kd.R_append (Kd.int .i64) (w0 := w) w.heap.size rfl (.tmp 68) (.tmp 70) 33 3 (.int .i64 0) 8 rfl Tryd.underlying33 info3 rfl (by decide) (by omega) (.slice (some ad166) x8_2.length co39) x8_2 t163 [.int .i64 t163] (fun _ => True) (fun _ => False) rfl rfl ?aP (fun _ hk => hk.elim) ?aF ?aO ?aB ?aS ?aL ?_; (case aP => exact rfl); (case aB => exact (by repeat (first | (with_reducible first | exact HB.out | apply below_alloc | apply pw_below_drewN | apply below_drew1 | refine below_set ?_ GE153.out) | exact HB.out))); (case aF => exact (fun _ _ => trivial)); (case aO => exact (by (with_reducible repeat (first | apply Kd.R_alloc | apply Kd.R_drewN | apply Kd.R_drew)); exact HO_8.out)); (case aS => exact (below_size (by repeat (first | (with_reducible first | exact HB.out | apply below_alloc | apply pw_below_drewN | apply below_drew1 | refine below_set ?_ GE153.out) | exact HB.out)))); (case aL => have := LMc35.out; omega); intro v170 w42 ho hb hg hat; rw [← Ny169.out] at ho; have n0_ := Aside0.mk (Kd.R_over' (by (with_reducible repeat (first | apply Kd.R_alloc | apply Kd.R_drewN | apply Kd.R_drew)); exact HO_7.out) (Kd.R_typed (by (with_reducible repeat (first | apply Kd.R_alloc | apply Kd.R_drewN | apply Kd.R_drew)); exact HO_8.out)) (by decide) hg); have n1_ := Aside0.mk (blk_grown (g := gb153) (o := .cells #[.slice A0_0 l0_0.length c0_0, .slice A0_1 l0_1.length c0_1, .int .i64 a0_2, .slice (some ad162) l0_3.length c0_3] 25 (0, 0)) (by (with_reducible repeat (first | refine blk_drewN ?_ _ | refine blk_drew ?_ | refine blk_alloc ?_ _)); exact BK153.out) hg (Kd.R_ne HO_8.out BK153.out (by decide))); have n2_ := Aside0.mk (hb); have n3_ := Aside0.mk (ho); clear HO_7; clear BK153; clear HB; clear HO_8; have HO_7 := n0_; have BK153 := n1_; have HB := n2_; have HO171 := n3_; clear n0_ n1_ n2_ n3_; clear ho hb hg hat)); try go_wp2_with (first | (go_at_call 22; (with_reducible refine (dovetailref03_Renaming.calls ((rd_T35 l0_3 x10_2).f0) _ _ ((rd_T35 l0_3 x10_2).f1) t163 true _ ?side1 ?side2 A21.out).mono ?_); (case side1 => repeat (first | exact (Kd.C_below HR162_1.out HB.out) | (with_reducible refine Kd.C_alloc ?_ _) | (with_reducible refine Kd.C_drewN ?_ _) | (with_reducible refine Kd.C_drew ?_))); (case side2 => exact HC162_1.out); rintro e w37 ⟨rfl, hb⟩; have n0_ := Aside0.mk (Kd.R_below (by (with_reducible repeat (first | apply Kd.R_alloc | apply Kd.R_drewN | apply Kd.R_drew)); exact HO_7.out) hb); have n1_ := Aside0.mk (Kd.R_below (by (with_reducible repeat (first | apply Kd.R_alloc | apply Kd.R_drewN | apply Kd.R_drew)); exact HO_8.out) hb); have n2_ := Aside0.mk (blk_below (g := gb153) (o := .cells #[.slice A0_0 l0_0.length c0_0, .slice A0_1 l0_1.length c0_1, .int .i64 a0_2, .slice (some ad162) l0_3.length c0_3] 25 (0, 0)) (by (with_reducible repeat (first | refine blk_drewN ?_ _ | refine blk_drew ?_ | refine blk_alloc ?_ _)); exact BK153.out) hb); have n3_ := Aside0.mk (below_step (by repeat (first | (with_reducible first | exact HB.out | apply below_alloc | apply pw_below_drewN | apply below_drew1 | refine below_set ?_ GE153.out) | exact HB.out)) hb); clear HO_7; clear HO_8; clear BK153; clear HB; have HO_7 := n0_; have HO_8 := n1_; have BK153 := n2_; have HB := n3_; clear n0_ n1_ n2_ n3_; (try clear hb); (try clear hb2); (try clear hk); (try clear hi); have hcz38_0 : w37.cell? ⟨gb153, 0, none⟩ = some (.slice A0_0 l0_0.length c0_0) := (blk_cell BK153.out 0).trans rfl; have hcz38_1 : w37.cell? ⟨gb153, 1, none⟩ = some (.slice A0_1 l0_1.length c0_1) := (blk_cell BK153.out 1).trans rfl; have hcz38_2 : w37.cell? ⟨gb153, 2, none⟩ = some (.int .i64 a0_2) := (blk_cell BK153.out 2).trans rfl; have hcz38_3 : w37.cell? ⟨gb153, 3, none⟩ = some (.slice (some ad162) l0_3.length c0_3) := (blk_cell BK153.out 3).trans rfl; have hfz38_0 := blk_frozen BK153.out 0; have hfz38_1 := blk_frozen BK153.out 1; have hfz38_2 := blk_frozen BK153.out 2; have hfz38_3 := blk_frozen BK153.out 3; have p165 : 0 ≤ (x10_2 : Int) := of_decide_eq_true (by first | (with_reducible assumption) | assumption); have q165 : x10_2 < (l0_3.length : Int) := of_decide_eq_true (by first | (with_reducible assumption) | assumption); obtain ⟨ad165, A165_1, c165_1, e165, hx165_0, hx165_1, hl165_1, hi165_1⟩ := at_T35 HR0_3.out x10_2 p165 q165; obtain rfl : ad162 = ad165 := (by injection e165); replace hx165_0 := (HB.out.cell (World.block_lt_of_cell? w _ hx165_0)).trans hx165_0; replace hx165_1 := (HB.out.cell (World.block_lt_of_cell? w _ hx165_1)).trans hx165_1; have HR165_1 := Aside0.mk hi165_1; have HC165_1 := Aside0.mk hl165_1; clear hi165_1 hl165_1; replace p165 := eq_true p165; replace q165 := eq_true q165; obtain ⟨Ao39, co39, eo39⟩ := Kd.R_slice HO_8.out; subst eo39; have p166 : 0 ≤ (x9_1 : Int) := of_decide_eq_true (by first | (with_reducible assumption) | assumption); have q166 : x9_1 < (x8_2.length : Int) := of_decide_eq_true (by first | (with_reducible assumption) | assumption); obtain ⟨ad166, e166, hx166_0⟩ := Kd.at_int (Kd.R_reads' HO_8.out).2.2 x9_1 p166 q166; cases e166; replace p166 := eq_true p166; replace q166 := eq_true q166; have p167 : 0 ≤ (t163 : Int) := of_decide_eq_true (by first | (with_reducible assumption) | assumption); have q167 : t163 < (x7_2.length : Int) := of_decide_eq_true (by first | (with_reducible assumption) | assumption); obtain ⟨ad167, e167, hx167_0⟩ := Kd.at_bool (Kd.R_reads' HO_7.out).2.2 t163 p167 q167; (try rw [← Nbq28.out] at hx167_0); obtain rfl : (⟨go8, 0, none⟩ : Addr) = ad167 := (by injection e167); (first | simp only [add_plain] at hx167_0 | simp only [add_at] at hx167_0 | simp only [Addr.add, Nat.zero_add] at hx167_0 | skip); replace p167 := eq_true p167; replace q167 := eq_true q167; have p34 : 0 ≤ (t163 : Int) := of_decide_eq_true (by first | (with_reducible assumption) | assumption); have q34 : (t163 : Int) < ((x7_2.length : Int) : Int) := of_decide_eq_true (by first | (with_reducible assumption) | assumption); obtain ⟨hx34_0, hf34_0⟩ := Kd.R_celln false HO_7.out (t163 : Int) p34 q34; replace p34 := eq_true p34; replace q34 := eq_true q34; obtain ⟨hy40_, hz40_⟩ := Kd.R_celln false HO_7.out (t163 : Int) (of_decide_eq_true (by first | (with_reducible assumption) | assumption)) (of_decide_eq_true (by first | (with_reducible assumption) | assumption)); have HP40 := Kd.R_putg HO_7.out (t163 : Int) true) | ((with_reducible refine gate_store (t := 4) (p := 67) rfl ?_); (try (rw [drewN_self w37]; generalize hq_ : World.drewN w37 _ = w37; have n0_ := Aside0.mk (Kd.R_at hq_ HO_7.out); have n1_ := Aside0.mk (Kd.R_at hq_ HO_8.out); have n2_ := Aside0.mk (blk_at hq_ BK153.out); have n3_ := Aside0.mk (below_at hq_ HB.out); clear hq_ HO_7 HO_8 BK153 HB; have HO_7 := n0_; have HO_8 := n1_; have BK153 := n2_; have HB := n3_; clear n0_ n1_ n2_ n3_; (try (obtain ⟨hy40_, hz40_⟩ := Kd.R_celln false HO_7.out (t163 : Int) (of_decide_eq_true (by first | (with_reducible assumption) | assumption)) (of_decide_eq_true (by first | (with_reducible assumption) | assumption)))); (try (have HP40 := Kd.R_putg HO_7.out (t163 : Int) true)))); refine store_event (t := 4) (p := 67) (v := ?vo_w41) (w1 := (w37.setCell ⟨go8, (t163 : Int).toNat, none⟩ (.bool true))) ?hg ?ho ?hn ?hr ?_; (case ho => rfl); (case hg => rfl); (case hn => rfl); (case hr => first | (go_simp; done) | (go_simp; rfl)); intro w41 hw; have hg : w37.grownBy w41 (some go8) := (by rw [hw]; exact HP40.2); have hp_ : Kd.R Kd.bool 4 w41 w.heap.size (fun _ => True) (.slice (some ⟨go8, 0, none⟩) x7_2.length co8) y168 := (by rw [hw, Ny168.out]; exact HP40.1); clear HP40; have n0_ := Aside0.mk (hp_); have n1_ := Aside0.mk (Kd.R_over' (v := (.slice (some ⟨go8, 0, none⟩) x7_2.length co8)) (by (with_reducible repeat (first | apply Kd.R_alloc | apply Kd.R_drewN | apply Kd.R_drew)); exact HO_8.out) (Kd.R_typed HO_7.out) (by decide) hg); have n2_ := Aside0.mk (blk_grown (g := gb153) (o := .cells #[.slice A0_0 l0_0.length c0_0, .slice A0_1 l0_1.length c0_1, .int .i64 a0_2, .slice (some ad162) l0_3.length c0_3] 25 (0, 0)) (by (with_reducible repeat (first | refine blk_drewN ?_ _ | refine blk_drew ?_ | refine blk_alloc ?_ _)); exact BK153.out) hg (Kd.R_ne HO_7.out BK153.out (by decide))); have n3_ := Aside0.mk ((by rw [hw]; exact below_set (HB.out) GB8.out : Below w.heap.size w w41)); clear HO_7; clear HO_8; clear BK153; clear HB; have HO_7 := n0_; have HO_8 := n1_; have BK153 := n2_; have HB := n3_; clear n0_ n1_ n2_ n3_; clear hg hw hp_) | ((with_reducible refine gate_builtin (b := .append) (xs := #[.tmp 68, .tmp 70]) rfl ?_); at_builtin; refine Kd.R_append (Kd.int .i64) (w0 := w) w.heap.size rfl (.tmp 68) (.tmp 70) 33 3 (.int .i64 0) 8 rfl Tryd.underlying33 info3 rfl (by decide) (by omega) (.slice (some ad166) x8_2.length co39) x8_2 t163 [.int .i64 t163] (fun _ => True) (fun _ => False) rfl rfl ?aP (fun _ hk => hk.elim) ?aF ?aO ?aB ?aS ?aL ?_; (case aP => exact rfl); (case aB => exact (by repeat (first | (with_reducible first | exact HB.out | apply below_alloc | apply pw_below_drewN | apply below_drew1 | refine below_set ?_ GE153.out) | exact HB.out))); (case aF => exact (fun _ _ => trivial)); (case aO => exact (by (with_reducible repeat (first | apply Kd.R_alloc | apply Kd.R_drewN | apply Kd.R_drew)); exact HO_8.out)); (case aS => exact (below_size (by repeat (first | (with_reducible first | exact HB.out | apply below_alloc | apply pw_below_drewN | apply below_drew1 | refine below_set ?_ GE153.out) | exact HB.out)))); (case aL => have := LMc35.out; omega); intro v170 w42 ho hb hg hat; rw [← Ny169.out] at ho; have n0_ := Aside0.mk (Kd.R_over' (by (with_reducible repeat (first | apply Kd.R_alloc | apply Kd.R_drewN | apply Kd.R_drew)); exact HO_7.out) (Kd.R_typed (by (with_reducible repeat (first | apply Kd.R_alloc | apply Kd.R_drewN | apply Kd.R_drew)); exact HO_8.out)) (by decide) hg); have n1_ := Aside0.mk (blk_grown (g := gb153) (o := .cells #[.slice A0_0 l0_0.length c0_0, .slice A0_1 l0_1.length c0_1, .int .i64 a0_2, .slice (some ad162) l0_3.length c0_3] 25 (0, 0)) (by (with_reducible repeat (first | refine blk_drewN ?_ _ | refine blk_drew ?_ | refine blk_alloc ?_ _)); exact BK153.out) hg (Kd.R_ne HO_8.out BK153.out (by decide))); have n2_ := Aside0.mk (hb); have n3_ := Aside0.mk (ho); clear HO_7; clear BK153; clear HB; clear HO_8; have HO_7 := n0_; have BK153 := n1_; have HB := n2_; have HO171 := n3_; clear n0_ n1_ n2_ n3_; clear ho hb hg hat)))
                                        (try simp only [← hl7_2])
                                        go_roundg k2
                                        case measure => have := HK1.out; have := HK2.out; omega
                                        case rel => exact ⟨(y168), (y169), (wrap64 (x10_2 + 1)), (by first | rfl | (simp; done) | (simp [*]; done)), H', ⟨by have := HK1.out; have := HK2.out; omega⟩, ⟨by (try simp only [hl7_1]); (try simp only [hl7_2]); (with_reducible repeat (first | apply Kd.R_alloc | apply Kd.R_drewN | apply Kd.R_drew)); exact HO_7.out⟩, ⟨by (try simp only [hl7_1]); (try simp only [hl7_2]); (with_reducible repeat (first | apply Kd.R_alloc | apply Kd.R_drewN | apply Kd.R_drew)); exact HO171.out⟩, ⟨by (try simp only [hl7_1]); (try simp only [hl7_2]); (with_reducible repeat (first | refine blk_drewN ?_ _ | refine blk_drew ?_ | refine blk_alloc ?_ _)); exact BK153.out⟩, ⟨by repeat (first | (with_reducible first | exact HB.out | apply below_alloc | apply pw_below_drewN | apply below_drew1 | refine below_set ?_ GE153.out) | exact HB.out)⟩⟩
                                      · rw [if_neg c35] at H
                                        exact absurd H (by simp)
                                  · rw [if_neg c27] at H
                                    exact absurd H (by simp)
                                · rw [if_neg c26] at H
                                  exact absurd H (by simp)
                              · rw [if_neg c25] at H
                                have c25b0 : (((rd_T35 l0_3 x10_2).f0) == (rd x8_2 x9_1)) = false := beq_eq_false_iff_ne.mpr c25
                                have c25b1 : (((rd_T35 l0_3 x10_2).f0) != (rd x8_2 x9_1)) = true := bne_iff_ne.mpr c25
                                have H' := Aside0.mk H
                                clear H
                                have hcz43_0 : wr.cell? ⟨gb153, 0, none⟩ = some (.slice A0_0 l0_0.length c0_0) := (blk_cell BK153.out 0).trans rfl
                                have hcz43_1 : wr.cell? ⟨gb153, 1, none⟩ = some (.slice A0_1 l0_1.length c0_1) := (blk_cell BK153.out 1).trans rfl
                                have hcz43_2 : wr.cell? ⟨gb153, 2, none⟩ = some (.int .i64 a0_2) := (blk_cell BK153.out 2).trans rfl
                                have hcz43_3 : wr.cell? ⟨gb153, 3, none⟩ = some (.slice A0_3 l0_3.length c0_3) := (blk_cell BK153.out 3).trans rfl
                                have hfz43_0 := blk_frozen BK153.out 0
                                have hfz43_1 := blk_frozen BK153.out 1
                                have hfz43_2 := blk_frozen BK153.out 2
                                have hfz43_3 := blk_frozen BK153.out 3
                                have p162 : 0 ≤ (x10_2 : Int) := of_decide_eq_true (by first | (with_reducible assumption) | assumption)
                                have q162 : x10_2 < (l0_3.length : Int) := of_decide_eq_true (by first | (with_reducible assumption) | assumption)
                                obtain ⟨ad162, A162_1, c162_1, e162, hx162_0, hx162_1, hl162_1, hi162_1⟩ := at_T35 HR0_3.out x10_2 p162 q162
                                cases e162
                                replace hx162_0 := (HB.out.cell (World.block_lt_of_cell? w _ hx162_0)).trans hx162_0
                                replace hx162_1 := (HB.out.cell (World.block_lt_of_cell? w _ hx162_1)).trans hx162_1
                                have HR162_1 := Aside0.mk hi162_1
                                have HC162_1 := Aside0.mk hl162_1
                                clear hi162_1 hl162_1
                                replace p162 := eq_true p162
                                replace q162 := eq_true q162
                                go_wp2_with (first | (go_at_call 22; (with_reducible refine (dovetailref03_Renaming.calls ((rd_T35 l0_3 x10_2).f0) _ _ ((rd_T35 l0_3 x10_2).f1) t163 true _ ?side1 ?side2 A21.out).mono ?_); (case side1 => repeat (first | exact (Kd.C_below HR162_1.out HB.out) | (with_reducible refine Kd.C_alloc ?_ _) | (with_reducible refine Kd.C_drewN ?_ _) | (with_reducible refine Kd.C_drew ?_))); (case side2 => exact HC162_1.out); rintro e w44 ⟨rfl, hb⟩; have n0_ := Aside0.mk (Kd.R_below (by (with_reducible repeat (first | apply Kd.R_alloc | apply Kd.R_drewN | apply Kd.R_drew)); exact HO_7.out) hb); have n1_ := Aside0.mk (Kd.R_below (by (with_reducible repeat (first | apply Kd.R_alloc | apply Kd.R_drewN | apply Kd.R_drew)); exact HO_8.out) hb); have n2_ := Aside0.mk (blk_below (g := gb153) (o := .cells #[.slice A0_0 l0_0.length c0_0, .slice A0_1 l0_1.length c0_1, .int .i64 a0_2, .slice (some ad162) l0_3.length c0_3] 25 (0, 0)) (by (with_reducible repeat (first | refine blk_drewN ?_ _ | refine blk_drew ?_ | refine blk_alloc ?_ _)); exact BK153.out) hb); have n3_ := Aside0.mk (below_step (by repeat (first | (with_reducible first | exact HB.out | apply below_alloc | apply pw_below_drewN | apply below_drew1 | refine below_set ?_ GE153.out) | exact HB.out)) hb); clear HO_7; clear HO_8; clear BK153; clear HB; have HO_7 := n0_; have HO_8 := n1_; have BK153 := n2_; have HB := n3_; clear n0_ n1_ n2_ n3_; (try clear hb); (try clear hb2); (try clear hk); (try clear hi); have hcz45_0 : w44.cell? ⟨gb153, 0, none⟩ = some (.slice A0_0 l0_0.length c0_0) := (blk_cell BK153.out 0).trans rfl; have hcz45_1 : w44.cell? ⟨gb153, 1, none⟩ = some (.slice A0_1 l0_1.length c0_1) := (blk_cell BK153.out 1).trans rfl; have hcz45_2 : w44.cell? ⟨gb153, 2, none⟩ = some (.int .i64 a0_2) := (blk_cell BK153.out 2).trans rfl; have hcz45_3 : w44.cell? ⟨gb153, 3, none⟩ = some (.slice (some ad162) l0_3.length c0_3) := (blk_cell BK153.out 3).trans rfl; have hfz45_0 := blk_frozen BK153.out 0; have hfz45_1 := blk_frozen BK153.out 1; have hfz45_2 := blk_frozen BK153.out 2; have hfz45_3 := blk_frozen BK153.out 3; have p165 : 0 ≤ (x10_2 : Int) := of_decide_eq_true (by first | (with_reducible assumption) | assumption); have q165 : x10_2 < (l0_3.length : Int) := of_decide_eq_true (by first | (with_reducible assumption) | assumption); obtain ⟨ad165, A165_1, c165_1, e165, hx165_0, hx165_1, hl165_1, hi165_1⟩ := at_T35 HR0_3.out x10_2 p165 q165; obtain rfl : ad162 = ad165 := (by injection e165); replace hx165_0 := (HB.out.cell (World.block_lt_of_cell? w _ hx165_0)).trans hx165_0; replace hx165_1 := (HB.out.cell (World.block_lt_of_cell? w _ hx165_1)).trans hx165_1; have HR165_1 := Aside0.mk hi165_1; have HC165_1 := Aside0.mk hl165_1; clear hi165_1 hl165_1; replace p165 := eq_true p165; replace q165 := eq_true q165; obtain ⟨Ao46, co46, eo46⟩ := Kd.R_slice HO_8.out; subst eo46; have p166 : 0 ≤ (x9_1 : Int) := of_decide_eq_true (by first | (with_reducible assumption) | assumption); have q166 : x9_1 < (x8_2.length : Int) := of_decide_eq_true (by first | (with_reducible assumption) | assumption); obtain ⟨ad166, e166, hx166_0⟩ := Kd.at_int (Kd.R_reads' HO_8.out).2.2 x9_1 p166 q166; cases e166; replace p166 := eq_true p166; replace q166 := eq_true q166))
                                repeat (go_quiet (first | (go_at_call 22; (with_reducible refine (dovetailref03_Renaming.calls ((rd_T35 l0_3 x10_2).f0) _ _ ((rd_T35 l0_3 x10_2).f1) t163 true _ ?side1 ?side2 A21.out).mono ?_); (case side1 => repeat (first | exact (Kd.C_below HR162_1.out HB.out) | (with_reducible refine Kd.C_alloc ?_ _) | (with_reducible refine Kd.C_drewN ?_ _) | (with_reducible refine Kd.C_drew ?_))); (case side2 => exact HC162_1.out); rintro e w44 ⟨rfl, hb⟩; have n0_ := Aside0.mk (Kd.R_below (by (with_reducible repeat (first | apply Kd.R_alloc | apply Kd.R_drewN | apply Kd.R_drew)); exact HO_7.out) hb); have n1_ := Aside0.mk (Kd.R_below (by (with_reducible repeat (first | apply Kd.R_alloc | apply Kd.R_drewN | apply Kd.R_drew)); exact HO_8.out) hb); have n2_ := Aside0.mk (blk_below (g := gb153) (o := .cells #[.slice A0_0 l0_0.length c0_0, .slice A0_1 l0_1.length c0_1, .int .i64 a0_2, .slice (some ad162) l0_3.length c0_3] 25 (0, 0)) (by (with_reducible repeat (first | refine blk_drewN ?_ _ | refine blk_drew ?_ | refine blk_alloc ?_ _)); exact BK153.out) hb); have n3_ := Aside0.mk (below_step (by repeat (first | (with_reducible first | exact HB.out | apply below_alloc | apply pw_below_drewN | apply below_drew1 | refine below_set ?_ GE153.out) | exact HB.out)) hb); clear HO_7; clear HO_8; clear BK153; clear HB; have HO_7 := n0_; have HO_8 := n1_; have BK153 := n2_; have HB := n3_; clear n0_ n1_ n2_ n3_; (try clear hb); (try clear hb2); (try clear hk); (try clear hi); have hcz45_0 : w44.cell? ⟨gb153, 0, none⟩ = some (.slice A0_0 l0_0.length c0_0) := (blk_cell BK153.out 0).trans rfl; have hcz45_1 : w44.cell? ⟨gb153, 1, none⟩ = some (.slice A0_1 l0_1.length c0_1) := (blk_cell BK153.out 1).trans rfl; have hcz45_2 : w44.cell? ⟨gb153, 2, none⟩ = some (.int .i64 a0_2) := (blk_cell BK153.out 2).trans rfl; have hcz45_3 : w44.cell? ⟨gb153, 3, none⟩ = some (.slice (some ad162) l0_3.length c0_3) := (blk_cell BK153.out 3).trans rfl; have hfz45_0 := blk_frozen BK153.out 0; have hfz45_1 := blk_frozen BK153.out 1; have hfz45_2 := blk_frozen BK153.out 2; have hfz45_3 := blk_frozen BK153.out 3; have p165 : 0 ≤ (x10_2 : Int) := of_decide_eq_true (by first | (with_reducible assumption) | assumption); have q165 : x10_2 < (l0_3.length : Int) := of_decide_eq_true (by first | (with_reducible assumption) | assumption); obtain ⟨ad165, A165_1, c165_1, e165, hx165_0, hx165_1, hl165_1, hi165_1⟩ := at_T35 HR0_3.out x10_2 p165 q165; obtain rfl : ad162 = ad165 := (by injection e165); replace hx165_0 := (HB.out.cell (World.block_lt_of_cell? w _ hx165_0)).trans hx165_0; replace hx165_1 := (HB.out.cell (World.block_lt_of_cell? w _ hx165_1)).trans hx165_1; have HR165_1 := Aside0.mk hi165_1; have HC165_1 := Aside0.mk hl165_1; clear hi165_1 hl165_1; replace p165 := eq_true p165; replace q165 := eq_true q165; obtain ⟨Ao46, co46, eo46⟩ := Kd.R_slice HO_8.out; subst eo46; have p166 : 0 ≤ (x9_1 : Int) := of_decide_eq_true (by first | (with_reducible assumption) | assumption); have q166 : x9_1 < (x8_2.length : Int) := of_decide_eq_true (by first | (with_reducible assumption) | assumption); obtain ⟨ad166, e166, hx166_0⟩ := Kd.at_int (Kd.R_reads' HO_8.out).2.2 x9_1 p166 q166; cases e166; replace p166 := eq_true p166; replace q166 := eq_true q166)); try go_wp2_with (first | (go_at_call 22; (with_reducible refine (dovetailref03_Renaming.calls ((rd_T35 l0_3 x10_2).f0) _ _ ((rd_T35 l0_3 x10_2).f1) t163 true _ ?side1 ?side2 A21.out).mono ?_); (case side1 => repeat (first | exact (Kd.C_below HR162_1.out HB.out) | (with_reducible refine Kd.C_alloc ?_ _) | (with_reducible refine Kd.C_drewN ?_ _) | (with_reducible refine Kd.C_drew ?_))); (case side2 => exact HC162_1.out); rintro e w44 ⟨rfl, hb⟩; have n0_ := Aside0.mk (Kd.R_below (by (with_reducible repeat (first | apply Kd.R_alloc | apply Kd.R_drewN | apply Kd.R_drew)); exact HO_7.out) hb); have n1_ := Aside0.mk (Kd.R_below (by (with_reducible repeat (first | apply Kd.R_alloc | apply Kd.R_drewN | apply Kd.R_drew)); exact HO_8.out) hb); have n2_ := Aside0.mk (blk_below (g := gb153) (o := .cells #[.slice A0_0 l0_0.length c0_0, .slice A0_1 l0_1.length c0_1, .int .i64 a0_2, .slice (some ad162) l0_3.length c0_3] 25 (0, 0)) (by (with_reducible repeat (first | refine blk_drewN ?_ _ | refine blk_drew ?_ | refine blk_alloc ?_ _)); exact BK153.out) hb); have n3_ := Aside0.mk (below_step (by repeat (first | (with_reducible first | exact HB.out | apply below_alloc | apply pw_below_drewN | apply below_drew1 | refine below_set ?_ GE153.out) | exact HB.out)) hb); clear HO_7; clear HO_8; clear BK153; clear HB; have HO_7 := n0_; have HO_8 := n1_; have BK153 := n2_; have HB := n3_; clear n0_ n1_ n2_ n3_; (try clear hb); (try clear hb2); (try clear hk); (try clear hi); have hcz45_0 : w44.cell? ⟨gb153, 0, none⟩ = some (.slice A0_0 l0_0.length c0_0) := (blk_cell BK153.out 0).trans rfl; have hcz45_1 : w44.cell? ⟨gb153, 1, none⟩ = some (.slice A0_1 l0_1.length c0_1) := (blk_cell BK153.out 1).trans rfl; have hcz45_2 : w44.cell? ⟨gb153, 2, none⟩ = some (.int .i64 a0_2) := (blk_cell BK153.out 2).trans rfl; have hcz45_3 : w44.cell? ⟨gb153, 3, none⟩ = some (.slice (some ad162) l0_3.length c0_3) := (blk_cell BK153.out 3).trans rfl; have hfz45_0 := blk_frozen BK153.out 0; have hfz45_1 := blk_frozen BK153.out 1; have hfz45_2 := blk_frozen BK153.out 2; have hfz45_3 := blk_frozen BK153.out 3; have p165 : 0 ≤ (x10_2 : Int) := of_decide_eq_true (by first | (with_reducible assumption) | assumption); have q165 : x10_2 < (l0_3.length : Int) := of_decide_eq_true (by first | (with_reducible assumption) | assumption); obtain ⟨ad165, A165_1, c165_1, e165, hx165_0, hx165_1, hl165_1, hi165_1⟩ := at_T35 HR0_3.out x10_2 p165 q165; obtain rfl : ad162 = ad165 := (by injection e165); replace hx165_0 := (HB.out.cell (World.block_lt_of_cell? w _ hx165_0)).trans hx165_0; replace hx165_1 := (HB.out.cell (World.block_lt_of_cell? w _ hx165_1)).trans hx165_1; have HR165_1 := Aside0.mk hi165_1; have HC165_1 := Aside0.mk hl165_1; clear hi165_1 hl165_1; replace p165 := eq_true p165; replace q165 := eq_true q165; obtain ⟨Ao46, co46, eo46⟩ := Kd.R_slice HO_8.out; subst eo46; have p166 : 0 ≤ (x9_1 : Int) := of_decide_eq_true (by first | (with_reducible assumption) | assumption); have q166 : x9_1 < (x8_2.length : Int) := of_decide_eq_true (by first | (with_reducible assumption) | assumption); obtain ⟨ad166, e166, hx166_0⟩ := Kd.at_int (Kd.R_reads' HO_8.out).2.2 x9_1 p166 q166; cases e166; replace p166 := eq_true p166; replace q166 := eq_true q166)))
                                (try simp only [← hl7_2])
                                go_roundg k2
                                case measure => have := HK1.out; have := HK2.out; omega
                                case rel => exact ⟨(x7_2), (x8_2), (wrap64 (x10_2 + 1)), (by first | rfl | (simp; done) | (simp [*]; done)), H', ⟨by have := HK1.out; have := HK2.out; omega⟩, ⟨by (try simp only [hl7_1]); (try simp only [hl7_2]); (with_reducible repeat (first | apply Kd.R_alloc | apply Kd.R_drewN | apply Kd.R_drew)); exact HO_7.out⟩, ⟨by (try simp only [hl7_1]); (try simp only [hl7_2]); (with_reducible repeat (first | apply Kd.R_alloc | apply Kd.R_drewN | apply Kd.R_drew)); exact HO_8.out⟩, ⟨by (try simp only [hl7_1]); (try simp only [hl7_2]); (with_reducible repeat (first | refine blk_drewN ?_ _ | refine blk_drew ?_ | refine blk_alloc ?_ _)); exact BK153.out⟩, ⟨by repeat (first | (with_reducible first | exact HB.out | apply below_alloc | apply pw_below_drewN | apply below_drew1 | refine below_set ?_ GE153.out) | exact HB.out)⟩⟩
                            · rw [if_neg c24] at H
                              exact absurd H (by simp)
                          · rw [if_neg c23] at H
                            exact absurd H (by simp)
                        · replace c22 := Bool.eq_false_iff.mpr c22
                          subst c22
                          have H1 : (dovetailref03_Comes.l1 k2 a2 x7_2 x8_2 x9_1 (wrap64 (x10_2 + 1)) l0_0 l0_1 a0_2 l0_3) = some r := by rw [if_neg (show ¬ (false = true) by decide)] at H; exact H
                          clear H
                          have H := H1
                          clear H1
                          have H' := Aside0.mk H
                          clear H
                          have hcz47_0 : wr.cell? ⟨gb153, 0, none⟩ = some (.slice A0_0 l0_0.length c0_0) := (blk_cell BK153.out 0).trans rfl
                          have hcz47_1 : wr.cell? ⟨gb153, 1, none⟩ = some (.slice A0_1 l0_1.length c0_1) := (blk_cell BK153.out 1).trans rfl
                          have hcz47_2 : wr.cell? ⟨gb153, 2, none⟩ = some (.int .i64 a0_2) := (blk_cell BK153.out 2).trans rfl
                          have hcz47_3 : wr.cell? ⟨gb153, 3, none⟩ = some (.slice A0_3 l0_3.length c0_3) := (blk_cell BK153.out 3).trans rfl
                          have hfz47_0 := blk_frozen BK153.out 0
                          have hfz47_1 := blk_frozen BK153.out 1
                          have hfz47_2 := blk_frozen BK153.out 2
                          have hfz47_3 := blk_frozen BK153.out 3
                          have p162 : 0 ≤ (x10_2 : Int) := of_decide_eq_true (by first | (with_reducible assumption) | assumption)
                          have q162 : x10_2 < (l0_3.length : Int) := of_decide_eq_true (by first | (with_reducible assumption) | assumption)
                          obtain ⟨ad162, A162_1, c162_1, e162, hx162_0, hx162_1, hl162_1, hi162_1⟩ := at_T35 HR0_3.out x10_2 p162 q162
                          cases e162
                          replace hx162_0 := (HB.out.cell (World.block_lt_of_cell? w _ hx162_0)).trans hx162_0
                          replace hx162_1 := (HB.out.cell (World.block_lt_of_cell? w _ hx162_1)).trans hx162_1
                          have HR162_1 := Aside0.mk hi162_1
                          have HC162_1 := Aside0.mk hl162_1
                          clear hi162_1 hl162_1
                          replace p162 := eq_true p162
                          replace q162 := eq_true q162
                          go_wp2_with (first | (go_at_call 22; (with_reducible refine (dovetailref03_Renaming.calls ((rd_T35 l0_3 x10_2).f0) _ _ ((rd_T35 l0_3 x10_2).f1) t163 false _ ?side1 ?side2 A21.out).mono ?_); (case side1 => repeat (first | exact (Kd.C_below HR162_1.out HB.out) | (with_reducible refine Kd.C_alloc ?_ _) | (with_reducible refine Kd.C_drewN ?_ _) | (with_reducible refine Kd.C_drew ?_))); (case side2 => exact HC162_1.out); rintro e w48 ⟨rfl, hb⟩; have n0_ := Aside0.mk (Kd.R_below (by (with_reducible repeat (first | apply Kd.R_alloc | apply Kd.R_drewN | apply Kd.R_drew)); exact HO_7.out) hb); have n1_ := Aside0.mk (Kd.R_below (by (with_reducible repeat (first | apply Kd.R_alloc | apply Kd.R_drewN | apply Kd.R_drew)); exact HO_8.out) hb); have n2_ := Aside0.mk (blk_below (g := gb153) (o := .cells #[.slice A0_0 l0_0.length c0_0, .slice A0_1 l0_1.length c0_1, .int .i64 a0_2, .slice (some ad162) l0_3.length c0_3] 25 (0, 0)) (by (with_reducible repeat (first | refine blk_drewN ?_ _ | refine blk_drew ?_ | refine blk_alloc ?_ _)); exact BK153.out) hb); have n3_ := Aside0.mk (below_step (by repeat (first | (with_reducible first | exact HB.out | apply below_alloc | apply pw_below_drewN | apply below_drew1 | refine below_set ?_ GE153.out) | exact HB.out)) hb); clear HO_7; clear HO_8; clear BK153; clear HB; have HO_7 := n0_; have HO_8 := n1_; have BK153 := n2_; have HB := n3_; clear n0_ n1_ n2_ n3_; (try clear hb); (try clear hb2); (try clear hk); (try clear hi)))
                          repeat (go_quiet (first | (go_at_call 22; (with_reducible refine (dovetailref03_Renaming.calls ((rd_T35 l0_3 x10_2).f0) _ _ ((rd_T35 l0_3 x10_2).f1) t163 false _ ?side1 ?side2 A21.out).mono ?_); (case side1 => repeat (first | exact (Kd.C_below HR162_1.out HB.out) | (with_reducible refine Kd.C_alloc ?_ _) | (with_reducible refine Kd.C_drewN ?_ _) | (with_reducible refine Kd.C_drew ?_))); (case side2 => exact HC162_1.out); rintro e w48 ⟨rfl, hb⟩; have n0_ := Aside0.mk (Kd.R_below (by (with_reducible repeat (first | apply Kd.R_alloc | apply Kd.R_drewN | apply Kd.R_drew)); exact HO_7.out) hb); have n1_ := Aside0.mk (Kd.R_below (by (with_reducible repeat (first | apply Kd.R_alloc | apply Kd.R_drewN | apply Kd.R_drew)); exact HO_8.out) hb); have n2_ := Aside0.mk (blk_below (g := gb153) (o := .cells #[.slice A0_0 l0_0.length c0_0, .slice A0_1 l0_1.length c0_1, .int .i64 a0_2, .slice (some ad162) l0_3.length c0_3] 25 (0, 0)) (by (with_reducible repeat (first | refine blk_drewN ?_ _ | refine blk_drew ?_ | refine blk_alloc ?_ _)); exact BK153.out) hb); have n3_ := Aside0.mk (below_step (by repeat (first | (with_reducible first | exact HB.out | apply below_alloc | apply pw_below_drewN | apply below_drew1 | refine below_set ?_ GE153.out) | exact HB.out)) hb); clear HO_7; clear HO_8; clear BK153; clear HB; have HO_7 := n0_; have HO_8 := n1_; have BK153 := n2_; have HB := n3_; clear n0_ n1_ n2_ n3_; (try clear hb); (try clear hb2); (try clear hk); (try clear hi))); try go_wp2_with (first | (go_at_call 22; (with_reducible refine (dovetailref03_Renaming.calls ((rd_T35 l0_3 x10_2).f0) _ _ ((rd_T35 l0_3 x10_2).f1) t163 false _ ?side1 ?side2 A21.out).mono ?_); (case side1 => repeat (first | exact (Kd.C_below HR162_1.out HB.out) | (with_reducible refine Kd.C_alloc ?_ _) | (with_reducible refine Kd.C_drewN ?_ _) | (with_reducible refine Kd.C_drew ?_))); (case side2 => exact HC162_1.out); rintro e w48 ⟨rfl, hb⟩; have n0_ := Aside0.mk (Kd.R_below (by (with_reducible repeat (first | apply Kd.R_alloc | apply Kd.R_drewN | apply Kd.R_drew)); exact HO_7.out) hb); have n1_ := Aside0.mk (Kd.R_below (by (with_reducible repeat (first | apply Kd.R_alloc | apply Kd.R_drewN | apply Kd.R_drew)); exact HO_8.out) hb); have n2_ := Aside0.mk (blk_below (g := gb153) (o := .cells #[.slice A0_0 l0_0.length c0_0, .slice A0_1 l0_1.length c0_1, .int .i64 a0_2, .slice (some ad162) l0_3.length c0_3] 25 (0, 0)) (by (with_reducible repeat (first | refine blk_drewN ?_ _ | refine blk_drew ?_ | refine blk_alloc ?_ _)); exact BK153.out) hb); have n3_ := Aside0.mk (below_step (by repeat (first | (with_reducible first | exact HB.out | apply below_alloc | apply pw_below_drewN | apply below_drew1 | refine below_set ?_ GE153.out) | exact HB.out)) hb); clear HO_7; clear HO_8; clear BK153; clear HB; have HO_7 := n0_; have HO_8 := n1_; have BK153 := n2_; have HB := n3_; clear n0_ n1_ n2_ n3_; (try clear hb); (try clear hb2); (try clear hk); (try clear hi))))
                          (try simp only [← hl7_2])
                          go_roundg k2
                          case measure => have := HK1.out; have := HK2.out; omega
                          case rel => exact ⟨(x7_2), (x8_2), (wrap64 (x10_2 + 1)), (by first | rfl | (simp; done) | (simp [*]; done)), H', ⟨by have := HK1.out; have := HK2.out; omega⟩, ⟨by (try simp only [hl7_1]); (try simp only [hl7_2]); (with_reducible repeat (first | apply Kd.R_alloc | apply Kd.R_drewN | apply Kd.R_drew)); exact HO_7.out⟩, ⟨by (try simp only [hl7_1]); (try simp only [hl7_2]); (with_reducible repeat (first | apply Kd.R_alloc | apply Kd.R_drewN | apply Kd.R_drew)); exact HO_8.out⟩, ⟨by (try simp only [hl7_1]); (try simp only [hl7_2]); (with_reducible repeat (first | refine blk_drewN ?_ _ | refine blk_drew ?_ | refine blk_alloc ?_ _)); exact BK153.out⟩, ⟨by repeat (first | (with_reducible first | exact HB.out | apply below_alloc | apply pw_below_drewN | apply below_drew1 | refine below_set ?_ GE153.out) | exact HB.out)⟩⟩
                      · rw [if_neg c20] at H
                        exact absurd H (by simp)
                    · rw [if_neg c19] at H
                      have c19b0 : decide (x10_2 < (l0_3.length : Int)) = false := decide_eq_false c19
                      clear c19
                      have H' := Aside0.mk H
                      clear H
                      have hcz49_0 : wr.cell? ⟨gb153, 0, none⟩ = some (.slice A0_0 l0_0.length c0_0) := (blk_cell BK153.out 0).trans rfl
                      have hcz49_1 : wr.cell? ⟨gb153, 1, none⟩ = some (.slice A0_1 l0_1.length c0_1) := (blk_cell BK153.out 1).trans rfl
                      have hcz49_2 : wr.cell? ⟨gb153, 2, none⟩ = some (.int .i64 a0_2) := (blk_cell BK153.out 2).trans rfl
                      have hcz49_3 : wr.cell? ⟨gb153, 3, none⟩ = some (.slice A0_3 l0_3.length c0_3) := (blk_cell BK153.out 3).trans rfl
                      have hfz49_0 := blk_frozen BK153.out 0
                      have hfz49_1 := blk_frozen BK153.out 1
                      have hfz49_2 := blk_frozen BK153.out 2
                      have hfz49_3 := blk_frozen BK153.out 3
                      go_wp2
                      repeat (go_quiet (fail); try go_wp2)
                      (try simp only [← hl7_1, ← hl7_2])
                      go_roundg k2
                      case measure => have := HK1.out; have := HK2.out; omega
                      case rel => exact ⟨(x7_2), (x8_2), (wrap64 (x9_1 + 1)), (by first | rfl | (simp; done) | (simp [*]; done)), H', ⟨by have := HK1.out; have := HK2.out; omega⟩, ⟨by (try simp only [hl7_1]); (try simp only [hl7_2]); (with_reducible repeat (first | apply Kd.R_alloc | apply Kd.R_drewN | apply Kd.R_drew)); exact HO_7.out⟩, ⟨by (try simp only [hl7_1]); (try simp only [hl7_2]); (with_reducible repeat (first | apply Kd.R_alloc | apply Kd.R_drewN | apply Kd.R_drew)); exact HO_8.out⟩, ⟨by (try simp only [hl7_1]); (try simp only [hl7_2]); (with_reducible repeat (first | refine blk_drewN ?_ _ | refine blk_drew ?_ | refine blk_alloc ?_ _)); exact BK153.out⟩, ⟨by repeat (first | (with_reducible first | exact HB.out | apply below_alloc | apply pw_below_drewN | apply below_drew1 | refine below_set ?_ GE153.out) | exact HB.out)⟩⟩
              · rw [if_neg c17] at H
                have c17b0 : decide (x9_1 < (x8_1.length : Int)) = false := decide_eq_false c17
                clear c17
                by_cases c50 : 0 ≤ a2
                · rw [if_pos c50] at H
                  have c50b0 : decide (0 ≤ a2) = true := decide_eq_true c50
                  clear c50
                  by_cases c51 : a2 < (x7_1.length : Int)
                  · rw [if_pos c51] at H
                    have c51b0 : decide (a2 < (x7_1.length : Int)) = true := decide_eq_true c51
                    clear c51
                    obtain rfl := Option.some.inj H
                    obtain ⟨Ao52, co52, eo52⟩ := Kd.R_slice HO_8.out
                    subst eo52
                    have p161 : 0 ≤ (a2 : Int) := of_decide_eq_true (by first | (with_reducible assumption) | assumption)
                    have q161 : a2 < (x7_1.length : Int) := of_decide_eq_true (by first | (with_reducible assumption) | assumption)
                    obtain ⟨ad161, e161, hx161_0⟩ := Kd.at_bool (Kd.R_reads' HO_7.out).2.2 a2 p161 q161
                    obtain rfl : (⟨go8, 0, none⟩ : Addr) = ad161 := (by injection e161)
                    (first | simp only [add_plain] at hx161_0 | simp only [add_at] at hx161_0 | simp only [Addr.add, Nat.zero_add] at hx161_0 | skip)
                    replace p161 := eq_true p161
                    replace q161 := eq_true q161
                    go_wp2
                    repeat (go_quiet (fail); try go_wp2)
                    go_ret
                    exact ⟨by first | rfl | (simp [errW_none, errW_some] <;> rfl) | (simp [*, errW_none, errW_some] <;> rfl), by repeat (first | (with_reducible first | exact HB.out | apply below_alloc | apply pw_below_drewN | apply below_drew1 | refine below_set ?_ GE153.out) | exact HB.out)⟩
                  · rw [if_neg c51] at H
                    exact absurd H (by simp)
                · rw [if_neg c50] at H
                  exact absurd H (by simp)
        · rw [if_neg c7] at H
          exact absurd H (by simp)
      · rw [if_neg c6] at H
        exact absurd H (by simp)
    · rw [if_neg c5] at H
      exact absurd H (by simp)
  · rw [if_neg c4] at H
    exact absurd H (by simp)

/-! ### dovetailref03_Above: function 24 -/
mutual
def dovetailref03_Above.l0 : Nat → List Int → Int → List ByteArray → List ByteArray → Int → List (S35) → Option (List Int)
  | 0, _, _, _, _, _, _ => none
  | k + 1, x3, x6, x173000, x173001, x173002, x173003 => if x6 < (x173001.length : Int) then (dovetailref03_Above.l1 k x3 x6 0 0 x173000 x173001 x173002 x173003) else (some x3)
def dovetailref03_Above.l1 : Nat → List Int → Int → Int → Int → List ByteArray → List ByteArray → Int → List (S35) → Option (List Int)
  | 0, _, _, _, _, _, _, _, _ => none
  | k + 1, x3, x6, x7, x8, x173000, x173001, x173002, x173003 => if x8 < (x173001.length : Int) then ((dovetailref03_Comes.f k x173000 x173001 x173002 x173003 x8 x6).bind fun t175 => (if t175 = true then (if 0 ≤ (IntKind.u64.wrap (x8)) then (dovetailref03_Above.l1 k x3 x6 (Go.bits .or .u64 x7 (shl .u64 1 (IntKind.u64.wrap (x8)))) (wrap64 (x8 + 1)) x173000 x173001 x173002 x173003) else (none)) else (dovetailref03_Above.l1 k x3 x6 x7 (wrap64 (x8 + 1)) x173000 x173001 x173002 x173003))) else (if x3.length < 17592186044416 then (dovetailref03_Above.l0 k (x3 ++ [x7]) (wrap64 (x6 + 1)) x173000 x173001 x173002 x173003) else (none))
end
def dovetailref03_Above.f (k : Nat) (l0_0 : List ByteArray) (l0_1 : List ByteArray) (a0_2 : Int) (l0_3 : List (S35)) : Option (List Int) := (dovetailref03_Check.f k l0_0 l0_1 a0_2 l0_3).bind fun bt173 => (if bt173.1 = 0 then (dovetailref03_Above.l0 k ([] : List Int) 0 l0_0 l0_1 a0_2 l0_3) else (some ([] : List Int)))
theorem dovetailref03_Above.mono_l : ∀ k, (∀ y0 y1 y2 y3 y4 y5, LeO (dovetailref03_Above.l0 k y0 y1 y2 y3 y4 y5) (dovetailref03_Above.l0 (k + 1) y0 y1 y2 y3 y4 y5)) ∧ (∀ y0 y1 y2 y3 y4 y5 y6 y7, LeO (dovetailref03_Above.l1 k y0 y1 y2 y3 y4 y5 y6 y7) (dovetailref03_Above.l1 (k + 1) y0 y1 y2 y3 y4 y5 y6 y7))
  | 0 => ⟨fun _ _ _ _ _ _ r h => by simp [dovetailref03_Above.l0] at h, fun _ _ _ _ _ _ _ _ r h => by simp [dovetailref03_Above.l1] at h⟩
  | k + 1 => by
    obtain ⟨ih0, ih1⟩ := dovetailref03_Above.mono_l k
    refine ⟨?_, ?_⟩
    · intro y0 y1 y2 y3 y4 y5
      unfold dovetailref03_Above.l0
      repeat' first
      | (with_reducible exact ih0 _ _ _ _ _ _)
      | (with_reducible exact ih1 _ _ _ _ _ _ _ _)
      | (with_reducible exact dovetailref03_Check.mono _ _ _ _ _)
      | (with_reducible exact dovetailref03_Comes.mono _ _ _ _ _ _ _)
      | (with_reducible exact LeO.refl _)
      | (with_reducible exact LeO.none _)
      | (with_reducible refine LeO.ite ?_ ?_)
      | (with_reducible refine LeO.bind ?_ (fun _ => ?_))
      | exact ih0 _ _ _ _ _ _
      | exact ih1 _ _ _ _ _ _ _ _
      | exact dovetailref03_Check.mono _ _ _ _ _
      | exact dovetailref03_Comes.mono _ _ _ _ _ _ _
      | exact LeO.none _
      | refine LeO.ite ?_ ?_
      | refine LeO.bind ?_ (fun _ => ?_)
    · intro y0 y1 y2 y3 y4 y5 y6 y7
      unfold dovetailref03_Above.l1
      repeat' first
      | (with_reducible exact ih0 _ _ _ _ _ _)
      | (with_reducible exact ih1 _ _ _ _ _ _ _ _)
      | (with_reducible exact dovetailref03_Check.mono _ _ _ _ _)
      | (with_reducible exact dovetailref03_Comes.mono _ _ _ _ _ _ _)
      | (with_reducible exact LeO.refl _)
      | (with_reducible exact LeO.none _)
      | (with_reducible refine LeO.ite ?_ ?_)
      | (with_reducible refine LeO.bind ?_ (fun _ => ?_))
      | exact ih0 _ _ _ _ _ _
      | exact ih1 _ _ _ _ _ _ _ _
      | exact dovetailref03_Check.mono _ _ _ _ _
      | exact dovetailref03_Comes.mono _ _ _ _ _ _ _
      | exact LeO.none _
      | refine LeO.ite ?_ ?_
      | refine LeO.bind ?_ (fun _ => ?_)
theorem dovetailref03_Above.mono : ∀ a0 a1 a2 a3 k, LeO (dovetailref03_Above.f k a0 a1 a2 a3) (dovetailref03_Above.f (k + 1) a0 a1 a2 a3) := by
  intro a0 a1 a2 a3 k
  obtain ⟨ih0, ih1⟩ := dovetailref03_Above.mono_l k
  unfold dovetailref03_Above.f
  repeat' first
      | (with_reducible exact ih0 _ _ _ _ _ _)
      | (with_reducible exact ih1 _ _ _ _ _ _ _ _)
      | (with_reducible exact dovetailref03_Check.mono _ _ _ _ _)
      | (with_reducible exact dovetailref03_Comes.mono _ _ _ _ _ _ _)
      | (with_reducible exact LeO.refl _)
      | (with_reducible exact LeO.none _)
      | (with_reducible refine LeO.ite ?_ ?_)
      | (with_reducible refine LeO.bind ?_ (fun _ => ?_))
      | exact ih0 _ _ _ _ _ _
      | exact ih1 _ _ _ _ _ _ _ _
      | exact dovetailref03_Check.mono _ _ _ _ _
      | exact dovetailref03_Comes.mono _ _ _ _ _ _ _
      | exact LeO.none _
      | refine LeO.ite ?_ ?_
      | refine LeO.bind ?_ (fun _ => ?_)
set_option maxHeartbeats 8000000 in
set_option maxRecDepth 100000 in
theorem dovetailref03_Above.calls (k : Nat) (A0_0 : Option Addr) (c0_0 : Nat) (l0_0 : List ByteArray) (A0_1 : Option Addr) (c0_1 : Nat) (l0_1 : List ByteArray) (a0_2 : Int) (A0_3 : Option Addr) (c0_3 : Nat) (l0_3 : List (S35)) (r : List Int) (w : World) (hr0_0 : Kd.C Kd.string w A0_0 l0_0.length l0_0) (hc0_0 : l0_0.length ≤ c0_0) (hr0_1 : Kd.C Kd.string w A0_1 l0_1.length l0_1) (hc0_1 : l0_1.length ≤ c0_1) (hr0_3 : Kd.C k35 w A0_3 l0_3.length l0_3) (hc0_3 : l0_3.length ≤ c0_3) (h : dovetailref03_Above.f k l0_0 l0_1 a0_2 l0_3 = some r) :
    Calls Tryd.prog 24 #[.agg #[.slice A0_0 l0_0.length c0_0, .slice A0_1 l0_1.length c0_1, .int .i64 a0_2, .slice A0_3 l0_3.length c0_3]] w fun e w' => ∃ v0_ : Value, e = .returned (v0_) ∧ Kd.R (Kd.int .u64) 47 w' w.heap.size (fun _ => True) v0_ r ∧ Below w.heap.size w w' := by
  have hu25 := Tryd.underlying25
  have HR0_0 := Aside0.mk hr0_0
  have HC0_0 := Aside0.mk hc0_0
  clear hr0_0 hc0_0
  have HR0_1 := Aside0.mk hr0_1
  have HC0_1 := Aside0.mk hc0_1
  clear hr0_1 hc0_1
  have HR0_3 := Aside0.mk hr0_3
  have HC0_3 := Aside0.mk hc0_3
  clear hr0_3 hc0_3
  have HB := Aside0.mk (Below.refl w.heap.size w)
  have H : ((dovetailref03_Check.f k l0_0 l0_1 a0_2 l0_3).bind fun bt173 => (if bt173.1 = 0 then (dovetailref03_Above.l0 k ([] : List Int) 0 l0_0 l0_1 a0_2 l0_3) else (some ([] : List Int)))) = some r := h
  clear h
  replace H := Option.bind_eq_some_iff.mp H
  obtain ⟨⟨t173, t174⟩, A20, H⟩ := H
  replace H : (if t173 = 0 then (dovetailref03_Above.l0 k ([] : List Int) 0 l0_0 l0_1 a0_2 l0_3) else (some ([] : List Int))) = some r := H
  have A2 := Aside0.mk A20
  clear A20
  by_cases c3 : t173 = 0
  · rw [if_pos c3] at H
    have c3b0 : (t173 == 0) = true := beq_iff_eq.mpr c3
    have c3b1 : (t173 != 0) = false := bne_eq_false_iff_eq.mpr c3
    clear c3
    have H' := Aside0.mk H
    clear H
    go_enter Tryd.func24, Tryd.ntmps24
    go_wp2_with (first | ((with_reducible refine gate_dst (N := 1) rfl ?_); refine box_event ?hg (N := 1) ?hd (cs := #[.slice A0_0 l0_0.length c0_0, .slice A0_1 l0_1.length c0_1, .int .i64 a0_2, .slice A0_3 l0_3.length c0_3]) (t := 25) ?hr ?_; (case hd => rfl); (case hg => rfl); (case hr => first | (go_simp; done) | (go_simp; rfl)); intro gb172 hg w4 hbox hb; have n0_ := Aside0.mk (below_step (by repeat (first | (with_reducible first | exact HB.out | apply below_alloc | apply pw_below_drewN | apply below_drew1) | exact HB.out)) hb); have n1_ := Aside0.mk (hbox); have n2_ := Aside0.mk ((by rw [hg]; exact (below_size (by repeat (first | (with_reducible first | exact HB.out | apply below_alloc | apply pw_below_drewN | apply below_drew1) | exact HB.out))) : w.heap.size ≤ gb172)); have n3_ := Aside0.mk ((by rw [hg]; exact (below_size (by repeat (first | (with_reducible first | exact HB.out | apply below_alloc | apply pw_below_drewN | apply below_drew1) | exact HB.out))) : w.heap.size ≤ gb172)); clear HB; have HB := n0_; have BK172 := n1_; have GW172 := n2_; have GE172 := n3_; clear n0_ n1_ n2_ n3_; clear hb hbox hg; have hcz5_0 : w4.cell? ⟨gb172, 0, none⟩ = some (.slice A0_0 l0_0.length c0_0) := (blk_cell BK172.out 0).trans rfl; have hcz5_1 : w4.cell? ⟨gb172, 1, none⟩ = some (.slice A0_1 l0_1.length c0_1) := (blk_cell BK172.out 1).trans rfl; have hcz5_2 : w4.cell? ⟨gb172, 2, none⟩ = some (.int .i64 a0_2) := (blk_cell BK172.out 2).trans rfl; have hcz5_3 : w4.cell? ⟨gb172, 3, none⟩ = some (.slice A0_3 l0_3.length c0_3) := (blk_cell BK172.out 3).trans rfl; have hfz5_0 := blk_frozen BK172.out 0; have hfz5_1 := blk_frozen BK172.out 1; have hfz5_2 := blk_frozen BK172.out 2; have hfz5_3 := blk_frozen BK172.out 3) | ((with_reducible refine gate_callee (f := 64) rfl ?_); refine goesL_ (some 11) rfl rfl Tryd.func64 (by kernel_rfl) rfl #[.agg #[.slice A0_0 l0_0.length c0_0, .slice A0_1 l0_1.length c0_1, .int .i64 a0_2, .slice A0_3 l0_3.length c0_3]] rfl (by (try simp only [List.map_toArray, List.map_cons, List.map_nil]); first | done | rfl | (simp only [List.length_drop, List.length_take]; rfl)) ?_; (with_reducible refine (dovetailref03_Check.calls k _ _ l0_0 _ _ l0_1 a0_2 _ _ l0_3 t173 t174 _ ?side1 ?side2 ?side3 ?side4 ?side5 ?side6 A2.out).mono ?_); (case side1 => repeat (first | exact (Kd.C_below HR0_0.out HB.out) | (with_reducible refine Kd.C_alloc ?_ _) | (with_reducible refine Kd.C_drewN ?_ _) | (with_reducible refine Kd.C_drew ?_))); (case side2 => exact HC0_0.out); (case side3 => repeat (first | exact (Kd.C_below HR0_1.out HB.out) | (with_reducible refine Kd.C_alloc ?_ _) | (with_reducible refine Kd.C_drewN ?_ _) | (with_reducible refine Kd.C_drew ?_))); (case side4 => exact HC0_1.out); (case side5 => repeat (first | exact (Kd.C_below HR0_3.out HB.out) | (with_reducible refine Kd.C_alloc ?_ _) | (with_reducible refine Kd.C_drewN ?_ _) | (with_reducible refine Kd.C_drew ?_))); (case side6 => exact HC0_3.out); rintro e w6 ⟨rfl, hb⟩; refine ⟨_, rfl, ?_⟩; have n0_ := Aside0.mk (blk_below (g := gb172) (o := .cells #[.slice A0_0 l0_0.length c0_0, .slice A0_1 l0_1.length c0_1, .int .i64 a0_2, .slice A0_3 l0_3.length c0_3] 25 (0, 0)) (by (with_reducible repeat (first | refine blk_drewN ?_ _ | refine blk_drew ?_ | refine blk_alloc ?_ _)); exact BK172.out) hb); have n1_ := Aside0.mk (below_step (by repeat (first | (with_reducible first | exact HB.out | apply below_alloc | apply pw_below_drewN | apply below_drew1 | refine below_set ?_ GE172.out) | exact HB.out)) hb); clear BK172; clear HB; have BK172 := n0_; have HB := n1_; clear n0_ n1_; (try clear hb); (try clear hb2); (try clear hk); (try clear hi)))
    go_loopg [3, 6] k (fun kq v3 v6 w' => ∃ (x3_1 : List Int) (x6_1 : Int), v6 = .int .i64 x6_1 ∧ Aside0 (dovetailref03_Above.l0 kq x3_1 x6_1 l0_0 l0_1 a0_2 l0_3 = some r) ∧ Aside0 (kq ≤ k) ∧ Aside0 (Kd.R (Kd.int .u64) 47 w' w.heap.size (fun _ => True) v3 x3_1) ∧ Aside0 (w'.heap[gb172]? = some (.cells #[(.slice A0_0 l0_0.length c0_0), (.slice A0_1 l0_1.length c0_1), .int .i64 a0_2, (.slice A0_3 l0_3.length c0_3)] 25 (0, 0))) ∧ Aside0 (Below w.heap.size w w'))
    case atStart => exact ⟨(([] : List Int)), (0), (by first | rfl | (simp; done) | (simp [*]; done)), H', ⟨Nat.le_refl _⟩, ⟨by first | exact Kd.R_nil _ _ _ _ _ | exact Kd.N_nil _ _ _ _ _ | exact Kd.V_nil _ _ _ _ _ | exact Kd.Q_nil _ _ _ _ _ | exact Kd.S_nil _ _ _ _ _⟩, ⟨by (with_reducible repeat (first | refine blk_drewN ?_ _ | refine blk_drew ?_ | refine blk_alloc ?_ _)); exact BK172.out⟩, ⟨by repeat (first | (with_reducible first | exact HB.out | apply below_alloc | apply pw_below_drewN | apply below_drew1 | refine below_set ?_ GE172.out) | exact HB.out)⟩⟩
    case round =>
      clear H'
      try clear c2
      try clear p2
      try clear c3
      try clear c3b0
      try clear c3b1
      try clear c6
      try clear hcz5_0
      try clear hcz5_1
      try clear hcz5_2
      try clear hcz5_3
      try clear hfz5_0
      try clear hfz5_1
      try clear hfz5_2
      try clear hfz5_3
      obtain ⟨x3_1, x6_1, rfl, HA, HK1, HO_3, BK172, HB⟩ := hrel
      cases gk with
      | zero => exact absurd HA.out (by simp [dovetailref03_Above.l0])
      | succ k1 =>
        have H := HA.out
        clear HA
        simp only [dovetailref03_Above.l0] at H
        by_cases c7 : x6_1 < (l0_1.length : Int)
        · rw [if_pos c7] at H
          have c7b0 : decide (x6_1 < (l0_1.length : Int)) = true := decide_eq_true c7
          clear c7
          have H' := Aside0.mk H
          clear H
          have hcz8_0 : wr.cell? ⟨gb172, 0, none⟩ = some (.slice A0_0 l0_0.length c0_0) := (blk_cell BK172.out 0).trans rfl
          have hcz8_1 : wr.cell? ⟨gb172, 1, none⟩ = some (.slice A0_1 l0_1.length c0_1) := (blk_cell BK172.out 1).trans rfl
          have hcz8_2 : wr.cell? ⟨gb172, 2, none⟩ = some (.int .i64 a0_2) := (blk_cell BK172.out 2).trans rfl
          have hcz8_3 : wr.cell? ⟨gb172, 3, none⟩ = some (.slice A0_3 l0_3.length c0_3) := (blk_cell BK172.out 3).trans rfl
          have hfz8_0 := blk_frozen BK172.out 0
          have hfz8_1 := blk_frozen BK172.out 1
          have hfz8_2 := blk_frozen BK172.out 2
          have hfz8_3 := blk_frozen BK172.out 3
          go_wp2
          go_loopg [7, 8] k1 (fun kq v7 v8 w' => ∃ (x7_2 : Int) (x8_2 : Int), v7 = .int .u64 x7_2 ∧ v8 = .int .i64 x8_2 ∧ Aside0 (dovetailref03_Above.l1 kq x3_1 x6_1 x7_2 x8_2 l0_0 l0_1 a0_2 l0_3 = some r) ∧ Aside0 (kq ≤ k1) ∧ Aside0 (Kd.R (Kd.int .u64) 47 w' w.heap.size (fun _ => True) u3 x3_1) ∧ Aside0 (w'.heap[gb172]? = some (.cells #[(.slice A0_0 l0_0.length c0_0), (.slice A0_1 l0_1.length c0_1), .int .i64 a0_2, (.slice A0_3 l0_3.length c0_3)] 25 (0, 0))) ∧ Aside0 (Below w.heap.size w w'))
          case atStart => exact ⟨(0), (0), (by first | rfl | (simp; done) | (simp [*]; done)), (by first | rfl | (simp; done) | (simp [*]; done)), H', ⟨Nat.le_refl _⟩, ⟨by (with_reducible repeat (first | apply Kd.R_alloc | apply Kd.R_drewN | apply Kd.R_drew)); exact HO_3.out⟩, ⟨by (with_reducible repeat (first | refine blk_drewN ?_ _ | refine blk_drew ?_ | refine blk_alloc ?_ _)); exact BK172.out⟩, ⟨by repeat (first | (with_reducible first | exact HB.out | apply below_alloc | apply pw_below_drewN | apply below_drew1 | refine below_set ?_ GE172.out) | exact HB.out)⟩⟩
          case round =>
            clear H'
            try clear c2
            try clear p2
            try clear c3
            try clear c3b0
            try clear c3b1
            try clear c6
            try clear c7
            try clear c7b0
            try clear hcz5_0
            try clear hcz5_1
            try clear hcz5_2
            try clear hcz5_3
            try clear hcz8_0
            try clear hcz8_1
            try clear hcz8_2
            try clear hcz8_3
            try clear hfz5_0
            try clear hfz5_1
            try clear hfz5_2
            try clear hfz5_3
            try clear hfz8_0
            try clear hfz8_1
            try clear hfz8_2
            try clear hfz8_3
            try clear p2
            obtain ⟨x7_2, x8_2, rfl, rfl, HA, HK2, HO_3, BK172, HB⟩ := hrel
            cases gk with
            | zero => exact absurd HA.out (by simp [dovetailref03_Above.l1])
            | succ k2 =>
              have H := HA.out
              clear HA
              simp only [dovetailref03_Above.l1] at H
              by_cases c9 : x8_2 < (l0_1.length : Int)
              · rw [if_pos c9] at H
                have c9b0 : decide (x8_2 < (l0_1.length : Int)) = true := decide_eq_true c9
                clear c9
                replace H := Option.bind_eq_some_iff.mp H
                obtain ⟨t175, A100, H⟩ := H
                replace H : (if t175 = true then (if 0 ≤ (IntKind.u64.wrap (x8_2)) then (dovetailref03_Above.l1 k2 x3_1 x6_1 (Go.bits .or .u64 x7_2 (shl .u64 1 (IntKind.u64.wrap (x8_2)))) (wrap64 (x8_2 + 1)) l0_0 l0_1 a0_2 l0_3) else (none)) else (dovetailref03_Above.l1 k2 x3_1 x6_1 x7_2 (wrap64 (x8_2 + 1)) l0_0 l0_1 a0_2 l0_3)) = some r := H
                have A10 := Aside0.mk A100
                clear A100
                by_cases c11 : t175 = true
                · subst c11
                  have H1 : (if 0 ≤ (IntKind.u64.wrap (x8_2)) then (dovetailref03_Above.l1 k2 x3_1 x6_1 (Go.bits .or .u64 x7_2 (shl .u64 1 (IntKind.u64.wrap (x8_2)))) (wrap64 (x8_2 + 1)) l0_0 l0_1 a0_2 l0_3) else (none)) = some r := by rw [if_pos rfl] at H; exact H
                  clear H
                  have H := H1
                  clear H1
                  obtain ⟨ji12, hji12⟩ : ∃ j_ : Int, (IntKind.u64.wrap (x8_2)) = j_ := ⟨_, rfl⟩
                  replace H : (if 0 ≤ (ji12) then (dovetailref03_Above.l1 k2 x3_1 x6_1 (Go.bits .or .u64 x7_2 (shl .u64 1 (ji12))) (wrap64 (x8_2 + 1)) l0_0 l0_1 a0_2 l0_3) else (none)) = some r := by first | (rw [hji12] at H; exact H) | (simp only [hji12] at H ⊢; exact H)
                  (try rw [hji12] at A10)
                  by_cases c13 : 0 ≤ (ji12)
                  · rw [if_pos c13] at H
                    have c13b0 := eq_true c13
                    have c13b1 : decide (0 ≤ (ji12)) = true := decide_eq_true c13
                    clear c13
                    obtain ⟨ji14, hji14⟩ : ∃ j_ : Int, (shl .u64 1 (ji12)) = j_ := ⟨_, rfl⟩
                    replace H : (dovetailref03_Above.l1 k2 x3_1 x6_1 (Go.bits .or .u64 x7_2 (ji14)) (wrap64 (x8_2 + 1)) l0_0 l0_1 a0_2 l0_3) = some r := by first | (rw [hji14] at H; exact H) | (simp only [hji14] at H ⊢; exact H)
                    (try rw [hji14] at A10)
                    have hji14_ : (IntKind.u64.wrap (1 * 2 ^ min (ji12).toNat 64)) = ji14 := hji14
                    have hji14z : (ji12) ≤ 64 → (IntKind.u64.wrap (1 * 2 ^ (ji12).toNat)) = ji14 := shl_small hji14
                    have hji14u : (IntKind.u64.wrap (2 ^ min (ji12).toNat 64)) = ji14 := by have h_ := hji14_; rw [Int.one_mul] at h_; exact h_
                    have hji14v : (ji12) ≤ 64 → (IntKind.u64.wrap (2 ^ (ji12).toNat)) = ji14 := fun hle_ => by have h_ := hji14z hle_; rw [Int.one_mul] at h_; exact h_
                    have H' := Aside0.mk H
                    clear H
                    have hcz15_0 : wr.cell? ⟨gb172, 0, none⟩ = some (.slice A0_0 l0_0.length c0_0) := (blk_cell BK172.out 0).trans rfl
                    have hcz15_1 : wr.cell? ⟨gb172, 1, none⟩ = some (.slice A0_1 l0_1.length c0_1) := (blk_cell BK172.out 1).trans rfl
                    have hcz15_2 : wr.cell? ⟨gb172, 2, none⟩ = some (.int .i64 a0_2) := (blk_cell BK172.out 2).trans rfl
                    have hcz15_3 : wr.cell? ⟨gb172, 3, none⟩ = some (.slice A0_3 l0_3.length c0_3) := (blk_cell BK172.out 3).trans rfl
                    have hfz15_0 := blk_frozen BK172.out 0
                    have hfz15_1 := blk_frozen BK172.out 1
                    have hfz15_2 := blk_frozen BK172.out 2
                    have hfz15_3 := blk_frozen BK172.out 3
                    go_wp2_with (first | ((with_reducible refine gate_callee (f := 65) rfl ?_); refine goesL_ (some 34) rfl rfl Tryd.func65 (by kernel_rfl) rfl #[.agg #[.slice A0_0 l0_0.length c0_0, .slice A0_1 l0_1.length c0_1, .int .i64 a0_2, .slice A0_3 l0_3.length c0_3], .int .i64 x8_2, .int .i64 x6_1] rfl (by (try simp only [List.map_toArray, List.map_cons, List.map_nil]); first | done | rfl | (simp only [List.length_drop, List.length_take]; rfl)) ?_; (with_reducible refine (dovetailref03_Comes.calls k2 _ _ l0_0 _ _ l0_1 a0_2 _ _ l0_3 x8_2 x6_1 true _ ?side1 ?side2 ?side3 ?side4 ?side5 ?side6 A10.out).mono ?_); (case side1 => repeat (first | exact (Kd.C_below HR0_0.out HB.out) | (with_reducible refine Kd.C_alloc ?_ _) | (with_reducible refine Kd.C_drewN ?_ _) | (with_reducible refine Kd.C_drew ?_))); (case side2 => exact HC0_0.out); (case side3 => repeat (first | exact (Kd.C_below HR0_1.out HB.out) | (with_reducible refine Kd.C_alloc ?_ _) | (with_reducible refine Kd.C_drewN ?_ _) | (with_reducible refine Kd.C_drew ?_))); (case side4 => exact HC0_1.out); (case side5 => repeat (first | exact (Kd.C_below HR0_3.out HB.out) | (with_reducible refine Kd.C_alloc ?_ _) | (with_reducible refine Kd.C_drewN ?_ _) | (with_reducible refine Kd.C_drew ?_))); (case side6 => exact HC0_3.out); rintro e w16 ⟨rfl, hb⟩; refine ⟨_, rfl, ?_⟩; have n0_ := Aside0.mk (Kd.R_below (by (with_reducible repeat (first | apply Kd.R_alloc | apply Kd.R_drewN | apply Kd.R_drew)); exact HO_3.out) hb); have n1_ := Aside0.mk (blk_below (g := gb172) (o := .cells #[.slice A0_0 l0_0.length c0_0, .slice A0_1 l0_1.length c0_1, .int .i64 a0_2, .slice A0_3 l0_3.length c0_3] 25 (0, 0)) (by (with_reducible repeat (first | refine blk_drewN ?_ _ | refine blk_drew ?_ | refine blk_alloc ?_ _)); exact BK172.out) hb); have n2_ := Aside0.mk (below_step (by repeat (first | (with_reducible first | exact HB.out | apply below_alloc | apply pw_below_drewN | apply below_drew1 | refine below_set ?_ GE172.out) | exact HB.out)) hb); clear HO_3; clear BK172; clear HB; have HO_3 := n0_; have BK172 := n1_; have HB := n2_; clear n0_ n1_ n2_; (try clear hb); (try clear hb2); (try clear hk); (try clear hi)))
                    go_roundg k2
                    case measure => have := HK1.out; have := HK2.out; omega
                    case rel => exact ⟨(Go.bits .or .u64 x7_2 (ji14)), (wrap64 (x8_2 + 1)), (by first | rfl | (simp; done) | (simp only [← hji14] <;> (first | rfl | simp)) | (simp [*]; done)), (by first | rfl | (simp; done) | (simp [*]; done)), H', ⟨by have := HK1.out; have := HK2.out; omega⟩, ⟨by (with_reducible repeat (first | apply Kd.R_alloc | apply Kd.R_drewN | apply Kd.R_drew)); exact HO_3.out⟩, ⟨by (with_reducible repeat (first | refine blk_drewN ?_ _ | refine blk_drew ?_ | refine blk_alloc ?_ _)); exact BK172.out⟩, ⟨by repeat (first | (with_reducible first | exact HB.out | apply below_alloc | apply pw_below_drewN | apply below_drew1 | refine below_set ?_ GE172.out) | exact HB.out)⟩⟩
                  · rw [if_neg c13] at H
                    exact absurd H (by simp)
                · replace c11 := Bool.eq_false_iff.mpr c11
                  subst c11
                  have H1 : (dovetailref03_Above.l1 k2 x3_1 x6_1 x7_2 (wrap64 (x8_2 + 1)) l0_0 l0_1 a0_2 l0_3) = some r := by rw [if_neg (show ¬ (false = true) by decide)] at H; exact H
                  clear H
                  have H := H1
                  clear H1
                  have H' := Aside0.mk H
                  clear H
                  have hcz17_0 : wr.cell? ⟨gb172, 0, none⟩ = some (.slice A0_0 l0_0.length c0_0) := (blk_cell BK172.out 0).trans rfl
                  have hcz17_1 : wr.cell? ⟨gb172, 1, none⟩ = some (.slice A0_1 l0_1.length c0_1) := (blk_cell BK172.out 1).trans rfl
                  have hcz17_2 : wr.cell? ⟨gb172, 2, none⟩ = some (.int .i64 a0_2) := (blk_cell BK172.out 2).trans rfl
                  have hcz17_3 : wr.cell? ⟨gb172, 3, none⟩ = some (.slice A0_3 l0_3.length c0_3) := (blk_cell BK172.out 3).trans rfl
                  have hfz17_0 := blk_frozen BK172.out 0
                  have hfz17_1 := blk_frozen BK172.out 1
                  have hfz17_2 := blk_frozen BK172.out 2
                  have hfz17_3 := blk_frozen BK172.out 3
                  go_wp2_with (first | ((with_reducible refine gate_callee (f := 65) rfl ?_); refine goesL_ (some 34) rfl rfl Tryd.func65 (by kernel_rfl) rfl #[.agg #[.slice A0_0 l0_0.length c0_0, .slice A0_1 l0_1.length c0_1, .int .i64 a0_2, .slice A0_3 l0_3.length c0_3], .int .i64 x8_2, .int .i64 x6_1] rfl (by (try simp only [List.map_toArray, List.map_cons, List.map_nil]); first | done | rfl | (simp only [List.length_drop, List.length_take]; rfl)) ?_; (with_reducible refine (dovetailref03_Comes.calls k2 _ _ l0_0 _ _ l0_1 a0_2 _ _ l0_3 x8_2 x6_1 false _ ?side1 ?side2 ?side3 ?side4 ?side5 ?side6 A10.out).mono ?_); (case side1 => repeat (first | exact (Kd.C_below HR0_0.out HB.out) | (with_reducible refine Kd.C_alloc ?_ _) | (with_reducible refine Kd.C_drewN ?_ _) | (with_reducible refine Kd.C_drew ?_))); (case side2 => exact HC0_0.out); (case side3 => repeat (first | exact (Kd.C_below HR0_1.out HB.out) | (with_reducible refine Kd.C_alloc ?_ _) | (with_reducible refine Kd.C_drewN ?_ _) | (with_reducible refine Kd.C_drew ?_))); (case side4 => exact HC0_1.out); (case side5 => repeat (first | exact (Kd.C_below HR0_3.out HB.out) | (with_reducible refine Kd.C_alloc ?_ _) | (with_reducible refine Kd.C_drewN ?_ _) | (with_reducible refine Kd.C_drew ?_))); (case side6 => exact HC0_3.out); rintro e w18 ⟨rfl, hb⟩; refine ⟨_, rfl, ?_⟩; have n0_ := Aside0.mk (Kd.R_below (by (with_reducible repeat (first | apply Kd.R_alloc | apply Kd.R_drewN | apply Kd.R_drew)); exact HO_3.out) hb); have n1_ := Aside0.mk (blk_below (g := gb172) (o := .cells #[.slice A0_0 l0_0.length c0_0, .slice A0_1 l0_1.length c0_1, .int .i64 a0_2, .slice A0_3 l0_3.length c0_3] 25 (0, 0)) (by (with_reducible repeat (first | refine blk_drewN ?_ _ | refine blk_drew ?_ | refine blk_alloc ?_ _)); exact BK172.out) hb); have n2_ := Aside0.mk (below_step (by repeat (first | (with_reducible first | exact HB.out | apply below_alloc | apply pw_below_drewN | apply below_drew1 | refine below_set ?_ GE172.out) | exact HB.out)) hb); clear HO_3; clear BK172; clear HB; have HO_3 := n0_; have BK172 := n1_; have HB := n2_; clear n0_ n1_ n2_; (try clear hb); (try clear hb2); (try clear hk); (try clear hi)))
                  go_roundg k2
                  case measure => have := HK1.out; have := HK2.out; omega
                  case rel => exact ⟨(x7_2), (wrap64 (x8_2 + 1)), (by first | rfl | (simp; done) | (simp [*]; done)), (by first | rfl | (simp; done) | (simp [*]; done)), H', ⟨by have := HK1.out; have := HK2.out; omega⟩, ⟨by (with_reducible repeat (first | apply Kd.R_alloc | apply Kd.R_drewN | apply Kd.R_drew)); exact HO_3.out⟩, ⟨by (with_reducible repeat (first | refine blk_drewN ?_ _ | refine blk_drew ?_ | refine blk_alloc ?_ _)); exact BK172.out⟩, ⟨by repeat (first | (with_reducible first | exact HB.out | apply below_alloc | apply pw_below_drewN | apply below_drew1 | refine below_set ?_ GE172.out) | exact HB.out)⟩⟩
              · rw [if_neg c9] at H
                have c9b0 : decide (x8_2 < (l0_1.length : Int)) = false := decide_eq_false c9
                clear c9
                by_cases c19 : x3_1.length < 17592186044416
                · rw [if_pos c19] at H
                  have LMc19 := Aside0.mk c19
                  clear c19
                  obtain ⟨y176, hy176⟩ : ∃ y_ : List Int, y_ = (x3_1 ++ [x7_2]) := ⟨_, rfl⟩
                  replace H : (dovetailref03_Above.l0 k2 y176 (wrap64 (x6_1 + 1)) l0_0 l0_1 a0_2 l0_3) = some r := by first | (rw [hy176]; with_reducible exact H) | (have H2_ := (Option.bind_some _ _).symm.trans H; rw [hy176]; with_reducible exact H2_) | (have H2_ := (Option.bind_some _ _).symm.trans H; with_reducible exact H2_) | with_reducible exact H | (rw [hy176]; exact H) | exact H
                  have Ny176 := Aside0.mk hy176
                  clear hy176
                  have H' := Aside0.mk H
                  clear H
                  have hcz20_0 : wr.cell? ⟨gb172, 0, none⟩ = some (.slice A0_0 l0_0.length c0_0) := (blk_cell BK172.out 0).trans rfl
                  have hcz20_1 : wr.cell? ⟨gb172, 1, none⟩ = some (.slice A0_1 l0_1.length c0_1) := (blk_cell BK172.out 1).trans rfl
                  have hcz20_2 : wr.cell? ⟨gb172, 2, none⟩ = some (.int .i64 a0_2) := (blk_cell BK172.out 2).trans rfl
                  have hcz20_3 : wr.cell? ⟨gb172, 3, none⟩ = some (.slice A0_3 l0_3.length c0_3) := (blk_cell BK172.out 3).trans rfl
                  have hfz20_0 := blk_frozen BK172.out 0
                  have hfz20_1 := blk_frozen BK172.out 1
                  have hfz20_2 := blk_frozen BK172.out 2
                  have hfz20_3 := blk_frozen BK172.out 3
                  go_wp2_with (first | ((with_reducible refine gate_builtin (b := .append) (xs := #[.tmp 40, .tmp 42]) rfl ?_); at_builtin; refine Kd.R_append (Kd.int .u64) (w0 := w) w.heap.size rfl (.tmp 40) (.tmp 42) 36 47 (.int .u64 0) 8 rfl Tryd.underlying36 info47 rfl (by decide) (by omega) u3 x3_1 x7_2 [.int .u64 x7_2] (fun _ => True) (fun _ => False) rfl rfl ?aP (fun _ hk => hk.elim) ?aF ?aO ?aB ?aS ?aL ?_; (case aP => exact rfl); (case aB => exact (by repeat (first | (with_reducible first | exact HB.out | apply below_alloc | apply pw_below_drewN | apply below_drew1 | refine below_set ?_ GE172.out) | exact HB.out))); (case aF => exact (fun _ _ => trivial)); (case aO => exact (by (with_reducible repeat (first | apply Kd.R_alloc | apply Kd.R_drewN | apply Kd.R_drew)); exact HO_3.out)); (case aS => exact (below_size (by repeat (first | (with_reducible first | exact HB.out | apply below_alloc | apply pw_below_drewN | apply below_drew1 | refine below_set ?_ GE172.out) | exact HB.out)))); (case aL => have := LMc19.out; omega); intro v177 w21 ho hb hg hat; rw [← Ny176.out] at ho; have n0_ := Aside0.mk (blk_grown (g := gb172) (o := .cells #[.slice A0_0 l0_0.length c0_0, .slice A0_1 l0_1.length c0_1, .int .i64 a0_2, .slice A0_3 l0_3.length c0_3] 25 (0, 0)) (by (with_reducible repeat (first | refine blk_drewN ?_ _ | refine blk_drew ?_ | refine blk_alloc ?_ _)); exact BK172.out) hg (Kd.R_ne HO_3.out BK172.out (by decide))); have n1_ := Aside0.mk (hb); have n2_ := Aside0.mk (ho); clear BK172; clear HB; clear HO_3; have BK172 := n0_; have HB := n1_; have HO178 := n2_; clear n0_ n1_ n2_; clear ho hb hg hat))
                  go_roundg k2
                  case measure => have := HK1.out; have := HK2.out; omega
                  case rel => exact ⟨(y176), (wrap64 (x6_1 + 1)), (by first | rfl | (simp; done) | (simp [*]; done)), H', ⟨by have := HK1.out; have := HK2.out; omega⟩, ⟨by (with_reducible repeat (first | apply Kd.R_alloc | apply Kd.R_drewN | apply Kd.R_drew)); exact HO178.out⟩, ⟨by (with_reducible repeat (first | refine blk_drewN ?_ _ | refine blk_drew ?_ | refine blk_alloc ?_ _)); exact BK172.out⟩, ⟨by repeat (first | (with_reducible first | exact HB.out | apply below_alloc | apply pw_below_drewN | apply below_drew1 | refine below_set ?_ GE172.out) | exact HB.out)⟩⟩
                · rw [if_neg c19] at H
                  exact absurd H (by simp)
        · rw [if_neg c7] at H
          have c7b0 : decide (x6_1 < (l0_1.length : Int)) = false := decide_eq_false c7
          clear c7
          obtain rfl := Option.some.inj H
          have hcz22_0 : wr.cell? ⟨gb172, 0, none⟩ = some (.slice A0_0 l0_0.length c0_0) := (blk_cell BK172.out 0).trans rfl
          have hcz22_1 : wr.cell? ⟨gb172, 1, none⟩ = some (.slice A0_1 l0_1.length c0_1) := (blk_cell BK172.out 1).trans rfl
          have hcz22_2 : wr.cell? ⟨gb172, 2, none⟩ = some (.int .i64 a0_2) := (blk_cell BK172.out 2).trans rfl
          have hcz22_3 : wr.cell? ⟨gb172, 3, none⟩ = some (.slice A0_3 l0_3.length c0_3) := (blk_cell BK172.out 3).trans rfl
          have hfz22_0 := blk_frozen BK172.out 0
          have hfz22_1 := blk_frozen BK172.out 1
          have hfz22_2 := blk_frozen BK172.out 2
          have hfz22_3 := blk_frozen BK172.out 3
          go_wp2
          go_ret
          exact ⟨_, by first | rfl | (simp [errW_none, errW_some] <;> rfl) | (simp [*, errW_none, errW_some] <;> rfl), by (with_reducible repeat (first | apply Kd.R_alloc | apply Kd.R_drewN | apply Kd.R_drew)); exact HO_3.out, by repeat (first | (with_reducible first | exact HB.out | apply below_alloc | apply pw_below_drewN | apply below_drew1 | refine below_set ?_ GE172.out) | exact HB.out)⟩
  · rw [if_neg c3] at H
    have c3b0 : (t173 == 0) = false := beq_eq_false_iff_ne.mpr c3
    have c3b1 : (t173 != 0) = true := bne_iff_ne.mpr c3
    obtain rfl := Option.some.inj H
    go_enter Tryd.func24, Tryd.ntmps24
    go_wp2_with (first | ((with_reducible refine gate_dst (N := 1) rfl ?_); refine box_event ?hg (N := 1) ?hd (cs := #[.slice A0_0 l0_0.length c0_0, .slice A0_1 l0_1.length c0_1, .int .i64 a0_2, .slice A0_3 l0_3.length c0_3]) (t := 25) ?hr ?_; (case hd => rfl); (case hg => rfl); (case hr => first | (go_simp; done) | (go_simp; rfl)); intro gb172 hg w23 hbox hb; have n0_ := Aside0.mk (below_step (by repeat (first | (with_reducible first | exact HB.out | apply below_alloc | apply pw_below_drewN | apply below_drew1) | exact HB.out)) hb); have n1_ := Aside0.mk (hbox); have n2_ := Aside0.mk ((by rw [hg]; exact (below_size (by repeat (first | (with_reducible first | exact HB.out | apply below_alloc | apply pw_below_drewN | apply below_drew1) | exact HB.out))) : w.heap.size ≤ gb172)); have n3_ := Aside0.mk ((by rw [hg]; exact (below_size (by repeat (first | (with_reducible first | exact HB.out | apply below_alloc | apply pw_below_drewN | apply below_drew1) | exact HB.out))) : w.heap.size ≤ gb172)); clear HB; have HB := n0_; have BK172 := n1_; have GW172 := n2_; have GE172 := n3_; clear n0_ n1_ n2_ n3_; clear hb hbox hg; have hcz24_0 : w23.cell? ⟨gb172, 0, none⟩ = some (.slice A0_0 l0_0.length c0_0) := (blk_cell BK172.out 0).trans rfl; have hcz24_1 : w23.cell? ⟨gb172, 1, none⟩ = some (.slice A0_1 l0_1.length c0_1) := (blk_cell BK172.out 1).trans rfl; have hcz24_2 : w23.cell? ⟨gb172, 2, none⟩ = some (.int .i64 a0_2) := (blk_cell BK172.out 2).trans rfl; have hcz24_3 : w23.cell? ⟨gb172, 3, none⟩ = some (.slice A0_3 l0_3.length c0_3) := (blk_cell BK172.out 3).trans rfl; have hfz24_0 := blk_frozen BK172.out 0; have hfz24_1 := blk_frozen BK172.out 1; have hfz24_2 := blk_frozen BK172.out 2; have hfz24_3 := blk_frozen BK172.out 3) | ((with_reducible refine gate_callee (f := 64) rfl ?_); refine goesL_ (some 11) rfl rfl Tryd.func64 (by kernel_rfl) rfl #[.agg #[.slice A0_0 l0_0.length c0_0, .slice A0_1 l0_1.length c0_1, .int .i64 a0_2, .slice A0_3 l0_3.length c0_3]] rfl (by (try simp only [List.map_toArray, List.map_cons, List.map_nil]); first | done | rfl | (simp only [List.length_drop, List.length_take]; rfl)) ?_; (with_reducible refine (dovetailref03_Check.calls k _ _ l0_0 _ _ l0_1 a0_2 _ _ l0_3 t173 t174 _ ?side1 ?side2 ?side3 ?side4 ?side5 ?side6 A2.out).mono ?_); (case side1 => repeat (first | exact (Kd.C_below HR0_0.out HB.out) | (with_reducible refine Kd.C_alloc ?_ _) | (with_reducible refine Kd.C_drewN ?_ _) | (with_reducible refine Kd.C_drew ?_))); (case side2 => exact HC0_0.out); (case side3 => repeat (first | exact (Kd.C_below HR0_1.out HB.out) | (with_reducible refine Kd.C_alloc ?_ _) | (with_reducible refine Kd.C_drewN ?_ _) | (with_reducible refine Kd.C_drew ?_))); (case side4 => exact HC0_1.out); (case side5 => repeat (first | exact (Kd.C_below HR0_3.out HB.out) | (with_reducible refine Kd.C_alloc ?_ _) | (with_reducible refine Kd.C_drewN ?_ _) | (with_reducible refine Kd.C_drew ?_))); (case side6 => exact HC0_3.out); rintro e w25 ⟨rfl, hb⟩; refine ⟨_, rfl, ?_⟩; have n0_ := Aside0.mk (blk_below (g := gb172) (o := .cells #[.slice A0_0 l0_0.length c0_0, .slice A0_1 l0_1.length c0_1, .int .i64 a0_2, .slice A0_3 l0_3.length c0_3] 25 (0, 0)) (by (with_reducible repeat (first | refine blk_drewN ?_ _ | refine blk_drew ?_ | refine blk_alloc ?_ _)); exact BK172.out) hb); have n1_ := Aside0.mk (below_step (by repeat (first | (with_reducible first | exact HB.out | apply below_alloc | apply pw_below_drewN | apply below_drew1 | refine below_set ?_ GE172.out) | exact HB.out)) hb); clear BK172; clear HB; have BK172 := n0_; have HB := n1_; clear n0_ n1_; (try clear hb); (try clear hb2); (try clear hk); (try clear hi)))
    go_ret
    exact ⟨_, by first | rfl | (simp [errW_none, errW_some] <;> rfl) | (simp [*, errW_none, errW_some] <;> rfl), by first | exact Kd.R_nil _ _ _ _ _ | exact Kd.N_nil _ _ _ _ _ | exact Kd.V_nil _ _ _ _ _ | exact Kd.Q_nil _ _ _ _ _ | exact Kd.S_nil _ _ _ _ _, by repeat (first | (with_reducible first | exact HB.out | apply below_alloc | apply pw_below_drewN | apply below_drew1 | refine below_set ?_ GE172.out) | exact HB.out)⟩

end Go.Proofs.YteaiejippkikpaaDoor.B
/- The document's Above, in plain Lean: the sets that gram.Above tells. -/
set_option linter.unusedVariables false
set_option linter.unusedSimpArgs false
namespace Go.Proofs.YteaiejippkikpaaDoor.B
open Go.RowKit Go.Proofs.YteaiejippkikpaaDoorW.PrintWords Go.Proofs.YteaiejippkikpaaDoorW.PrintLast Go.Proofs.YteaiejippkikpaaDoorW.PrintMore

/-- How many are true. -/
def cnt : List Bool → Nat
  | [] => 0
  | b :: l => (if b = true then 1 else 0) + cnt l
theorem cnt_le : ∀ l : List Bool, cnt l ≤ l.length
  | [] => Nat.le_refl _
  | b :: l => by
    have := cnt_le l
    unfold cnt
    rw [List.length_cons]
    split <;> omega
theorem cnt_set : ∀ (l : List Bool) (m : Nat), m < l.length → l.getD m false = false → cnt (l.set m true) = cnt l + 1
  | [], m, h, _ => by simp at h
  | b :: l, 0, _, h => by
    have hb : b = false := by simpa using h
    subst hb
    simp [cnt]; omega
  | b :: l, m + 1, h, h0 => by
    have := cnt_set l m (by simpa using h) (by simpa using h0)
    rw [List.set_cons_succ]
    unfold cnt
    rw [this]; omega
theorem cnt_replicate (n : Nat) : cnt (List.replicate n false) = 0 := by
  induction n with
  | zero => rfl
  | succ n ih => rw [List.replicate_succ]; simp [cnt, ih]
theorem rdB_D (l : List Bool) (i : Nat) : rdOf false l (i : Int) = l.getD i false := by simp [rdOf]
theorem refRen_f {t n : Nat} {x : S35} (h : okR t n x = true) (hn : n ≤ 60) : dovetailref03_Renaming.f x.f0 x.f1 = some (match ren x with | some m => ((m : Int), true) | none => (0, false)) := by
  have hs := (okR_sides h).2.2.2
  unfold dovetailref03_Renaming.f ren
  generalize x.f1 = l at hs
  match l with
  | [] => simp
  | [s] =>
    have := hs s (by simp)
    have h0 : rd [s] 0 = s := by simp [rd]
    simp only [List.length_singleton, h0]
    by_cases c : s < 0
    · have h1 : wrap64 (-1 - s) = ((-1 - s).toNat : Int) := by unfold wrap64; omega
      rw [if_pos (by rfl), if_pos (by decide), if_pos c, if_pos c, h1]
    · rw [if_pos (by rfl), if_pos (by decide), if_neg c, if_neg c]
  | a :: b :: l => simp; omega
/-- What has been seen, and what is to be done. -/
structure Bfs (R : List S35) (n f : Nat) (seen : List Bool) (todo : List Int) : Prop where
  len : seen.length = n
  cnt : cnt seen = todo.length
  elem : ∀ v ∈ todo, ∃ m : Nat, v = (m : Int) ∧ m < n ∧ Reach R f m
  back : ∀ m, seen.getD m false = true → (m : Int) ∈ todo
  at0 : seen.getD f false = true
theorem Bfs.small {R : List S35} {n f : Nat} {seen : List Bool} {todo : List Int} (h : Bfs R n f seen todo) : todo.length ≤ n := by
  have := cnt_le seen
  have := h.len
  have := h.cnt
  omega
/-- Whatever these lead to has been seen. -/
def Shut2 (R : List S35) (seen : List Bool) (v : Int) : Prop := ∀ x ∈ R, x.f0 = v → ∀ m, ren x = some m → seen.getD m false = true
theorem Shut2.mono {R : List S35} {seen : List Bool} {v : Int} (h : Shut2 R seen v) (m : Nat) : Shut2 R (seen.set m true) v := by
  intro x hx hv q hq
  have := h x hx hv q hq
  rw [getD_set]
  split
  · rfl
  · exact this
theorem Bfs.all {R : List S35} {n f : Nat} {seen : List Bool} {todo : List Int} (h : Bfs R n f seen todo) (hs : ∀ v ∈ todo, Shut2 R seen v) (t : Nat) : seen.getD t false = true ↔ Reach R f t := by
  constructor
  · intro ht
    obtain ⟨m, hm, _, hr⟩ := h.elem _ (h.back t ht)
    have : t = m := by omega
    rw [this]; exact hr
  · intro hr
    have : ∀ a b, Reach R a b → seen.getD a false = true → seen.getD b false = true := by
      intro a b hab
      induction hab with
      | refl a => exact id
      | step e _ ih =>
        intro ha
        obtain ⟨x, hx, hxa, hxm⟩ := e
        exact ih (hs _ (h.back _ ha) x hx hxa _ hxm)
    exact this f t hr h.at0
theorem comes_in (R : List S35) (tt n f t : Nat) (hn : n ≤ 60) (hR : ∀ x ∈ R, okR tt n x = true) (hl : R.length ≤ 120) (l0 l1 : List ByteArray) (a2 : Int) (rb : Bool) (i B : Nat)
    (hnext : ∀ seen todo, Bfs R n f seen todo → i + 1 ≤ todo.length → (∀ v ∈ todo.take (i + 1), Shut2 R seen v) → ∀ k, B ≤ k → dovetailref03_Comes.l0 k (t : Int) seen todo ((i + 1 : Nat) : Int) l0 l1 a2 R = some rb) :
    ∀ (e j k : Nat) (seen : List Bool) (todo : List Int), R.length - j = e → j ≤ R.length → Bfs R n f seen todo → i < todo.length → (∀ v ∈ todo.take i, Shut2 R seen v) → (∀ x ∈ R.take j, x.f0 = todo.getD i 0 → ∀ m, ren x = some m → seen.getD m false = true) → e + 1 + B ≤ k →
      dovetailref03_Comes.l1 k (t : Int) seen todo (i : Int) (j : Int) l0 l1 a2 R = some rb := by
  intro e
  induction e with
  | zero =>
    intro j k seen todo he hj hb hi hs hx hk
    obtain ⟨k, rfl⟩ : ∃ m, k = m + 1 := ⟨k - 1, by omega⟩
    have : j = R.length := by omega
    subst this
    rw [List.take_length] at hx
    have hsm := hb.small
    rw [dovetailref03_Comes.l1, if_neg (by omega), w64 i (by omega)]
    refine hnext seen todo hb (by omega) (fun v hv => ?_) k (by omega)
    rw [List.take_succ_eq_append_getElem hi] at hv
    rcases List.mem_append.1 hv with hv | hv
    · exact hs v hv
    · obtain rfl := List.mem_singleton.1 hv
      intro x hxR hxv m hm
      exact hx x hxR (by rw [getD_lt _ _ _ hi]; exact hxv) m hm
  | succ e ih =>
    intro j k seen todo he hj hb hi hs hx hk
    obtain ⟨k, rfl⟩ : ∃ m, k = m + 1 := ⟨k - 1, by omega⟩
    have hlt : j < R.length := by omega
    have hok := hR R[j] (List.getElem_mem hlt)
    have hsm := hb.small
    have htk : R.take (j + 1) = R.take j ++ [R[j]] := List.take_succ_eq_append_getElem hlt
    have hmem : R[j] ∈ R := List.getElem_mem hlt
    rw [dovetailref03_Comes.l1, if_pos (by omega), if_pos (by omega), rdR_D, getD_lt R j _ hlt]
    generalize R[j] = x at hok htk hmem
    rw [refRen_f hok hn, Option.bind_some, w64 j (by omega)]
    have step : ∀ seen' todo', Bfs R n f seen' todo' → i < todo'.length → (∀ v ∈ todo'.take i, Shut2 R seen' v) → (∀ y ∈ R.take j, y.f0 = todo'.getD i 0 → ∀ m, ren y = some m → seen'.getD m false = true) → (x.f0 = todo'.getD i 0 → ∀ m, ren x = some m → seen'.getD m false = true) →
        dovetailref03_Comes.l1 k (t : Int) seen' todo' (i : Int) ((j + 1 : Nat) : Int) l0 l1 a2 R = some rb := by
      intro seen' todo' h1 h2 h3 h4 h5
      refine ih (j + 1) k seen' todo' (by omega) (by omega) h1 h2 h3 (fun y hy => ?_) (by omega)
      rw [htk] at hy
      rcases List.mem_append.1 hy with hy | hy
      · exact h4 y hy
      · obtain rfl := List.mem_singleton.1 hy
        exact h5
    cases hr : ren x with
    | none =>
      dsimp only
      rw [if_neg (by decide)]
      exact step seen todo hb hi hs hx (fun _ m hm => by rw [hr] at hm; cases hm)
    | some m =>
      have hm := ren_lt hok hr
      dsimp only
      rw [if_pos rfl, if_pos (by omega), if_pos (by omega), rd_D]
      by_cases c : x.f0 = todo.getD i 0
      rotate_left
      · rw [if_neg c]
        exact step seen todo hb hi hs hx (fun h => absurd h c)
      rw [if_pos c, if_pos (by omega), if_pos (by rw [hb.len]; omega), rdB_D, Int.toNat_natCast]
      cases hsn : seen.getD m false with
      | true =>
        rw [if_pos rfl]
        exact step seen todo hb hi hs hx (fun _ q hq => by
          rw [hr] at hq
          obtain rfl := Option.some.inj hq
          exact hsn)
      | false =>
        have hfn : ∃ a : Nat, x.f0 = (a : Int) ∧ Reach R f a := by
          obtain ⟨a, ha, _, hra⟩ := hb.elem _ (List.getElem_mem hi)
          rw [getD_lt _ _ _ hi] at c
          exact ⟨a, by rw [c, ha], hra⟩
        obtain ⟨a, ha, hra⟩ := hfn
        have hset : ∀ q, (seen.set m true).getD q false = true ↔ seen.getD q false = true ∨ q = m := by
          intro q
          rw [getD_set]
          by_cases hq : m = q
          · subst hq; rw [if_pos ⟨rfl, by rw [hb.len]; exact hm⟩]; simp
          · rw [if_neg (fun h => hq h.1)]
            constructor
            · exact .inl
            · rintro (h | h)
              · exact h
              · exact absurd h.symm hq
        rw [if_neg (by decide), if_pos (by omega)]
        have hgd : (todo ++ [(m : Int)]).getD i 0 = todo.getD i 0 := by
          rw [getD_lt _ _ _ (by rw [List.length_append]; omega), getD_lt _ _ _ hi, List.getElem_append_left hi]
        refine step (seen.set m true) (todo ++ [(m : Int)]) ⟨by rw [List.length_set]; exact hb.len, ?_, ?_, ?_, ?_⟩ (by rw [List.length_append]; omega) ?_ ?_ ?_
        · rw [cnt_set seen m (by rw [hb.len]; exact hm) hsn, hb.cnt, List.length_append]; rfl
        · intro v hv
          rcases List.mem_append.1 hv with hv | hv
          · exact hb.elem v hv
          · obtain rfl := List.mem_singleton.1 hv
            exact ⟨m, rfl, hm, hra.snoc ⟨x, hmem, ha, hr⟩⟩
        · intro q hq
          rcases (hset q).1 hq with h | h
          · exact List.mem_append_left _ (hb.back q h)
          · rw [h]; exact List.mem_append_right _ (List.mem_singleton.2 rfl)
        · exact (hset f).2 (.inl hb.at0)
        · rw [List.take_append_of_le_length (by omega)]
          exact fun v hv => (hs v hv).mono m
        · rw [hgd]
          exact fun y hy h q hq => (hset q).2 (.inl (hx y hy h q hq))
        · rw [hgd]
          intro _ q hq
          rw [hr] at hq
          obtain rfl := Option.some.inj hq
          exact (hset _).2 (.inr rfl)
theorem comes_l (R : List S35) (tt n f t : Nat) (hn : n ≤ 60) (ht : t < n) (hR : ∀ x ∈ R, okR tt n x = true) (hl : R.length ≤ 120) (l0 l1 : List ByteArray) (a2 : Int) (rb : Bool) (hrb : rb = true ↔ Reach R f t) :
    ∀ (d i k : Nat) (seen : List Bool) (todo : List Int), n - i ≤ d → i ≤ todo.length → Bfs R n f seen todo → (∀ v ∈ todo.take i, Shut2 R seen v) → d * (R.length + 2) + 1 ≤ k → dovetailref03_Comes.l0 k (t : Int) seen todo (i : Int) l0 l1 a2 R = some rb := by
  have hend : ∀ (k : Nat) (seen : List Bool) (todo : List Int), Bfs R n f seen todo → (∀ v ∈ todo, Shut2 R seen v) → 1 ≤ k → dovetailref03_Comes.l0 k (t : Int) seen todo (todo.length : Int) l0 l1 a2 R = some rb := by
    intro k seen todo hb hs hk
    obtain ⟨k, rfl⟩ : ∃ m, k = m + 1 := ⟨k - 1, by omega⟩
    rw [dovetailref03_Comes.l0, if_neg (by omega), if_pos (by omega), if_pos (by rw [hb.len]; omega), rdB_D]
    congr 1
    rw [Bool.eq_iff_iff, hrb]
    exact hb.all hs t
  intro d
  induction d with
  | zero =>
    intro i k seen todo hd hi hb hs hk
    have hsm := hb.small
    have : i = todo.length := by omega
    subst this
    rw [List.take_length] at hs
    exact hend k seen todo hb hs (by omega)
  | succ d ih =>
    intro i k seen todo hd hi hb hs hk
    rw [Nat.add_mul, Nat.one_mul] at hk
    by_cases hlt : i < todo.length
    rotate_left
    · have : i = todo.length := by omega
      subst this
      rw [List.take_length] at hs
      exact hend k seen todo hb hs (by omega)
    obtain ⟨k, rfl⟩ : ∃ m, k = m + 1 := ⟨k - 1, by omega⟩
    rw [dovetailref03_Comes.l0, if_pos (by omega)]
    have hsm := hb.small
    exact comes_in R tt n f t hn hR hl l0 l1 a2 rb i _ (fun seen' todo' h1 h2 h3 k' hk' => ih (i + 1) k' seen' todo' (by omega) h2 h1 h3 hk') R.length 0 k seen todo (by omega) (by omega) hb hlt hs (fun x hx => by rw [List.take_zero] at hx; cases hx) (by omega)
theorem comes_f (R : List S35) (f t : Nat) (l0 l1 : List ByteArray) (a2 : Int) (tt : Nat) (hn : l1.length ≤ 60) (hf : f < l1.length) (ht : t < l1.length) (hR : ∀ x ∈ R, okR tt l1.length x = true) (hl : R.length ≤ 120) (rb : Bool) (hrb : rb = true ↔ Reach R f t) (k : Nat) (hk : 8000 ≤ k) :
    dovetailref03_Comes.f k l0 l1 a2 R (f : Int) (t : Int) = some rb := by
  unfold dovetailref03_Comes.f
  rw [if_pos (by omega), Int.toNat_natCast, if_pos (by omega), Option.bind_some, if_pos (by omega), if_pos (by rw [List.length_replicate]; omega), Int.toNat_natCast]
  have hrep : ∀ q, ((List.replicate l1.length false).set f true).getD q false = true ↔ q = f := by
    intro q
    rw [getD_set]
    by_cases hq : f = q
    · subst hq; rw [if_pos ⟨rfl, by rw [List.length_replicate]; exact hf⟩]; simp
    · rw [if_neg (fun h => hq h.1)]
      constructor
      · intro h
        simp [List.getD_eq_getElem?_getD, List.getElem?_replicate] at h
        split at h <;> simp at h
      · intro h; exact absurd h.symm hq
  have hb := Nat.mul_le_mul hn (show R.length + 2 ≤ 122 by omega)
  show dovetailref03_Comes.l0 k (t : Int) _ _ ((0 : Nat) : Int) l0 l1 a2 R = some rb
  refine comes_l R tt l1.length f t hn ht hR hl l0 l1 a2 rb hrb l1.length 0 k _ _ (by omega) (by omega) ⟨by rw [List.length_set, List.length_replicate], ?_, ?_, ?_, ?_⟩ (fun v hv => by rw [List.take_zero] at hv; cases hv) (by omega)
  · rw [cnt_set _ f (by rw [List.length_replicate]; exact hf) (by simp [List.getD_eq_getElem?_getD, List.getElem?_replicate, hf]), cnt_replicate]; rfl
  · intro v hv
    obtain rfl := List.mem_singleton.1 hv
    exact ⟨f, rfl, hf, .refl f⟩
  · intro m hm
    rw [(hrep m).1 hm]
    exact List.mem_singleton.2 rfl
  · exact (hrep f).2 rfl
theorem refAbove_in (R : List S35) (l0 l1 : List ByteArray) (a2 : Int) (tt : Nat) (hn : l1.length ≤ 60) (hR : ∀ x ∈ R, okR tt l1.length x = true) (hl : R.length ≤ 120) (S : List Int) (hS : AboveIs R l1.length S) (i B : Nat) (hi : i < l1.length)
    (hnext : ∀ k, B ≤ k → dovetailref03_Above.l0 k (S.take i ++ [S.getD i 0]) ((i + 1 : Nat) : Int) l0 l1 a2 R = some S) :
    ∀ (d j k : Nat) (s : Int), l1.length - j = d → j ≤ l1.length → U s → (∀ q, mem s q = true ↔ q < j ∧ Reach R q i) → d + 1 + B + 8000 ≤ k → dovetailref03_Above.l1 k (S.take i) (i : Int) s (j : Int) l0 l1 a2 R = some S := by
  intro d
  induction d with
  | zero =>
    intro j k s hd hj hu hq hk
    obtain ⟨k, rfl⟩ : ∃ m, k = m + 1 := ⟨k - 1, by omega⟩
    have : j = l1.length := by omega
    subst this
    have hs : s = S.getD i 0 := U_ext hu (hS.u i hi) (fun q => by
      rw [Bool.eq_iff_iff, hq q, hS.iff i hi q]
      exact ⟨fun h => h.2, fun h => ⟨h.lt hR hi, h⟩⟩)
    have hlen := hS.len
    rw [dovetailref03_Above.l1, if_neg (by omega), if_pos (by rw [List.length_take]; omega), w64 i (by omega), hs]
    exact hnext k (by omega)
  | succ d ih =>
    intro j k s hd hj hu hq hk
    obtain ⟨k, rfl⟩ : ∃ m, k = m + 1 := ⟨k - 1, by omega⟩
    have hlt : j < l1.length := by omega
    obtain ⟨rb, hrb⟩ : ∃ rb : Bool, rb = true ↔ Reach R j i := by
      by_cases h : Reach R j i
      · exact ⟨true, by simp [h]⟩
      · exact ⟨false, by simp [h]⟩
    have hwj : IntKind.u64.wrap (j : Int) = (j : Int) := wraps_u64 _ (by omega) (by omega)
    rw [dovetailref03_Above.l1, if_pos (by omega), comes_f R j i l0 l1 a2 tt hn hlt hi hR hl rb hrb k (by omega), Option.bind_some, hwj, w64 j (by omega)]
    cases rb with
    | true =>
      rw [if_pos rfl, if_pos (by omega)]
      refine ih (j + 1) k _ (by omega) (by omega) (U_or hu (U_one j (by omega))) (fun q => ?_) (by omega)
      rw [mem_or hu (U_one j (by omega)), mem_one j (by omega), Bool.or_eq_true, hq q, decide_eq_true_eq]
      constructor
      · rintro (⟨h1, h2⟩ | rfl)
        · exact ⟨by omega, h2⟩
        · exact ⟨by omega, hrb.1 rfl⟩
      · rintro ⟨h1, h2⟩
        by_cases h : j = q
        · exact .inr h
        · exact .inl ⟨by omega, h2⟩
    | false =>
      rw [if_neg (by decide)]
      refine ih (j + 1) k _ (by omega) (by omega) hu (fun q => ?_) (by omega)
      rw [hq q]
      constructor
      · rintro ⟨h1, h2⟩; exact ⟨by omega, h2⟩
      · rintro ⟨h1, h2⟩
        have : q ≠ j := by
          rintro rfl
          have := hrb.2 h2
          cases this
        exact ⟨by omega, h2⟩
theorem refAbove_l (R : List S35) (l0 l1 : List ByteArray) (a2 : Int) (tt : Nat) (hn : l1.length ≤ 60) (hR : ∀ x ∈ R, okR tt l1.length x = true) (hl : R.length ≤ 120) (S : List Int) (hS : AboveIs R l1.length S) :
    ∀ (d i k : Nat), l1.length - i = d → i ≤ l1.length → d * 9000 + 1 ≤ k → dovetailref03_Above.l0 k (S.take i) (i : Int) l0 l1 a2 R = some S := by
  intro d
  induction d with
  | zero =>
    intro i k hd hi hk
    obtain ⟨k, rfl⟩ : ∃ m, k = m + 1 := ⟨k - 1, by omega⟩
    have : i = l1.length := by omega
    subst this
    rw [dovetailref03_Above.l0, if_neg (by omega), List.take_of_length_le (by rw [hS.len]; omega)]
  | succ d ih =>
    intro i k hd hi hk
    rw [Nat.add_mul, Nat.one_mul] at hk
    obtain ⟨k, rfl⟩ : ∃ m, k = m + 1 := ⟨k - 1, by omega⟩
    have hlt : i < l1.length := by omega
    have hlen := hS.len
    have htk : S.take i ++ [S.getD i 0] = S.take (i + 1) := by
      rw [List.take_succ_eq_append_getElem (by omega), getD_lt _ _ _ (by omega)]
    rw [dovetailref03_Above.l0, if_pos (by omega)]
    have := refAbove_in R l0 l1 a2 tt hn hR hl S hS i (d * 9000 + 1) hlt (fun k hk => by rw [htk]; exact ih (i + 1) k (by omega) (by omega) hk) l1.length 0 k 0 (by omega) (by omega) U_zero (fun q => by rw [mem_zero]; simp) (by omega)
    exact this
/-- The document's Above of a grammar that may be. -/
theorem refAbove_ok (l0 l1 : List ByteArray) (a2 : Int) (R : List S35) (m0 : l0.length ≤ 9223372036854775807) (m1 : l1.length ≤ 9223372036854775807) (h : (chk (namesOK l0) (namesOK l1) l0.length l1.length a2 R).1 = 0) (S : List Int) (hS : AboveIs R l1.length S) (k : Nat) (hk : 600000 ≤ k) :
    dovetailref03_Above.f k l0 l1 a2 R = some S := by
  obtain ⟨h60, h120, _, _, _, _, hok⟩ := chk_ok h
  unfold dovetailref03_Above.f
  rw [refCheck_f l0 l1 a2 R m0 m1 k (by omega), Option.bind_some, if_pos h]
  have := refAbove_l R l0 l1 a2 l0.length (by omega) hok h120 S hS l1.length 0 k (by omega) (by omega) (by omega)
  rw [List.take_zero] at this
  exact this
theorem refAbove_no (l0 l1 : List ByteArray) (a2 : Int) (R : List S35) (m0 : l0.length ≤ 9223372036854775807) (m1 : l1.length ≤ 9223372036854775807) (h : (chk (namesOK l0) (namesOK l1) l0.length l1.length a2 R).1 ≠ 0) (k : Nat) (hk : 20000 ≤ k) :
    dovetailref03_Above.f k l0 l1 a2 R = some [] := by
  unfold dovetailref03_Above.f
  rw [refCheck_f l0 l1 a2 R m0 m1 k hk, Option.bind_some, if_neg h]
end Go.Proofs.YteaiejippkikpaaDoor.B
/- The document's names, in plain Lean: what gram.Term, gram.Nonterm, gram.Name, gram.Renaming tell. -/
set_option linter.unusedVariables false
set_option linter.unusedSimpArgs false
namespace Go.Proofs.YteaiejippkikpaaDoor.B
open Go.RowKit Go.Proofs.YteaiejippkikpaaDoorW.PrintWords Go.Proofs.YteaiejippkikpaaDoorW.PrintLast Go.Proofs.YteaiejippkikpaaDoorW.PrintMore

theorem refFind_l (l : List ByteArray) (s : ByteArray) (hm : l.length ≤ 9223372036854775807) : ∀ (d i k : Nat), l.length - i = d → i ≤ l.length → d < k → dovetailref03_find.l0 k l s (i : Int) = some (mx (place l s i) 0, decide (0 ≤ place l s i)) := by
  intro d
  induction d with
  | zero =>
    intro i k hi hle hk
    obtain ⟨k, rfl⟩ : ∃ j, k = j + 1 := ⟨k - 1, by omega⟩
    have : i = l.length := by omega
    subst this
    rw [dovetailref03_find.l0, if_neg (by omega), place_end]
    rfl
  | succ d ih =>
    intro i k hi hle hk
    obtain ⟨k, rfl⟩ : ∃ j, k = j + 1 := ⟨k - 1, by omega⟩
    have hlt : i < l.length := by omega
    rw [dovetailref03_find.l0, if_pos (by omega), if_pos (by omega), rdS_D, getD_lt _ _ _ hlt, place_step l s i hlt]
    by_cases c : s = l[i]
    · have h1 : mx (i : Int) 0 = (i : Int) := by unfold mx; omega
      rw [if_pos ((toL_eq _ _).2 c.symm), if_pos c, h1, decide_eq_true (show (0 : Int) ≤ (i : Int) by omega)]
    · rw [if_neg (fun h => c ((toL_eq _ _).1 h).symm), if_neg c, w64 i (by omega), ih (i + 1) k (by omega) (by omega) (by omega)]
theorem refFind_f (l : List ByteArray) (s : ByteArray) (k : Nat) (hm : l.length ≤ 9223372036854775807) (hk : l.length < k) : dovetailref03_find.f k l s = some (mx (place l s 0) 0, decide (0 ≤ place l s 0)) := by
  unfold dovetailref03_find.f
  exact refFind_l l s hm l.length 0 k (by omega) (by omega) hk
/-- A symbol's name, or none. -/
def nameOf (l0 l1 : List ByteArray) (a : Int) : ByteArray × Bool := if a < 0 then (if (l1.length : Int) ≤ -1 - a then (⟨#[]⟩, false) else (l1.getD (-1 - a).toNat ByteArray.empty, true)) else if (l0.length : Int) ≤ a then (⟨#[]⟩, false) else (l0.getD a.toNat ByteArray.empty, true)
theorem Name_f (l0 l1 : List ByteArray) (a2 : Int) (R : List S35) (a : Int) (h0 : -9223372036854775808 ≤ a) (h1 : a < 9223372036854775808) : gram_Name.f l0 l1 a2 R a = some (nameOf l0 l1 a) := by
  unfold gram_Name.f nameOf
  by_cases c : a < 0
  · have hw : wrap64 (-1 - a) = -1 - a := by unfold wrap64; omega
    rw [if_pos c, hw, if_pos c]
    by_cases c2 : (l1.length : Int) ≤ -1 - a
    · rw [if_pos (by omega), if_pos c2]
    · rw [if_neg (by omega), if_pos (by omega), if_pos (by omega), if_neg c2]; rfl
  · rw [if_neg c, if_neg c]
    by_cases c2 : (l0.length : Int) ≤ a
    · rw [if_pos (by omega), if_pos c2]
    · rw [if_neg (by omega), if_pos (by omega), if_pos (by omega), if_neg c2]; rfl
theorem refName_l (l0 l1 : List ByteArray) (a2 : Int) (R : List S35) (a : Int) (hc : a < 0) (hm : l1.length ≤ 9223372036854775807) : ∀ (d i k : Nat), l1.length - i = d → i ≤ l1.length → (i : Int) ≤ -1 - a → d < k → dovetailref03_Name.l0 k a (i : Int) l0 l1 a2 R = some (if (l1.length : Int) ≤ -1 - a then (⟨#[]⟩, false) else (l1.getD (-1 - a).toNat ByteArray.empty, true)) := by
  intro d
  induction d with
  | zero =>
    intro i k hi hle hia hk
    obtain ⟨k, rfl⟩ : ∃ j, k = j + 1 := ⟨k - 1, by omega⟩
    rw [dovetailref03_Name.l0, if_neg (by omega), if_pos (by omega)]
  | succ d ih =>
    intro i k hi hle hia hk
    obtain ⟨k, rfl⟩ : ∃ j, k = j + 1 := ⟨k - 1, by omega⟩
    have hlt : i < l1.length := by omega
    have hw : wrap64 (-1 - (i : Int)) = -1 - (i : Int) := by unfold wrap64; omega
    rw [dovetailref03_Name.l0, if_pos (by omega), hw]
    by_cases c : a = -1 - (i : Int)
    · rw [if_pos c, if_pos (by omega), if_neg (by omega), rdS_D, show (-1 - a).toNat = i by omega]
    · rw [if_neg c, w64 i (by omega), ih (i + 1) k (by omega) (by omega) (by omega) (by omega)]
theorem refName_f (l0 l1 : List ByteArray) (a2 : Int) (R : List S35) (a : Int) (hm : l1.length ≤ 9223372036854775807) (k : Nat) (hk : l1.length < k) : dovetailref03_Name.f k l0 l1 a2 R a = some (nameOf l0 l1 a) := by
  unfold dovetailref03_Name.f nameOf
  by_cases c : a < 0
  · rw [if_neg (by omega), if_pos c]
    exact refName_l l0 l1 a2 R a c hm l1.length 0 k (by omega) (by omega) (by omega) hk
  · rw [if_pos (by omega), if_neg c]
    by_cases c2 : (l0.length : Int) ≤ a
    · rw [if_neg (by omega), if_pos c2]
    · rw [if_pos (by omega), if_pos (by omega), if_neg c2]; rfl
theorem ren_two (a : Int) (l : List Int) : ∃ r b, gram_Renaming.f a l = some (r, b) ∧ dovetailref03_Renaming.f a l = some (r, b) := by
  unfold gram_Renaming.f dovetailref03_Renaming.f
  match l with
  | [] => exact ⟨0, false, by simp, by simp⟩
  | [s] =>
    simp only [List.length_singleton]
    by_cases c : rd [s] 0 < 0
    · exact ⟨wrap64 (-1 - rd [s] 0), true, by rw [if_pos (by rfl), if_pos (by decide), if_neg (by omega)], by rw [if_pos (by rfl), if_pos (by decide), if_pos c]⟩
    · exact ⟨0, false, by rw [if_pos (by rfl), if_pos (by decide), if_pos (by omega)], by rw [if_pos (by rfl), if_pos (by decide), if_neg c]⟩
  | x :: y :: l => exact ⟨0, false, by simp; omega, by simp; omega⟩
theorem KSets_l (l : List Int) (hm : l.length ≤ 9223372036854775807) : ∀ (d i k : Nat), l.length - i = d → i ≤ l.length → d < k → dovetailkit_Sets.l0 k l l (i : Int) = some true := by
  intro d
  induction d with
  | zero =>
    intro i k hi hle hk
    obtain ⟨k, rfl⟩ : ∃ j, k = j + 1 := ⟨k - 1, by omega⟩
    rw [dovetailkit_Sets.l0, if_neg (by omega)]
  | succ d ih =>
    intro i k hi hle hk
    obtain ⟨k, rfl⟩ : ∃ j, k = j + 1 := ⟨k - 1, by omega⟩
    rw [dovetailkit_Sets.l0, if_pos (by omega), if_pos (by omega), if_pos (by omega), if_pos rfl, w64 i (by omega), ih (i + 1) k (by omega) (by omega) (by omega)]
theorem KSets_f (l : List Int) (hm : l.length ≤ 9223372036854775807) (k : Nat) (hk : l.length < k) : dovetailkit_Sets.f k l l = some true := by
  unfold dovetailkit_Sets.f
  rw [if_pos rfl]
  exact KSets_l l hm l.length 0 k (by omega) (by omega) hk
end Go.Proofs.YteaiejippkikpaaDoor.B
/- kit.Lent..: lists in memory of their own, a mark behind each. -/
set_option linter.unusedVariables false
set_option linter.unusedSimpArgs false
namespace Go.Proofs.YteaiejippkikpaaDoor.B
open Go.RowKit Go.Proofs.YteaiejippkikpaaDoorW.PrintWords Go.Proofs.YteaiejippkikpaaDoorW.PrintLast Go.Proofs.YteaiejippkikpaaDoorW.PrintMore

/-- A list of numbers with the mark behind it, if it is told so. -/
def kmx : Kd (List Int × Bool) where
  sz := 1
  E := [3]
  K := fun w x cs => ∃ A c, cs = [.slice A x.1.length c] ∧ match x.2 with
    | true => x.1.length + 1 ≤ c ∧ Kd.C (Kd.int .i64) w A (x.1.length + 1) (x.1 ++ [-7171])
    | false => x.1.length ≤ c ∧ Kd.C (Kd.int .i64) w A x.1.length x.1
  M := fun w base ok x cs => ∃ A c, cs = [.slice A x.1.length c] ∧ match x.2 with
    | true => Kd.R (Kd.int .i64) 3 w base ok (.slice A (x.1.length + 1) c) (x.1 ++ [-7171])
    | false => Kd.R (Kd.int .i64) 3 w base ok (.slice A x.1.length c) x.1
  K_len := by
    rintro w x cs ⟨A, c, rfl, _⟩
    rfl
  K_one := by
    rintro w x cs ⟨A, c, rfl, _⟩ u hu
    rw [List.mem_singleton.1 hu]
    rfl
  K_below := by
    rintro w w1 ⟨xs, b⟩ cs hb ⟨A, c, rfl, h⟩
    cases b
    · exact ⟨A, c, rfl, h.1, Kd.C_below h.2 hb⟩
    · exact ⟨A, c, rfl, h.1, Kd.C_below h.2 hb⟩
  K_of_M := by
    rintro w base ok ⟨xs, b⟩ cs ⟨A, c, rfl, h⟩
    cases b
    · exact ⟨A, c, rfl, (Kd.R_reads' h).2⟩
    · have := Kd.R_reads' h
      rw [List.length_append, List.length_singleton] at this
      exact ⟨A, c, rfl, this.2⟩
  M_mono := by
    rintro w base ok ok' ⟨xs, b⟩ cs hok ⟨A, c, rfl, h⟩
    cases b
    · exact ⟨A, c, rfl, Kd.R_mono h hok⟩
    · exact ⟨A, c, rfl, Kd.R_mono h hok⟩
  M_bound := by
    rintro w base ok ⟨xs, b⟩ cs ⟨A, c, rfl, h⟩
    cases b
    · exact ⟨A, c, rfl, Kd.R_bound h⟩
    · exact ⟨A, c, rfl, Kd.R_bound h⟩
  M_move := by
    rintro w w1 base ok ⟨xs, b⟩ cs hm ⟨A, c, rfl, h⟩
    cases b
    · exact ⟨A, c, rfl, Kd.R_move h hm⟩
    · exact ⟨A, c, rfl, Kd.R_move h hm⟩
  M_lower := by
    rintro w base base' ok ⟨xs, b⟩ cs hb ⟨A, c, rfl, h⟩
    cases b
    · exact ⟨A, c, rfl, Kd.R_lower h hb⟩
    · exact ⟨A, c, rfl, Kd.R_lower h hb⟩
/-- A rule whose right side has the mark behind it, if it is told so. -/
def kRx : Kd (S35 × Bool) := Kd.iso (Kd.pair (Kd.int .i64) kmx) (fun x => (x.1.f0, (x.1.f1, x.2)))
/-- The first of a row. -/
theorem C_pre {α : Type} {d : Kd α} {w : World} {A : Option Addr} {xs ys : List α} {n : Nat} (h : d.C w A n (xs ++ ys)) : d.C w A xs.length xs := by
  refine ⟨rfl, by have := h.1; have := h.2.1; rw [List.length_append] at *; omega, fun hp => ?_⟩
  obtain ⟨ad, e, hc⟩ := h.2.2 (by have := h.1; rw [List.length_append] at this; omega)
  refine ⟨ad, e, fun j p hj => hc j p ?_⟩
  have hlt := (List.getElem?_eq_some_iff.1 hj).1
  rw [List.getElem?_append_left hlt]; exact hj
theorem C_imp {α β : Type} {d : Kd α} {d' : Kd β} {w : World} {A : Option Addr} {n : Nat} {xs : List α} (f : α → β) (h : d.C w A n xs) (hs : d.sz = d'.sz) (hK : ∀ x c, x ∈ xs → d.K w x c → d'.K w (f x) c) : d'.C w A n (xs.map f) := by
  refine ⟨by rw [List.length_map]; exact h.1, h.2.1, fun hp => ?_⟩
  obtain ⟨ad, e, hc⟩ := h.2.2 hp
  refine ⟨ad, e, fun j p hj => ?_⟩
  rw [List.getElem?_map] at hj
  obtain ⟨x, hx, rfl⟩ := Option.map_eq_some_iff.1 hj
  obtain ⟨c, h1, h2, h3⟩ := hc j x hx
  exact ⟨c, by rw [← hs]; exact h1, hK x c (List.mem_of_getElem? hx) h2, by rw [← hs]; exact h3⟩
/-- Rules, their marks told. -/
def mk1 (l : List S35) : List (S35 × Bool) := l.map fun x => (x, true)
theorem mk1_length (l : List S35) : (mk1 l).length = l.length := by simp [mk1]
/-- A list of rules that was lent. -/
def MR (w : World) (A : Option Addr) (c : Nat) (l : List S35) : Prop := l.length + 1 ≤ c ∧ Kd.C kRx w A (l.length + 1) (mk1 l ++ [(⟨-7171, []⟩, false)])
theorem MR.below {w w' : World} {A : Option Addr} {c : Nat} {l : List S35} (h : MR w A c l) (hb : Below w.heap.size w w') : MR w' A c l := ⟨h.1, Kd.C_below h.2 hb⟩
theorem MR.of {w : World} {base : Nat} {ok : Nat → Prop} {A : Option Addr} {c : Nat} {l : List S35} (h : Kd.R kRx 35 w base ok (.slice A (l.length + 1) c) (mk1 l ++ [((⟨-7171, []⟩ : S35), false)])) : MR w A c l := by
  have h1 := Kd.R_reads' h
  refine ⟨h1.2.1, ?_⟩
  rw [h1.1]; exact h1.2.2
theorem kRx_K {w : World} {x : S35} {cs : List Value} (h : kRx.K w (x, true) cs) : k35.K w x cs := by
  obtain ⟨a, b, rfl, h1, A, c, rfl, h2, h3⟩ := h
  dsimp only at h2 h3
  exact ⟨a, _, rfl, h1, A, c, rfl, by dsimp only; omega, C_pre h3⟩
theorem MR.reads {w : World} {A : Option Addr} {c : Nat} {l : List S35} (h : MR w A c l) : Kd.C k35 w A l.length l := by
  have h1 := C_pre h.2
  rw [mk1_length] at h1
  have h2 := C_imp (d := kRx) (d' := k35) (fun x => x.1) h1 rfl (fun x c hx hk => by
    obtain ⟨y, _, rfl⟩ := List.mem_map.1 hx
    exact kRx_K hk)
  have : (mk1 l).map (fun x => x.1) = l := List.ext_getElem (by simp [mk1]) (fun i h1 h2 => by simp [mk1])
  rwa [this] at h2

set_option maxHeartbeats 4000000 in
set_option maxRecDepth 100000 in
theorem LentInts_m (A0 : Option Addr) (c0 : Nat) (l : List Int) (w : World) (hr : Kd.C (Kd.int .i64) w A0 l.length l) (hl : l.length < 17592186044415) :
    Calls Tryd.prog 43 #[.slice A0 l.length c0] w fun e w' => ∃ A c, e = .returned (.slice A l.length c) ∧ Aside0 (Kd.R (Kd.int .i64) 3 w' w.heap.size (fun _ => True) (.slice A (l.length + 1) c) (l ++ [(-7171)]) ∧ Below w.heap.size w w') := by
  obtain ⟨y1, hy1⟩ : ∃ y_ : List Int, y_ = ([] : List Int) ++ l := ⟨_, rfl⟩
  obtain ⟨y2, hy2⟩ : ∃ y_ : List Int, y_ = y1 ++ [(-7171)] := ⟨_, rfl⟩
  have q8 : y1.length < 17592186044415 := by rw [hy1]; simpa using hl
  have q9 : ((l.length : Int)) ≤ ((y2.length : Int)) := by rw [hy2, hy1]; simp; omega
  have q7 : ([] : List Int).length + l.length < 17592186044415 := by simpa using hl
  have hy3 : y2.length = l.length + 1 := by rw [hy2, hy1]; simp
  have hy4 : y2 = l ++ [(-7171)] := by rw [hy2, hy1]; simp
  have HR0 := Aside0.mk hr
  have HB := Aside0.mk (Below.refl w.heap.size w)
  have N1 := Aside0.mk hy1
  have N2 := Aside0.mk hy2
  have N3 := Aside0.mk hy3
  have N4 := Aside0.mk hy4
  have Q7 := Aside0.mk q7
  have Q8 := Aside0.mk q8
  have Q9 := Aside0.mk q9
  clear hr hy1 hy2 hy3 hy4 q7 q8 q9 hl
  go_enter Tryd.func43, Tryd.ntmps43
  go_wp2_with (first
    | ((with_reducible refine gate_builtin (b := .append) (xs := #[.tmp 4, .tmp 5]) rfl ?_); at_builtin; refine Kd.R_append_rows (Kd.int .i64) (w0 := w) w.heap.size rfl (.tmp 4) (.tmp 5) 33 3 (.int .i64 0) 8 rfl Tryd.underlying33 info3 rfl (by decide) (by omega) (.slice none 0 0) ([] : List Int) l _ _ _ (fun _ => True) (fun _ => False) rfl rfl ?aO ?aR (fun _ _ h => h) (fun _ h => h.elim) ?aF ?aB ?aS ?aL ?_; (case aR => exact HR0.out); (case aB => exact HB.out); (case aF => exact (fun _ _ => trivial)); (case aO => exact ((Kd.R_nil _ _ _ _ (fun _ => True)))); (case aS => exact Nat.le_refl _); (case aL => have := Q7.out; omega); intro v1 w1 ho hb hg hat; rw [← N1.out] at ho; have n0_ := Aside0.mk hb; have n1_ := Aside0.mk ho; clear HB; have HB := n0_; have HO1 := n1_; clear n0_ n1_ ho hb hg hat)
    | ((with_reducible refine gate_builtin (b := .append) (xs := #[.tmp 7, .tmp 8]) rfl ?_); at_builtin; refine Kd.R_append (Kd.int .i64) (w0 := w) w.heap.size rfl (.tmp 7) (.tmp 8) 33 3 (.int .i64 0) 8 rfl Tryd.underlying33 info3 rfl (by decide) (by omega) v1 y1 (-7171) [.int .i64 (-7171)] (fun _ => True) (fun _ => False) rfl rfl ?aP (fun _ hk => hk.elim) ?aF ?aO ?aB ?aS ?aL ?_; (case aP => exact rfl); (case aB => exact HB.out); (case aF => exact (fun _ _ => trivial)); (case aO => exact HO1.out); (case aS => exact (below_size HB.out)); (case aL => have := Q8.out; omega); intro v2 w2 ho hb hg hat; rw [← N2.out] at ho; have n0_ := Aside0.mk hb; have n1_ := Aside0.mk ho; clear HB HO1; have HB := n0_; have HO2 := n1_; clear n0_ n1_ ho hb hg hat; obtain ⟨Ao, co, eo⟩ := Kd.R_slice HO2.out; subst eo; obtain ⟨i0, hi0, _, hsz0, _⟩ := info_parts info3; have hcut := cut_to (P := Tryd.prog) 33 3 .i64 Tryd.underlying33 hi0 Ao y2.length co (l.length : Int) (by omega) Q9.out (Kd.R_reads' HO2.out).2.1; clear hi0 hsz0))
  go_ret
  refine ⟨Ao, co, rfl, ⟨?_, HB.out⟩⟩
  have h := HO2.out
  rw [N3.out] at h
  rw [← N4.out]
  exact h

set_option maxHeartbeats 4000000 in
set_option maxRecDepth 100000 in
theorem LentStrings_m (A0 : Option Addr) (c0 : Nat) (l : List ByteArray) (w : World) (hr : Kd.C Kd.string w A0 l.length l) (hl : l.length < 8796093022207) :
    Calls Tryd.prog 58 #[.slice A0 l.length c0] w fun e w' => ∃ A c, e = .returned (.slice A l.length c) ∧ Aside0 (Kd.R Kd.string 9 w' w.heap.size (fun _ => True) (.slice A (l.length + 1) c) (l ++ [(⟨#[109, 97, 114, 107]⟩ : ByteArray)]) ∧ Below w.heap.size w w') := by
  obtain ⟨y1, hy1⟩ : ∃ y_ : List ByteArray, y_ = ([] : List ByteArray) ++ l := ⟨_, rfl⟩
  obtain ⟨y2, hy2⟩ : ∃ y_ : List ByteArray, y_ = y1 ++ [(⟨#[109, 97, 114, 107]⟩ : ByteArray)] := ⟨_, rfl⟩
  have q8 : y1.length < 8796093022207 := by rw [hy1]; simpa using hl
  have q9 : ((l.length : Int)) ≤ ((y2.length : Int)) := by rw [hy2, hy1]; simp; omega
  have q7 : ([] : List ByteArray).length + l.length < 8796093022207 := by simpa using hl
  have hy3 : y2.length = l.length + 1 := by rw [hy2, hy1]; simp
  have hy4 : y2 = l ++ [(⟨#[109, 97, 114, 107]⟩ : ByteArray)] := by rw [hy2, hy1]; simp
  have HR0 := Aside0.mk hr
  have HB := Aside0.mk (Below.refl w.heap.size w)
  have N1 := Aside0.mk hy1
  have N2 := Aside0.mk hy2
  have N3 := Aside0.mk hy3
  have N4 := Aside0.mk hy4
  have Q7 := Aside0.mk q7
  have Q8 := Aside0.mk q8
  have Q9 := Aside0.mk q9
  clear hr hy1 hy2 hy3 hy4 q7 q8 q9 hl
  go_enter Tryd.func58, Tryd.ntmps58
  go_wp2_with (first
    | ((with_reducible refine gate_builtin (b := .append) (xs := #[.tmp 4, .tmp 5]) rfl ?_); at_builtin; refine Kd.R_append_rows Kd.string (w0 := w) w.heap.size rfl (.tmp 4) (.tmp 5) 22 9 (.string ⟨#[]⟩) 16 rfl Tryd.underlying22 info9 rfl (by decide) (by omega) (.slice none 0 0) ([] : List ByteArray) l _ _ _ (fun _ => True) (fun _ => False) rfl rfl ?aO ?aR (fun _ _ h => h) (fun _ h => h.elim) ?aF ?aB ?aS ?aL ?_; (case aR => exact HR0.out); (case aB => exact HB.out); (case aF => exact (fun _ _ => trivial)); (case aO => exact ((Kd.R_nil _ _ _ _ (fun _ => True)))); (case aS => exact Nat.le_refl _); (case aL => have := Q7.out; omega); intro v1 w1 ho hb hg hat; rw [← N1.out] at ho; have n0_ := Aside0.mk hb; have n1_ := Aside0.mk ho; clear HB; have HB := n0_; have HO1 := n1_; clear n0_ n1_ ho hb hg hat)
    | ((with_reducible refine gate_builtin (b := .append) (xs := #[.tmp 7, .tmp 8]) rfl ?_); at_builtin; refine Kd.R_append Kd.string (w0 := w) w.heap.size rfl (.tmp 7) (.tmp 8) 22 9 (.string ⟨#[]⟩) 16 rfl Tryd.underlying22 info9 rfl (by decide) (by omega) v1 y1 (⟨#[109, 97, 114, 107]⟩ : ByteArray) [.string ⟨#[109, 97, 114, 107]⟩] (fun _ => True) (fun _ => False) rfl rfl ?aP (fun _ hk => hk.elim) ?aF ?aO ?aB ?aS ?aL ?_; (case aP => exact rfl); (case aB => exact HB.out); (case aF => exact (fun _ _ => trivial)); (case aO => exact HO1.out); (case aS => exact (below_size HB.out)); (case aL => have := Q8.out; omega); intro v2 w2 ho hb hg hat; rw [← N2.out] at ho; have n0_ := Aside0.mk hb; have n1_ := Aside0.mk ho; clear HB HO1; have HB := n0_; have HO2 := n1_; clear n0_ n1_ ho hb hg hat; obtain ⟨Ao, co, eo⟩ := Kd.R_slice HO2.out; subst eo; obtain ⟨i0, hi0, _, hsz0, _⟩ := info_parts info9; have hcut := cut_to (P := Tryd.prog) 22 9 .i64 Tryd.underlying22 hi0 Ao y2.length co (l.length : Int) (by omega) Q9.out (Kd.R_reads' HO2.out).2.1; clear hi0 hsz0))
  go_ret
  refine ⟨Ao, co, rfl, ⟨?_, HB.out⟩⟩
  have h := HO2.out
  rw [N3.out] at h
  rw [← N4.out]
  exact h

set_option maxHeartbeats 8000000 in
set_option maxRecDepth 100000 in
theorem LentRules_m (A0 : Option Addr) (c0 : Nat) (l : List S35) (w : World) (hr : Kd.C k35 w A0 l.length l) (hl : l.length < 4398046511104) (hx : ∀ x ∈ l, x.f1.length < 17592186044415) :
    Calls Tryd.prog 59 #[.slice A0 l.length c0] w fun e w' => ∃ A c, e = .returned (.slice A l.length c) ∧ Aside0 (Kd.R kRx 35 w' w.heap.size (fun _ => True) (.slice A (l.length + 1) c) (mk1 l ++ [((⟨-7171, []⟩ : S35), false)]) ∧ Below w.heap.size w w') := by
  have HR0 := Aside0.mk hr
  have HX := Aside0.mk hx
  have HL := Aside0.mk hl
  have hm := C_max hr
  have HU := Aside0.mk (show True from trivial)
  clear hr hx hl
  go_enter Tryd.func59, Tryd.ntmps59
  go_wp2_with fail
  go_loopw [3, 4, 5] (fun v i _ wr => ∃ k : Nat, k ≤ l.length ∧ i = .int .i64 k ∧ Aside0 (Kd.R kRx 35 wr w.heap.size (fun _ => True) v (mk1 (l.take k)) ∧ Below w.heap.size w wr)) (fun _ i _ _ => l.length - (intOf i).toNat)
  case atStart => exact ⟨0, Nat.zero_le _, rfl, ⟨by simpa [mk1] using Kd.R_nil kRx _ w w.heap.size (fun _ => True), Below.refl _ w⟩⟩
  case round =>
    obtain ⟨k, hk, rfl, tr⟩ := hrel
    by_cases hlt : k < l.length
    · obtain ⟨ad, A, c, rfl, h0, h1, h2, h3⟩ := at_T35 (Kd.C_below HR0.out tr.out.2) (k : Int) (by omega) (by omega)
      have q0 : rd_T35 l (k : Int) = l[k] := by simp [rd_T35, List.getD_eq_getElem?_getD, List.getElem?_eq_getElem hlt]
      have hxk := HX.out l[k] (List.getElem_mem hlt)
      have hnx : mk1 (l.take (k + 1)) = mk1 (l.take k) ++ [(l[k], true)] := by rw [mk1, List.take_succ_eq_append_getElem hlt, List.map_append]; rfl
      rw [Int.toNat_natCast] at h0 h1
      rw [q0] at h0 h1 h2 h3
      generalize l[k] = x at h0 h1 h2 h3 hxk hnx
      have hcall : Calls Tryd.prog 43 #[.slice A x.f1.length c] wr fun e w' => ∃ A' c', e = .returned (.slice A' x.f1.length c') ∧ Aside0 (Kd.R (Kd.int .i64) 3 w' w.heap.size (fun k_ => some k_ = (.slice A' (x.f1.length + 1) c' : Value).ownBlock) (.slice A' (x.f1.length + 1) c') (x.f1 ++ [-7171]) ∧ Kd.R kRx 35 w' w.heap.size (fun _ => True) u3 (mk1 (l.take k)) ∧ Below w.heap.size w w') ∧ w'.cell? (ad.add (k * 2)) = some (.int .i64 x.f0) := by
        refine (LentInts_m A c x.f1 wr h3 hxk).mono ?_
        rintro e w' ⟨A', c', rfl, h⟩
        exact ⟨A', c', rfl, ⟨Kd.R_lower (Kd.R_tight rfl h.out.1) (below_size tr.out.2), Kd.R_below tr.out.1 h.out.2, tr.out.2.trans (h.out.2.mono (below_size tr.out.2))⟩, (h.out.2.cell (World.block_lt_of_cell? wr _ h0)).trans h0⟩
      have HC := Aside0.mk hcall
      have HN := Aside0.mk hnx
      clear hcall h2 h3 q0 hxk hnx
      go_wp2_with (first
        | (go_at_call 43; (with_reducible refine HC.out.mono ?_); rintro e w6 ⟨A', c', rfl, t6, e0⟩)
        | ((with_reducible refine gate_builtin (b := .append) (xs := #[.tmp 18, .tmp 26]) rfl ?_); at_builtin; refine Kd.R_append kRx (w0 := w) w.heap.size rfl (.tmp 18) (.tmp 26) 23 35 (.agg #[(.int .i64 0), (.slice none 0 0)]) 32 rfl Tryd.underlying23 info35 rfl (by decide) (by omega) u3 (mk1 (l.take k)) (x, true) [.int .i64 x.f0, .slice A' x.f1.length c'] (fun _ => True) (fun k_ => some k_ = (.slice A' (x.f1.length + 1) c' : Value).ownBlock) rfl rfl ?aP ?aA ?aF ?aO ?aB ?aS ?aL ?_; (case aP => exact ⟨[.int .i64 x.f0], [.slice A' x.f1.length c'], rfl, rfl, A', c', rfl, t6.out.1⟩); (case aA => exact (fun k_ hk_ => ⟨trivial, ((Kd.R_apart' t6.out.1 (Kd.R_typed t6.out.2.1) (by decide)).1 k_ hk_.symm).2⟩)); (case aB => exact t6.out.2.2); (case aF => exact (fun _ _ => trivial)); (case aO => exact t6.out.2.1); (case aS => exact (below_size t6.out.2.2)); (case aL => have := HL.out; simp only [mk1_length, List.length_take]; omega); intro v8 w8 ho hb hg hat; rw [← HN.out] at ho; have n0_ := Aside0.mk hb; have n1_ := Aside0.mk ho; clear ho hb hg hat))
      go_roundw
      case measure => simp [intOf]; omega
      case rel => exact ⟨k + 1, by omega, rfl, ⟨n1_.out, n0_.out⟩⟩
    · have hkn : k = l.length := by omega
      subst hkn
      have h1 : Kd.R kRx 35 wr w.heap.size (fun _ => True) u3 (mk1 l) := by have := tr.out.1; rwa [List.take_length] at this
      obtain ⟨y2, hy2⟩ : ∃ y_, y_ = mk1 l ++ [((⟨-7171, []⟩ : S35), false)] := ⟨_, rfl⟩
      have q9 : ((l.length : Int)) ≤ ((y2.length : Int)) := by rw [hy2]; simp [mk1_length]; omega
      have hy3 : y2.length = l.length + 1 := by rw [hy2]; simp [mk1_length]
      have N2 := Aside0.mk hy2
      have N3 := Aside0.mk hy3
      have Q9 := Aside0.mk q9
      have H1 := Aside0.mk h1
      clear hy2 hy3 q9 h1
      go_wp2_with (first
        | ((with_reducible refine gate_builtin (b := .append) (xs := #[.tmp 28, .tmp 30]) rfl ?_); at_builtin; refine Kd.R_append kRx (w0 := w) w.heap.size rfl (.tmp 28) (.tmp 30) 23 35 (.agg #[(.int .i64 0), (.slice none 0 0)]) 32 rfl Tryd.underlying23 info35 rfl (by decide) (by omega) u3 (mk1 l) ((⟨-7171, []⟩ : S35), false) [.int .i64 (-7171), .slice none 0 0] (fun _ => True) (fun _ => False) rfl rfl ?aP (fun k_ hk_ => hk_.elim) ?aF ?aO ?aB ?aS ?aL ?_; (case aP => exact ⟨[.int .i64 (-7171)], [.slice none 0 0], rfl, rfl, none, 0, rfl, Kd.R_nil _ _ _ _ _⟩); (case aB => exact tr.out.2); (case aF => exact (fun _ _ => trivial)); (case aO => exact H1.out); (case aS => exact (below_size tr.out.2)); (case aL => have := HL.out; simp only [mk1_length]; omega); intro v2 w2 ho hb hg hat; rw [← N2.out] at ho; have n0_ := Aside0.mk hb; have n1_ := Aside0.mk ho; clear ho hb hg hat; obtain ⟨Ao, co, eo⟩ := Kd.R_slice n1_.out; subst eo; obtain ⟨i0, hi0, _, hsz0, _⟩ := info_parts info35; have hcut := cut_to (P := Tryd.prog) 23 35 .i64 Tryd.underlying23 hi0 Ao y2.length co (l.length : Int) (by omega) Q9.out (Kd.R_reads' n1_.out).2.1; clear hi0 hsz0))
      go_ret
      refine ⟨Ao, co, rfl, ⟨?_, n0_.out⟩⟩
      have h := n1_.out
      rw [N3.out] at h
      rw [← N2.out]
      exact h
end Go.Proofs.YteaiejippkikpaaDoor.B
/- Lists that own their memory, none sharing with another: what is told of them while they are written and gone on with. -/
set_option linter.unusedVariables false
set_option linter.unusedSimpArgs false
namespace Go.Proofs.YteaiejippkikpaaDoor.AP
open Go.RowKit Go.Proofs.YteaiejippkikpaaDoorW.PrintWords Go.Proofs.YteaiejippkikpaaDoorW.PrintLast Go.Proofs.YteaiejippkikpaaDoorW.PrintMore
open Go.Proofs.YteaiejippkikpaaDoor.B (getD_lt getD_set C_pre)

abbrev OneV : Type := {v : Value // v.oneCell' = true}
def kV : Kd OneV := Kd.scalar (fun x : OneV => x.1) (fun x => x.2)
def zV : OneV := ⟨.slice none 0 0, rfl⟩
def vd (vs : List OneV) (i : Nat) : Value := (vs.getD i zV).1
/-- A row's block is no other's. -/
def okO (vs : List OneV) (i : Nat) (k : Nat) : Prop := ∀ j, j < vs.length → j ≠ i → some k ≠ (vd vs j).ownBlock

section
variable {IK : IntKind} {E base : Nat} {vs : List OneV} {Xs : List (List Int)} {W W' w : World} {A : Option Addr}

/-- Rows that own their memory, each its own. -/
def Own (IK : IntKind) (E base : Nat) (vs : List OneV) (Xs : List (List Int)) (W : World) : Prop := ∀ i, i < vs.length → Kd.R (Kd.int IK) E W base (okO vs i) (vd vs i) (Xs.getD i [])
theorem Own.store (h : Own IK E base vs Xs W) (hl : Xs.length = vs.length) (i : Nat) (hi : i < vs.length) (g n c : Nat) (hv : vd vs i = .slice (some ⟨g, 0, none⟩) n c) (k : Nat) (x : Int) : Own IK E base vs (Xs.set i ((Xs.getD i []).set k x)) (W.setCell ⟨g, k, none⟩ (.int IK x)) := by
  intro j hj
  rw [getD_set]
  by_cases hij : i = j
  · subst hij
    rw [if_pos ⟨rfl, by omega⟩]
    have := h i hi
    rw [hv] at this ⊢
    have h2 := Kd.R_putn this (k : Int) x
    rwa [Int.toNat_natCast] at h2
  · rw [if_neg (fun hh => hij hh.1)]
    refine Kd.R_far (p := ⟨g, k, none⟩) (h j hj) (fun k' hk' e => ?_) _
    have := hk' i hi hij
    rw [hv] at this
    exact this (by simp [Value.ownBlock]; exact e)
theorem Own.lo (h : Own IK E base vs Xs W) (i : Nat) (hi : i < vs.length) (k : Nat) (hk : (vd vs i).ownBlock = some k) : base ≤ k ∧ k < W.heap.size := by
  obtain ⟨inner, ho⟩ := Kd.R_own (h i hi)
  exact ⟨own_base ho k hk, own_lt ho k hk⟩
/-- The list of the rows. -/
def All (A : Option Addr) (vs : List OneV) (W : World) : Prop := Kd.C kV W A vs.length vs
theorem All.cell (h : All A vs W) (ad : Addr) (hA : A = some ad) (i : Nat) (hi : i < vs.length) : W.cell? (ad.add i) = some (vd vs i) := by
  obtain ⟨ad', c, ha, hc, hk, hx⟩ := Kd.C_get h zV (i : Int) (by omega) (by omega)
  obtain rfl := Option.some.inj (ha.symm.trans hA)
  have hk' : c = [(vs.getD ((i : Int)).toNat zV).1] := hk
  have := hx 0 _ (by rw [hk']; rfl)
  rw [Int.toNat_natCast] at this
  have e : i * kV.sz + 0 = i := by show i * 1 + 0 = i; omega
  rw [e] at this
  exact this
theorem All.addr (h : All A vs W) (hp : 0 < vs.length) : ∃ ad, A = some ad := by
  obtain ⟨ad, e, _⟩ := h.2.2 hp
  exact ⟨ad, e⟩
theorem All.lt (h : All A vs W) (ad : Addr) (hA : A = some ad) (hp : 0 < vs.length) : ad.block < W.heap.size := by
  have := World.block_lt_of_cell? W _ (h.cell ad hA 0 hp)
  rwa [add_block] at this
theorem All.move (h : All A vs W) (hm : ∀ ad, A = some ad → 0 < vs.length → W'.heap[ad.block]? = W.heap[ad.block]?) : All A vs W' := by
  refine ⟨h.1, h.2.1, fun hp => ?_⟩
  obtain ⟨ad, e, hc⟩ := h.2.2 hp
  refine ⟨ad, e, fun j p hj => ?_⟩
  obtain ⟨c, h1, h2, h3⟩ := hc j p hj
  refine ⟨c, h1, h2, fun i u hu => ?_⟩
  rw [← h3 i u hu]
  exact World.cell?_of_block (by rw [add_block]; exact hm ad e hp)
/-- A value reads as a list. -/
def Rds (IK : IntKind) (W : World) (v : Value) (X : List Int) : Prop := ∃ A c, v = .slice A X.length c ∧ X.length ≤ c ∧ Kd.C (Kd.int IK) W A X.length X
theorem Rds.cell {v : Value} {X : List Int} (h : Rds IK W v X) (hp : 0 < X.length) : ∃ ad c, v = .slice (some ad) X.length c ∧ ∀ q, q < X.length → W.cell? (ad.add q) = some (.int IK (X.getD q 0)) := by
  obtain ⟨A, c, hv, hc, hr⟩ := h
  obtain ⟨ad, e, _⟩ := hr.2.2 hp
  subst e
  refine ⟨ad, c, hv, fun q hq => ?_⟩
  obtain ⟨ad', cs, ha, hcl, hk, hx⟩ := Kd.C_get hr 0 (q : Int) (by omega) (by omega)
  obtain rfl := Option.some.inj ha
  have hk' : cs = [.int IK (X.getD ((q : Int)).toNat 0)] := hk
  have := hx 0 _ (by rw [hk']; rfl)
  rw [Int.toNat_natCast] at this
  have e : q * (Kd.int IK).sz + 0 = q := by show q * 1 + 0 = q; omega
  rw [e] at this
  exact this
/-- .. in every world in which its cells are the same. -/
theorem Rds.cells {v : Value} {X : List Int} (h : Rds IK W v X) (hm : ∀ ad n c, v = .slice (some ad) n c → ∀ q, q < X.length → W'.cell? (ad.add q) = W.cell? (ad.add q)) : Rds IK W' v X := by
  obtain ⟨A, c, hv, hc, hr⟩ := h
  refine ⟨A, c, hv, hc, hr.1, hr.2.1, fun hp => ?_⟩
  obtain ⟨ad, e, hx⟩ := hr.2.2 hp
  refine ⟨ad, e, fun j p hj => ?_⟩
  obtain ⟨cs, h1, h2, h3⟩ := hx j p hj
  have hjl := (List.getElem?_eq_some_iff.1 hj).1
  refine ⟨cs, h1, h2, fun i u hu => ?_⟩
  have hi : i < 1 := by
    have := (List.getElem?_eq_some_iff.1 hu).1
    have h1' : cs.length = 1 := h1
    omega
  have hoff : j * (Kd.int IK).sz + i = j := by show j * 1 + i = j; omega
  have := h3 i u hu
  rw [hoff] at this ⊢
  rw [hm ad X.length c (by rw [hv, e]) j hjl]
  exact this
theorem Rds.block {v : Value} {X : List Int} (h : Rds IK W v X) (hm : ∀ k, v.ownBlock = some k → W'.heap[k]? = W.heap[k]?) : Rds IK W' v X :=
  h.cells (fun ad n c hv q _ => World.cell?_of_block (by rw [add_block]; exact hm ad.block (by rw [hv]; rfl)))
theorem Own.reads (h : Own IK E base vs Xs W) (i : Nat) (hi : i < vs.length) : Rds IK W (vd vs i) (Xs.getD i []) := by
  obtain ⟨A, c, hv, hc, hr⟩ := Kd.R_reads (h i hi)
  exact ⟨A, c, hv, hc, hr⟩
end
end Go.Proofs.YteaiejippkikpaaDoor.AP
/- Lists that own their memory, written full and gone on with: the states of both loops, one append. -/
set_option linter.unusedVariables false
set_option linter.unusedSimpArgs false
namespace Go.Proofs.YteaiejippkikpaaDoor.AP
open Go.RowKit Go.Proofs.YteaiejippkikpaaDoorW.PrintWords Go.Proofs.YteaiejippkikpaaDoorW.PrintLast Go.Proofs.YteaiejippkikpaaDoorW.PrintMore
open Go.Proofs.YteaiejippkikpaaDoor.B (getD_lt getD_set C_pre)

section
variable {IK : IntKind} {E base : Nat} {vs : List OneV} {W W' w wo wq : World} {A : Option Addr} {n : Nat → Nat}

/-- What a list is written full with. -/
def mark (p q : Nat) : Int := 1000 * (p : Int) + (q : Int)
/-- What it is gone on with. -/
def mark2 (p q : Nat) : Int := 500000 + 1000 * (p : Int) + (q : Int)
/-- While they are written. -/
def S1 (IK : IntKind) (E base : Nat) (w : World) (A : Option Addr) (vs : List OneV) (n : Nat → Nat) (i k : Nat) (W : World) : Prop :=
  (∃ Xs : List (List Int), Xs.length = vs.length ∧ (∀ p, p < vs.length → (Xs.getD p []).length = n p) ∧ (∀ p q, p < vs.length → q < n p → (p < i ∨ p = i ∧ q < k) → (Xs.getD p []).getD q 0 = mark p q) ∧ Own IK E base vs Xs W) ∧ All A vs W ∧ Below base w W
theorem S1.start {Xs : List (List Int)} (h : Own IK E base vs Xs w) (hl : Xs.length = vs.length) (hA : All A vs w) : S1 IK E base w A vs (fun p => (Xs.getD p []).length) 0 0 w :=
  ⟨⟨Xs, hl, fun _ _ => rfl, fun p q _ _ hh => by omega, h⟩, hA, Below.refl _ _⟩
theorem S1.next {i k : Nat} (h : S1 IK E base w A vs n i k W) (hk : n i ≤ k) : S1 IK E base w A vs n (i + 1) 0 W := by
  obtain ⟨⟨Xs, h1, h2, h3, h4⟩, h5, h6⟩ := h
  refine ⟨⟨Xs, h1, h2, fun p q hp hq hh => h3 p q hp hq ?_, h4⟩, h5, h6⟩
  rcases hh with hh | hh
  · by_cases e : p = i
    · subst e; exact .inr ⟨rfl, by omega⟩
    · exact .inl (by omega)
  · omega
theorem S1.sl {i k : Nat} (h : S1 IK E base w A vs n i k W) (hi : i < vs.length) : ∃ A' c, vd vs i = .slice A' (n i) c := by
  obtain ⟨⟨Xs, h1, h2, h3, h4⟩, h5, h6⟩ := h
  obtain ⟨A', c, e⟩ := Kd.R_slice (h4 i hi)
  exact ⟨A', c, by rw [e, h2 i hi]⟩
theorem S1.step {i k : Nat} (h : S1 IK E base w A vs n i k W) (hi : i < vs.length) (hk : k < n i) (hb : ∀ ad, A = some ad → ∀ j, j < vs.length → (vd vs j).ownBlock ≠ some ad.block) :
    ∃ g c y, vd vs i = .slice (some ⟨g, 0, none⟩) (n i) c ∧ W.cell? ⟨g, k, none⟩ = some (.int IK y) ∧ W.frozen? ⟨g, k, none⟩ = false ∧ S1 IK E base w A vs n i (k + 1) (W.setCell ⟨g, k, none⟩ (.int IK (mark i k))) := by
  obtain ⟨⟨Xs, h1, h2, h3, h4⟩, h5, h6⟩ := h
  obtain ⟨g, c, e, hbg, _, _⟩ := Kd.R_form (h4 i hi) (by rw [h2 i hi]; omega)
  rw [h2 i hi] at e
  have hR := h4 i hi
  rw [e] at hR
  obtain ⟨hc, hf⟩ := Kd.R_celln 0 hR (k : Int) (by omega) (by omega)
  rw [Int.toNat_natCast] at hc hf
  refine ⟨g, c, _, e, hc, hf, ⟨Xs.set i ((Xs.getD i []).set k (mark i k)), by rw [List.length_set]; exact h1, fun p hp => ?_, fun p q hp hq hh => ?_, h4.store h1 i hi g (n i) c e k _⟩, ?_, h6.setCell hbg _⟩
  · rw [getD_set]
    by_cases hpi : i = p
    · subst hpi; rw [if_pos ⟨rfl, by omega⟩, List.length_set]; exact h2 i hi
    · rw [if_neg (fun hh => hpi hh.1)]; exact h2 p hp
  · rw [getD_set]
    by_cases hpi : i = p
    · subst hpi
      rw [if_pos ⟨rfl, by omega⟩, getD_set]
      by_cases hkq : k = q
      · subst hkq; rw [if_pos ⟨rfl, by rw [h2 i hi]; omega⟩]
      · rw [if_neg (fun hh => hkq hh.1)]
        exact h3 i q hi hq (by omega)
    · rw [if_neg (fun hh => hpi hh.1)]
      exact h3 p q hp hq (by omega)
  · refine h5.move fun ad ha _ => Below.heap_setCell _ _ _ _ ?_
    intro e2
    have := hb ad ha i hi
    rw [e] at this
    exact this (by simp [Value.ownBlock]; exact e2.symm)

theorem Rds.blk {v : Value} {X : List Int} (h : Rds IK W v X) (hm : ∀ k, k < W.heap.size → v.ownBlock = some k → W'.heap[k]? = W.heap[k]?) : Rds IK W' v X := by
  refine h.cells (fun ad n c hv q hq => ?_)
  obtain ⟨ad', c', hv', hcl⟩ := h.cell (by omega)
  have : some ad = some ad' := by rw [hv] at hv'; injection hv'
  obtain rfl := Option.some.inj this
  have hlt := World.block_lt_of_cell? W _ (hcl q hq)
  rw [add_block] at hlt
  exact World.cell?_of_block (by rw [add_block]; exact hm ad.block hlt (by rw [hv]; rfl))
/-- One list is gone on with. -/
structure J (IK : IntKind) (E base : Nat) (wo : World) (v : Value) (X : List Int) (T : Nat → Int) (q : Nat) (l : Value) (wq : World) : Prop where
  own : wq.ownsRow base E 1 l (X.length + q) ((X ++ (List.range q).map T).map (Value.int IK))
  rds : Rds IK wq v X
  form : X = [] ∨ ∃ g c, v = .slice (some ⟨g, 0, none⟩) X.length c
  blk : ∀ k, l.ownBlock = some k → some k = v.ownBlock ∨ wo.heap.size ≤ k
  old : ∀ k, k < wo.heap.size → some k ≠ v.ownBlock → wq.heap[k]? = wo.heap[k]?
  low : Below base wo wq
theorem J.start {ok : Nat → Prop} {v : Value} {X : List Int} {T : Nat → Int} (h : Kd.R (Kd.int IK) E wo base ok v X) : J IK E base wo v X T 0 v wo := by
  obtain ⟨A', c, hv, hc, hr⟩ := Kd.R_reads h
  refine ⟨?_, ⟨A', c, hv, hc, hr⟩, ?_, fun k hk => .inl hk.symm, fun _ _ _ => rfl, Below.refl _ _⟩
  · have := Kd.own_of_R (enc := Value.int IK) (h1 := fun _ => rfl) h
    simpa [encs] using this
  · cases hX : X with
    | nil => exact .inl rfl
    | cons y r =>
      obtain ⟨g, c', e, _⟩ := Kd.R_form h (by rw [hX]; simp)
      rw [hX] at e
      exact .inr ⟨g, c', e⟩
theorem J.alloc {v l : Value} {X : List Int} {T : Nat → Int} {q : Nat} (h : J IK E base wo v X T q l wq) (hbase : base ≤ wo.heap.size) (o : Obj) : J IK E base wo v X T q l (wq.alloc o) := by
  have hsz := h.low.size
  refine ⟨h.own.alloc o, h.rds.blk (fun k hk _ => Below.heap_alloc wq o k hk), h.form, h.blk, fun k hk hne => ?_, h.low.alloc (by omega) o⟩
  rw [Below.heap_alloc wq o k (by omega)]
  exact h.old k hk hne
theorem J.room {v : Value} {X : List Int} {T : Nat → Int} {q g cap : Nat} (h : J IK E base wo v X T q (.slice (some ⟨g, 0, none⟩) (X.length + q) cap) wq) (hbase : base ≤ wo.heap.size) (ho : W'.ownsRow base E 1 (.slice (some ⟨g, 0, none⟩) (X.length + q + 1) cap) (X.length + q + 1) ((X ++ (List.range (q + 1)).map T).map (Value.int IK))) (hg : wq.grownBy W' (some g)) :
    J IK E base wo v X T (q + 1) (.slice (some ⟨g, 0, none⟩) (X.length + q + 1) cap) W' := by
  have hsz := h.low.size
  have hgb := h.blk g rfl
  have hbg := own_base ho g rfl
  refine ⟨ho, ?_, h.form, fun k hk => ?_, fun k hk hne => ?_, h.low.grown hg (by omega) (fun k hk => by injection hk with hk; omega)⟩
  · by_cases hgv : some g = v.ownBlock
    · refine h.rds.cells (fun ad n c hv j hj => ?_)
      obtain ⟨ad', c', hv', hcl⟩ := h.rds.cell (by omega)
      have e1 : some ad = some ad' := by rw [hv] at hv'; injection hv'
      obtain rfl := Option.some.inj e1
      rw [hcl j hj]
      rcases h.form with hX | ⟨gv, cv, hf⟩
      · rw [hX] at hj; simp at hj
      · have e2 : some ad = some ⟨gv, 0, none⟩ := by rw [hv] at hf; injection hf
        obtain rfl := Option.some.inj e2
        have e3 : g = gv := by rw [hv] at hgv; simpa [Value.ownBlock] using hgv
        subst e3
        have := ho.cellAt j (by omega)
        have e4 : (⟨g, 0, none⟩ : Addr).add j = ⟨g, j, none⟩ := by simp [Addr.add]; omega
        rw [e4, this, List.getElem?_map, List.getElem?_append_left hj, List.getElem?_eq_getElem hj, List.getD_eq_getElem?_getD, List.getElem?_eq_getElem hj]
        rfl
    · exact h.rds.blk (fun k hk hkv => hg.block k hk (by rw [← hkv]; exact fun e => hgv e.symm))
  · have : g = k := by simpa [Value.ownBlock] using hk
    rw [← this]; exact hgb
  · rw [hg.block k (by omega) (fun e => by
      injection e with e
      subst e
      rcases hgb with h1 | h1
      · exact hne h1
      · omega)]
    exact h.old k hk hne
theorem J.grow {v l l' : Value} {X : List Int} {T : Nat → Int} {q : Nat} (h : J IK E base wo v X T q l wq) (hbase : base ≤ wo.heap.size) (ho : W'.ownsRow wq.heap.size E 1 l' (X.length + q + 1) ((X ++ (List.range (q + 1)).map T).map (Value.int IK))) (hg : wq.grownBy W' none) :
    J IK E base wo v X T (q + 1) l' W' := by
  have hsz := h.low.size
  refine ⟨ho.mono (by omega), h.rds.blk (fun k hk _ => hg.block k hk (by simp)), h.form, fun k hk => ?_, fun k hk hne => ?_, h.low.grown hg (by omega) (fun k hk => by cases hk)⟩
  · right
    have := own_base ho k hk
    omega
  · rw [hg.block k (by omega) (by simp)]
    exact h.old k hk hne
/-- One element more. -/
theorem wp_J {ops : Array Oper} {rest : List Oper} {o : Oper} {a : Act} {Q : Exit → Act → World → Prop} (hgd : o.guard = none) (s x : Operand) (t : TypeId) (hop : o.op = .call { callee := .builtin .append, args := #[s, x], argTypes := #[t, t] })
    (ht : Tryd.prog.underlying t = some (.slice E)) (i : TypeInfo) (z : Value) (hi : Tryd.prog.info? E = some i) (hi1 : i.zero = some z) (hi2 : i.size = 1) (hi3 : i.bytes = 8) (hz : z.cells.size = 1)
    {v l : Value} {X : List Int} {T : Nat → Int} {q : Nat} (h : J IK E base wo v X T q l wq) (hbase : base ≤ wo.heap.size) (hs : a.eval s = l) (hx : a.eval x = .slice (some ⟨wq.heap.size, 0, none⟩) 1 1) (hb : X.length + q + 1 ≤ 1000000000)
    (K : ∀ l' w', J IK E base wo v X T (q + 1) l' w' → wpList Tryd.prog ops Q rest (a.put o.dst l') w') : wpList Tryd.prog ops Q (o :: rest) a (wq.alloc (.cells #[.int IK (T q)] E)) := by
  have h1 := h.alloc hbase (.cells #[.int IK (T q)] E)
  have hnews : ∀ j u, [Value.int IK (T q)][j]? = some u → (wq.alloc (.cells #[.int IK (T q)] E)).cell? ((⟨wq.heap.size, 0, none⟩ : Addr).add j) = some u := by
    intro j u hj
    have : j = 0 := by have := (List.getElem?_eq_some_iff.1 hj).1; simpa using this
    subst this
    have : u = .int IK (T q) := by simpa using hj.symm
    subst this
    show (wq.alloc (.cells #[.int IK (T q)] E)).cell? ⟨wq.heap.size, 0, none⟩ = _
    go_simp
  have hlist : (X ++ (List.range q).map T).map (Value.int IK) ++ [.int IK (T q)] = (X ++ (List.range (q + 1)).map T).map (Value.int IK) := by simp [List.range_succ]
  have hlen : ((X ++ (List.range q).map T).map (Value.int IK)).length = X.length + q := by simp
  have hone : ∀ u ∈ [Value.int IK (T q)], u.oneCell' = true := fun u hu => by rw [List.mem_singleton.1 hu]; rfl
  rcases id h1.own with ⟨_, ⟨rfl, h0⟩ | ⟨g, cap, cur, rfl, _, _, hn, hcap, _⟩⟩
  · refine wpList_append_grows _ hgd s x t hop E i z 1 8 ht hi hi1 hi2 hi3 hz (by decide) none 0 0 [] hs (fun _ => ⟨rfl, rfl⟩) rfl (fun b hb => by cases hb) ⟨wq.heap.size, 0, none⟩ 1 1 [.int IK (T q)] hx rfl hnews hone (by decide) (by decide) (by decide) fun l' w' ho hg => ?_
    refine K l' w' (h1.grow hbase ?_ hg)
    have e0 : (X ++ (List.range q).map T).map (Value.int IK) = [] := List.eq_nil_of_length_eq_zero (by rw [hlen]; exact h0)
    rw [← hlist, e0, h0]
    exact ho
  · by_cases hr : X.length + q + 1 ≤ cap
    · refine wpList_append_fits _ hgd s x t hop base E i 1 ht hi hi2 g (X.length + q) cap _ hs h1.own ⟨wq.heap.size, 0, none⟩ 1 1 [.int IK (T q)] hx rfl hnews hone hr fun w' ho hg => ?_
      rw [hlist] at ho
      exact K _ w' (h1.room hbase ho hg)
    · refine wpList_append_grows _ hgd s x t hop E i z 1 8 ht hi hi1 hi2 hi3 hz (by decide) (some ⟨g, 0, none⟩) (X.length + q) cap _ hs (fun e => by cases e) (by rw [hlen]; omega) (fun b hb j u hj => ?_) ⟨wq.heap.size, 0, none⟩ 1 1 [.int IK (T q)] hx rfl hnews hone (by omega) (by unfold maxLen; omega) (by omega) fun l' w' ho hg => ?_
      · obtain rfl := Option.some.inj hb
        have hj' := (List.getElem?_eq_some_iff.1 hj).1
        rw [hlen] at hj'
        have := h1.own.cellAt j (by omega)
        rw [hj] at this
        have e4 : (⟨g, 0, none⟩ : Addr).add j = ⟨g, j, none⟩ := by simp [Addr.add]; omega
        rw [e4]; exact this
      · rw [hlist] at ho
        exact K l' w' (h1.grow hbase ho hg)
end
end Go.Proofs.YteaiejippkikpaaDoor.AP
/- Lists that own their memory, gone on with one by one: the state of the loop, one step. -/
set_option linter.unusedVariables false
set_option linter.unusedSimpArgs false
namespace Go.Proofs.YteaiejippkikpaaDoor.AP
open Go.RowKit Go.Proofs.YteaiejippkikpaaDoorW.PrintWords Go.Proofs.YteaiejippkikpaaDoorW.PrintLast Go.Proofs.YteaiejippkikpaaDoorW.PrintMore
open Go.Proofs.YteaiejippkikpaaDoor.B (getD_lt getD_set C_pre)

section
variable {IK : IntKind} {E ES base : Nat} {vs : List OneV} {Xs : List (List Int)} {W W' w wo wq : World} {A : Option Addr}

/-- No two rows share a block. -/
def Dis (vs : List OneV) : Prop := ∀ p j, p < vs.length → j < vs.length → j ≠ p → ∀ k, (vd vs p).ownBlock = some k → some k ≠ (vd vs j).ownBlock
theorem Own.dis (h : Own IK E base vs Xs W) : Dis vs := fun p j hp hj hne k hk => (h p hp).1 k hk j hj hne
def S3 (IK : IntKind) (E ES base : Nat) (w : World) (A : Option Addr) (vs : List OneV) (Xs : List (List Int)) (i : Nat) (mv : Value) (W : World) : Prop :=
  (∃ us : List OneV, us.length = i ∧ Kd.R kV ES W base (fun _ => True) mv us ∧ (∀ p, p < i → Rds IK W (vd us p) (Xs.getD p [] ++ (List.range 30).map (mark2 p))) ∧ (∀ p, p < i → ∀ k, (vd us p).ownBlock = some k → k < W.heap.size ∧ (∀ j, i ≤ j → j < vs.length → some k ≠ (vd vs j).ownBlock) ∧ mv.ownBlock ≠ some k)) ∧
  (∀ p, i ≤ p → p < vs.length → Kd.R (Kd.int IK) E W base (okO vs p) (vd vs p) (Xs.getD p [])) ∧ (∀ p, p < vs.length → Rds IK W (vd vs p) (Xs.getD p [])) ∧
  (∀ p, p < vs.length → ∀ k, (vd vs p).ownBlock = some k → k < W.heap.size ∧ mv.ownBlock ≠ some k) ∧ (∀ ad, A = some ad → 0 < vs.length → ad.block < W.heap.size ∧ mv.ownBlock ≠ some ad.block) ∧ All A vs W ∧ Below base w W
theorem S3.start (h : Own IK E base vs Xs W) (hA : All A vs W) (hB : Below base w W) : S3 IK E ES base w A vs Xs 0 (.slice none 0 0) W :=
  ⟨⟨[], rfl, Kd.R_nil _ _ _ _ _, fun p hp => by omega, fun p hp => by omega⟩, fun p _ hp => h p hp, fun p hp => h.reads p hp, fun p hp k hk => ⟨(h.lo p hp k hk).2, by simp [Value.ownBlock]⟩, fun ad ha hp => ⟨hA.lt ad ha hp, by simp [Value.ownBlock]⟩, hA, hB⟩
theorem S3.goes {i : Nat} {mv : Value} (h : S3 IK E ES base w A vs Xs i mv wo) (hi : i < vs.length) : J IK E base wo (vd vs i) (Xs.getD i []) (mark2 i) 0 (vd vs i) wo := J.start (h.2.1 i (Nat.le_refl _) hi)
theorem vd_left (us : List OneV) (x : OneV) (p : Nat) (hp : p < us.length) : vd (us ++ [x]) p = vd us p := by
  unfold vd
  rw [getD_lt _ _ _ (by rw [List.length_append]; omega), getD_lt _ _ _ hp, List.getElem_append_left hp]
theorem vd_last (us : List OneV) (x : OneV) : vd (us ++ [x]) us.length = x.1 := by
  unfold vd
  rw [getD_lt _ _ _ (by rw [List.length_append]; simp), List.getElem_append_right (Nat.le_refl _)]
  simp
/-- The list that has been gone on with is put to the others. -/
theorem wp_more {ops : Array Oper} {rest : List Oper} {o : Oper} {a : Act} {Q : Exit → Act → World → Prop} (hgd : o.guard = none) (s x : Operand) (t : TypeId) (hop : o.op = .call { callee := .builtin .append, args := #[s, x], argTypes := #[t, t] })
    (ht : Tryd.prog.underlying t = some (.slice ES)) (hinfo : (Tryd.prog.info? ES).map (fun i => (i.zero, i.size, i.bytes)) = some (some (.slice none 0 0), 1, 24)) (hbase : base ≤ w.heap.size) (hm : vs.length ≤ 1000000)
    (hb : ∀ ad, A = some ad → ∀ j, j < vs.length → (vd vs j).ownBlock ≠ some ad.block) (hdis : Dis vs)
    {i : Nat} {mv l : Value} (h : S3 IK E ES base w A vs Xs i mv wo) (hi : i < vs.length) (hJ : J IK E base wo (vd vs i) (Xs.getD i []) (mark2 i) 30 l wq) (hs : a.eval s = mv) (hx : a.eval x = .slice (some ⟨wq.heap.size, 0, none⟩) 1 1)
    (K : ∀ mv' w', S3 IK E ES base w A vs Xs (i + 1) mv' w' → wpList Tryd.prog ops Q rest (a.put o.dst mv') w') : wpList Tryd.prog ops Q (o :: rest) a (wq.alloc (.cells #[l] ES)) := by
  obtain ⟨⟨us, hul, hR, hU, hUb⟩, hrow, hrd, hvb, hAb, hAll, hlow⟩ := h
  have hone : l.oneCell' = true := by
    rcases hJ.own.2 with ⟨rfl, _⟩ | ⟨g, cap, cur, rfl, _⟩ <;> rfl
  have hq := hJ.low.size
  have hmvlt : ∀ k, mv.ownBlock = some k → k < wo.heap.size := fun k hk => Kd.R_lt hR k hk
  have hRt : Kd.R kV ES wo base (fun k => mv.ownBlock = some k) mv us := Kd.R_of_own (Kd.own_of_R hR) (fun k hk => hk)
  have hRq : Kd.R kV ES wq base (fun _ => True) mv us := Kd.R_mono (Kd.R_step hRt (fun k hk hlt => hJ.old k hlt (fun e => (hvb i hi k e.symm).2 hk))) (fun _ _ => trivial)
  have hwb := hlow.size
  refine Kd.R_append kV (w0 := w) base hgd s x t ES (.slice none 0 0) 24 hop ht hinfo rfl (by decide) (by decide) mv us ⟨l, hone⟩ [l] (fun _ => True) (fun _ => False) hs hx rfl (fun _ hk => hk.elim) (fun _ _ => trivial) hRq (hlow.trans hJ.low) (by omega) (by omega) fun mv' w' hR' hB' hg hat => K mv' w' ?_
  have hgs := hg.size
  -- a block that is none of the two
  have tr : ∀ k, k < wo.heap.size → some k ≠ (vd vs i).ownBlock → mv.ownBlock ≠ some k → w'.heap[k]? = wo.heap[k]? := fun k h1 h2 h3 => by
    rw [hg.block k (by omega) (fun e => h3 e.symm)]
    exact hJ.old k h1 h2
  have hmv' : ∀ k, k < wq.heap.size → mv.ownBlock ≠ some k → mv'.ownBlock ≠ some k := fun k h1 h2 e => by
    rcases hat with h3 | ⟨b, h3, h4⟩
    · exact h2 (h3 ▸ e)
    · rw [h3] at e
      injection e with e
      omega
  have hlr : Rds IK wq l (Xs.getD i [] ++ (List.range 30).map (mark2 i)) := by
    have ho := hJ.own
    have hlen : ((Xs.getD i [] ++ (List.range 30).map (mark2 i))).length = (Xs.getD i []).length + 30 := by simp
    have : Kd.R (Kd.int IK) E wq base (fun _ => True) l (Xs.getD i [] ++ (List.range 30).map (mark2 i)) := Kd.R_of_own (enc := Value.int IK) (h1 := fun _ => rfl) (by rw [hlen]; exact ho) (fun _ _ => trivial)
    obtain ⟨A', c, hv, hc, hr⟩ := Kd.R_reads this
    exact ⟨A', c, hv, hc, hr⟩
  have hlb : ∀ k, l.ownBlock = some k → k < wq.heap.size ∧ mv.ownBlock ≠ some k ∧ ∀ j, i + 1 ≤ j → j < vs.length → some k ≠ (vd vs j).ownBlock := fun k hk => by
    refine ⟨own_lt hJ.own k hk, fun e => ?_, fun j hj1 hj2 e => ?_⟩
    · have := hmvlt k e
      rcases hJ.blk k hk with h1 | h1
      · exact (hvb i hi k h1.symm).2 e
      · omega
    · rcases hJ.blk k hk with h1 | h1
      · exact hdis i j hi hj2 (by omega) k h1.symm e
      · have := (hvb j hj2 k e.symm).1
        omega
  have hvr : ∀ p, p < vs.length → Rds IK w' (vd vs p) (Xs.getD p []) := fun p hp => by
    by_cases e : p = i
    · subst e
      exact hJ.rds.blk (fun k hk hkv => hg.block k hk (fun e => (hvb p hp k hkv).2 e.symm))
    · exact (hrd p hp).blk (fun k hk hkv => tr k hk (hdis p i hp hi (fun e' => e e'.symm) k hkv) (hvb p hp k hkv).2)
  refine ⟨⟨us ++ [⟨l, hone⟩], by rw [List.length_append, hul]; rfl, hR', fun p hp => ?_, fun p hp k hk => ?_⟩, fun p hp1 hp2 => ?_, hvr, fun p hp k hk => ?_, fun ad ha hp => ?_, ?_, hB'⟩
  · by_cases e : p = i
    · subst e
      rw [← hul, vd_last, hul]
      exact hlr.blk (fun k hk hkv => hg.block k hk (fun e => (hlb k hkv).2.1 e.symm))
    · rw [vd_left us _ p (by omega)]
      exact (hU p (by omega)).blk (fun k hk hkv => by
        obtain ⟨h1, h2, h3⟩ := hUb p (by omega) k hkv
        exact tr k h1 (h2 i (Nat.le_refl _) hi) h3)
  · by_cases e : p = i
    · subst e
      rw [← hul, vd_last] at hk
      obtain ⟨h1, h2, h3⟩ := hlb k hk
      exact ⟨by omega, h3, hmv' k h1 h2⟩
    · rw [vd_left us _ p (by omega)] at hk
      obtain ⟨h1, h2, h3⟩ := hUb p (by omega) k hk
      exact ⟨by omega, fun j hj1 hj2 => h2 j (by omega) hj2, hmv' k (by omega) h3⟩
  · have h0 := hrow p (by omega) hp2
    have h1 : Kd.R (Kd.int IK) E wo base (fun k => (vd vs p).ownBlock = some k) (vd vs p) (Xs.getD p []) := Kd.R_of_own (Kd.own_of_R h0) (fun k hk => hk)
    have h2 := Kd.R_step (w1 := w') h1 (fun k hk hlt => tr k hlt (hdis p i hp2 hi (by omega) k hk) (hvb p hp2 k hk).2)
    exact Kd.R_of_own (Kd.own_of_R h2) (fun k hk => h0.1 k hk)
  · obtain ⟨h1, h2⟩ := hvb p hp k hk
    exact ⟨by omega, hmv' k (by omega) h2⟩
  · obtain ⟨h1, h2⟩ := hAb ad ha hp
    exact ⟨by omega, hmv' _ (by omega) h2⟩
  · refine hAll.move fun ad ha hp => ?_
    obtain ⟨h1, h2⟩ := hAb ad ha hp
    exact tr _ h1 (fun e => hb ad ha i hi e.symm) h2
end
end Go.Proofs.YteaiejippkikpaaDoor.AP
/- kit.ApartSets: lists that own their memory, none sharing with another: true. -/
set_option linter.unusedVariables false
set_option linter.unusedSimpArgs false
namespace Go.Proofs.YteaiejippkikpaaDoor.AP
open Go.RowKit Go.Proofs.YteaiejippkikpaaDoorW.PrintWords Go.Proofs.YteaiejippkikpaaDoorW.PrintLast Go.Proofs.YteaiejippkikpaaDoorW.PrintMore
open Go.Proofs.YteaiejippkikpaaDoor.B (getD_lt getD_set C_pre)

theorem infoES : (Tryd.prog.info? 47).map (fun i => (i.zero, i.size, i.bytes)) = some (some (.int .u64 0), 1, 8) := by kernel_rfl
theorem infoSS : (Tryd.prog.info? 36).map (fun i => (i.zero, i.size, i.bytes)) = some (some (.slice none 0 0), 1, 24) := by kernel_rfl
theorem J.sl {IK : IntKind} {E base : Nat} {wo wq : World} {v l : Value} {X : List Int} {T : Nat → Int} {q : Nat} (h : J IK E base wo v X T q l wq) : ∃ A c, l = .slice A (X.length + q) c := by
  rcases h.own.2 with ⟨rfl, h0⟩ | ⟨g, cap, cur, rfl, _⟩
  · rw [h0]; exact ⟨_, _, rfl⟩
  · exact ⟨_, _, rfl⟩
set_option maxHeartbeats 4000000 in
set_option maxRecDepth 100000 in
theorem ApartSets_yes (base : Nat) (vs : List OneV) (Xs : List (List Int)) (A : Option Addr) (cA : Nat) (w : World) (hm : vs.length ≤ 1000) (hcA : vs.length ≤ cA) (hA : All A vs w) (hb : ∀ ad, A = some ad → ∀ j, j < vs.length → (vd vs j).ownBlock ≠ some ad.block) (ho : Own .u64 47 base vs Xs w) (hl : Xs.length = vs.length) (hn : ∀ p, p < vs.length → (Xs.getD p []).length ≤ 1000000) (hbase : base ≤ w.heap.size) :
    Calls Tryd.prog 26 #[.slice A vs.length cA] w fun e w' => e = .returned (.bool true) ∧ Below base w w' := by
  obtain ⟨n, hnn⟩ : ∃ n : Nat → Nat, n = fun p => (Xs.getD p []).length := ⟨_, rfl⟩
  have st := S1.start ho hl hA
  rw [← hnn] at st
  have hn' : ∀ p, p < vs.length → n p ≤ 1000000 := by rw [hnn]; exact hn
  have hdis := ho.dis
  obtain ⟨i0, hi0, hz0, hs0, hb0⟩ := info_parts infoES
  have ST := Aside0.mk st
  have HB := Aside0.mk hb
  have HN := Aside0.mk hn'
  have HD := Aside0.mk hdis
  have HI := Aside0.mk hi0
  have HZ := Aside0.mk hz0
  have HS := Aside0.mk hs0
  have HBY := Aside0.mk hb0
  have HBASE := Aside0.mk hbase
  clear st hb hn' hdis hi0 hz0 hs0 hb0 ho hl hn hnn hA hbase
  go_enter Tryd.func26, Tryd.ntmps26
  go_wp2_with fail
  go_loopw [3, 4] (fun i _ wr => ∃ p : Nat, p ≤ vs.length ∧ i = .int .i64 p ∧ Aside0 (S1 .u64 47 base w A vs n p 0 wr)) (fun i _ _ => vs.length - (intOf i).toNat)
  case atStart => exact ⟨0, Nat.zero_le _, rfl, ST⟩
  case round =>
    clear ST
    obtain ⟨p, hp, rfl, tr⟩ := hrel
    by_cases hlt : p < vs.length
    · have hnp := HN.out p hlt
      go_wp2_with fail
      go_loopw [4] (fun k wq => ∃ q : Nat, q ≤ n p ∧ k = .int .i64 q ∧ Aside0 (S1 .u64 47 base w A vs n p q wq)) (fun k _ => n p - (intOf k).toNat)
      case atStart => exact ⟨0, Nat.zero_le _, rfl, tr⟩
      case round =>
        clear tr
        obtain ⟨q, hq, rfl, tq⟩ := hrel
        obtain ⟨ad, rfl⟩ := tq.out.2.1.addr (by omega)
        have f0 := tq.out.2.1.cell ad rfl p hlt
        by_cases hlt2 : q < n p
        · obtain ⟨g, c, y, hv, hc, hf, hs⟩ := tq.out.step hlt hlt2 HB.out
          rw [hv] at f0
          unfold mark at hs
          have HSS := Aside0.mk hs
          clear hs hv
          go_wp2_with fail
          go_roundw
          case measure => simp [intOf]; omega
          case rel => exact ⟨q + 1, by omega, rfl, HSS⟩
        · obtain ⟨A', c, hv⟩ := tq.out.sl hlt
          rw [hv] at f0
          have HSS := Aside0.mk (tq.out.next (by omega))
          clear hv
          go_wp2_with fail
          go_roundw
          case measure => simp [intOf]; omega
          case rel => exact ⟨p + 1, by omega, rfl, HSS⟩
    · have hpm : p = vs.length := by omega
      subst hpm
      obtain ⟨⟨Ys, y1, y2, y3, y4⟩, y5, y6⟩ := tr.out
      have S0 := Aside0.mk (S3.start (ES := 36) y4 y5 y6)
      have Y2 := Aside0.mk y2
      have Y3 := Aside0.mk y3
      clear y1 y2 y3 y4 y5 y6 tr
      go_wp2_with fail
      go_loopw [5, 6, 7, 8] (fun mv i _ _ wr => ∃ p : Nat, p ≤ vs.length ∧ i = .int .i64 p ∧ Aside0 (S3 .u64 47 36 base w A vs Ys p mv wr)) (fun _ i _ _ _ => vs.length - (intOf i).toNat)
      case atStart => exact ⟨0, Nat.zero_le _, rfl, S0⟩
      case round =>
        clear S0
        obtain ⟨p, hp, rfl, tr⟩ := hrel
        by_cases hlt : p < vs.length
        · have hnp := HN.out p hlt
          have hyl := Y2.out p hlt
          obtain ⟨ad, rfl⟩ := tr.out.2.2.2.2.2.1.addr (by omega)
          have f0 := tr.out.2.2.2.2.2.1.cell ad rfl p hlt
          have g0 := tr.out.goes hlt
          obtain ⟨Yp, hYp⟩ : ∃ Y : List Int, Y = Ys.getD p [] := ⟨_, rfl⟩
          rw [← hYp] at hyl g0
          have G0 := Aside0.mk g0
          have HYP := Aside0.mk hYp
          have HYL := Aside0.mk (show ∀ j, j < 30 → Yp.length + j + 1 ≤ 1000000000 by omega)
          clear g0 hYp
          obtain ⟨wo, rfl⟩ : ∃ wo : World, wo = wr := ⟨_, rfl⟩
          obtain ⟨mo, rfl⟩ : ∃ mo : Value, mo = u5 := ⟨_, rfl⟩
          clear hyl
          go_wp2_with fail
          go_loopw [7, 8] (fun l k wq => ∃ q : Nat, q ≤ 30 ∧ k = .int .i64 q ∧ Aside0 (J .u64 47 base wo (vd vs p) Yp (mark2 p) q l wq)) (fun _ k _ => 30 - (intOf k).toNat)
          case atStart => exact ⟨0, by omega, rfl, G0⟩
          case round =>
            clear G0 f0
            obtain ⟨q, hq, rfl, tq⟩ := hrel
            by_cases hlt2 : q < 30
            · go_wp2_with ((with_reducible refine gate_builtin (b := .append) (xs := #[.tmp 53, .tmp 60]) rfl ?_); at_builtin; go_loud (refine wp_J (v := vd vs p) (X := Yp) (T := mark2 p) (q := q) rfl (.tmp 53) (.tmp 60) 36 rfl Tryd.underlying36 i0 (.int .u64 0) HI.out HZ.out HS.out HBY.out rfl tq.out (Nat.le_trans HBASE.out tr.out.2.2.2.2.2.2.size) rfl rfl (HYL.out q hlt2) ?_); rintro l' w' hJ'; have T2 := Aside0.mk hJ'; clear hJ')
              go_roundw
              case measure => simp [intOf]; omega
              case rel => exact ⟨q + 1, by omega, rfl, T2⟩
            · have hq30 : q = 30 := by omega
              subst hq30
              obtain ⟨Al, cl, hal⟩ := tq.out.sl
              subst hal
              have TQ := Aside0.mk (show J .u64 47 base wo (vd vs p) (Ys.getD p []) (mark2 p) 30 (.slice Al (Yp.length + 30) cl) wr by rw [← HYP.out]; exact tq.out)
              go_wp2_with ((with_reducible refine gate_builtin (b := .append) (xs := #[.tmp 62, .tmp 64]) rfl ?_); at_builtin; go_loud (refine wp_more rfl (.tmp 62) (.tmp 64) 40 rfl Tryd.underlying40 infoSS HBASE.out (by omega) HB.out HD.out tr.out hlt TQ.out rfl rfl ?_); rintro mv' w' h3; have T3 := Aside0.mk h3; clear h3)
              go_roundw
              case measure => simp [intOf]; omega
              case rel => exact ⟨p + 1, by omega, rfl, T3⟩
        · have hpm : p = vs.length := by omega
          subst hpm
          obtain ⟨⟨us, hul, hR, hU, _⟩, _, hV, _, _, hAll, hlow⟩ := tr.out
          obtain ⟨Am, cm, hmv⟩ := Kd.R_slice hR
          subst hmv
          obtain ⟨_, hcm, hCm⟩ := Kd.R_reads' hR
          rw [hul] at hcm hCm
          have hus : All Am us wr := by unfold All; rw [hul]; exact hCm
          have HUS := Aside0.mk hus
          have HU := Aside0.mk hU
          have HV := Aside0.mk hV
          have HALL := Aside0.mk hAll
          have HLOW := Aside0.mk hlow
          have HUL := Aside0.mk hul
          clear hR hU hV hAll hlow hus hCm
          rw [hul]
          clear hul tr
          go_wp2_with fail
          go_loop [9, 10, 11, 12] (fun i _ _ _ => ∃ p : Nat, p ≤ vs.length ∧ i = .int .i64 p) (fun i _ _ _ => vs.length - (intOf i).toNat)
          case atStart => exact ⟨0, Nat.zero_le _, rfl⟩
          case round =>
            obtain ⟨p, hp, rfl⟩ := hrel
            by_cases hlt : p < vs.length
            · have hnp := HN.out p hlt
              have hyl := Y2.out p hlt
              obtain ⟨ad, rfl⟩ := HALL.out.addr (by omega)
              obtain ⟨am, rfl⟩ := HUS.out.addr (by have := HUL.out; omega)
              have f0 := HALL.out.cell ad rfl p hlt
              have f1 := HUS.out.cell am rfl p (by have := HUL.out; omega)
              have hv := HV.out p hlt
              have hu := HU.out p hlt
              obtain ⟨au, cu, eu, hcu⟩ := hu.cell (by simp)
              have hul2 : (Ys.getD p [] ++ (List.range 30).map (mark2 p)).length = n p + 30 := by rw [List.length_append, hyl, List.length_map, List.length_range]
              rw [hul2] at eu hcu
              have hlenu : n p + 30 ≤ cu ∨ True := .inr trivial
              have fu : ∀ q, q < n p → wr.cell? (au.add q) = some (.int .u64 (1000 * (p : Int) + (q : Int))) := fun q hq => by
                rw [hcu q (by omega), getD_lt _ _ _ (by rw [hul2]; omega), List.getElem_append_left (by rw [hyl]; exact hq)]
                have := Y3.out p q hlt hq (.inl hlt)
                rw [getD_lt _ _ _ (by rw [hyl]; exact hq)] at this
                rw [this]; rfl
              have ft : ∀ q, q < 30 → wr.cell? (au.add (n p + q)) = some (.int .u64 (500000 + 1000 * (p : Int) + (q : Int))) := fun q hq => by
                rw [hcu (n p + q) (by omega), getD_lt _ _ _ (by rw [hul2]; omega), List.getElem_append_right (by rw [hyl]; omega)]
                rw [List.getElem_map, List.getElem_range]
                have : n p + q - (Ys.getD p []).length = q := by omega
                rw [this]; rfl
              obtain ⟨Av, cv, ev, hcv, _⟩ := hv
              rw [hyl] at ev
              have fv : ∀ q, q < n p → ∃ av, Av = some av ∧ wr.cell? (av.add q) = some (.int .u64 (1000 * (p : Int) + (q : Int))) := fun q hq => by
                obtain ⟨av, c', e', hx⟩ := (HV.out p hlt).cell (by rw [hyl]; omega)
                have e2 : Av = some av := by rw [ev] at e'; injection e'
                refine ⟨av, e2, ?_⟩
                rw [hx q (by rw [hyl]; exact hq)]
                have := Y3.out p q hlt hq (.inl hlt)
                rw [this]; rfl
              rw [ev] at f0
              rw [eu] at f1
              have FU := Aside0.mk fu
              have FT := Aside0.mk ft
              have FV := Aside0.mk fv
              clear fu ft fv hu hcu eu ev hul2 hyl hcv hlenu
              go_wp2_with fail
              go_loop [11] (fun k => ∃ q : Nat, q ≤ n p ∧ k = .int .i64 q) (fun k => n p - (intOf k).toNat)
              case atStart => exact ⟨0, Nat.zero_le _, rfl⟩
              case round =>
                obtain ⟨q, hq, rfl⟩ := hrel
                by_cases hlt2 : q < n p
                · obtain ⟨av, rfl, g1⟩ := FV.out q hlt2
                  have g2 := FU.out q hlt2
                  have b0 : (0 : Int) ≤ 1000 * (p : Int) + (q : Int) := by omega
                  have b1 : 1000 * (p : Int) + (q : Int) ≤ 100000000 := by omega
                  go_wp2_with fail
                  go_round
                  case measure => simp [intOf]; omega
                  case rel => exact ⟨q + 1, by omega, rfl⟩
                · have hqn : q = n p := by omega
                  subst hqn
                  go_wp2_with fail
                  go_loop [12] (fun k => ∃ q : Nat, q ≤ 30 ∧ k = .int .i64 q) (fun k => 30 - (intOf k).toNat)
                  case atStart => exact ⟨0, by omega, rfl⟩
                  case round =>
                    obtain ⟨q, hq, rfl⟩ := hrel
                    by_cases hlt3 : q < 30
                    · have g1 := FT.out q hlt3
                      have b0 : (0 : Int) ≤ 500000 + 1000 * (p : Int) + (q : Int) := by omega
                      have b1 : 500000 + 1000 * (p : Int) + (q : Int) ≤ 100000000 := by omega
                      go_wp2_with fail
                      go_round
                      case measure => simp [intOf]; omega
                      case rel => exact ⟨q + 1, by omega, rfl⟩
                    · go_wp2_with fail
                      go_round
                      case measure => simp [intOf]; omega
                      case rel => exact ⟨p + 1, by omega, rfl⟩
            · go_wp2_with fail
              go_ret
              exact ⟨rfl, HLOW.out⟩
end Go.Proofs.YteaiejippkikpaaDoor.AP
namespace Go.Proofs.YteaiejippkikpaaDoor.B
open Go.RowKit Go.Proofs.YteaiejippkikpaaDoorW.PrintWords Go.Proofs.YteaiejippkikpaaDoorW.PrintLast Go.Proofs.YteaiejippkikpaaDoorW.PrintMore
attribute [local go_sem] max2_int min2_int max_two min_two max_three min_three max_four min_four   -- for this text's walks alone
set_option linter.unusedVariables false
set_option linter.unusedSimpArgs false

end Go.Proofs.YteaiejippkikpaaDoor.B
/- kit.Ints, kit.Strings, kit.Rules, kit.Grammar: are two the same? -/
set_option linter.unusedVariables false
namespace Go.Proofs.YteaiejippkikpaaDoor.B
open Go.RowKit Go.Proofs.YteaiejippkikpaaDoorW.PrintWords Go.Proofs.YteaiejippkikpaaDoorW.PrintLast Go.Proofs.YteaiejippkikpaaDoorW.PrintMore

theorem rd_nat (l : List Int) (i : Nat) (h : i < l.length) : rd l (i : Int) = l[i] := by simp [rd, List.getD_eq_getElem?_getD, List.getElem?_eq_getElem h]
theorem rdS_nat (l : List ByteArray) (i : Nat) (h : i < l.length) : rdOf ByteArray.empty l (i : Int) = l[i] := by simp [rdOf, List.getD_eq_getElem?_getD, List.getElem?_eq_getElem h]
theorem KInts_l (l0 l1 : List Int) (hl : l0.length = l1.length) (hm : l0.length ≤ 9223372036854775807) : ∀ (d i k : Nat), l0.length - i = d → i ≤ l0.length → d < k → dovetailkit_Ints.l0 k l0 l1 (i : Int) = some (decide (l0.drop i = l1.drop i)) := by
  intro d
  induction d with
  | zero =>
    intro i k hi hle hk
    obtain ⟨k, rfl⟩ : ∃ j, k = j + 1 := ⟨k - 1, by omega⟩
    have : i = l0.length := by omega
    subst this
    rw [dovetailkit_Ints.l0, if_neg (by omega), List.drop_length, hl, List.drop_length]
    simp
  | succ d ih =>
    intro i k hi hle hk
    obtain ⟨k, rfl⟩ : ∃ j, k = j + 1 := ⟨k - 1, by omega⟩
    have hlt : i < l0.length := by omega
    have hlt1 : i < l1.length := by omega
    rw [dovetailkit_Ints.l0, if_pos (by omega), if_pos (by omega), if_pos (by omega), List.drop_eq_getElem_cons hlt, List.drop_eq_getElem_cons hlt1, rd_nat l0 i hlt, rd_nat l1 i hlt1]
    by_cases he : l0[i] = l1[i]
    · rw [if_pos he, wrap_succ i (by omega), ih (i + 1) k (by omega) (by omega) (by omega)]
      rw [he]; congr 1; rw [decide_eq_decide]; simp only [List.cons.injEq, true_and]
    · rw [if_neg he]; congr 1; symm; rw [decide_eq_false_iff_not]; intro h; exact he (List.cons.inj h).1
theorem KInts_f (l0 l1 : List Int) (k : Nat) (hm : l0.length ≤ 9223372036854775807) (hk : l0.length < k) : dovetailkit_Ints.f k l0 l1 = some (decide (l0 = l1)) := by
  unfold dovetailkit_Ints.f
  by_cases h : l0.length = l1.length
  · rw [if_pos (by omega)]
    have := KInts_l l0 l1 h hm l0.length 0 k (by omega) (by omega) hk
    simpa using this
  · rw [if_neg (by omega)]
    have : l0 ≠ l1 := fun e => h (by rw [e])
    simp [this]
theorem KStrings_l (l0 l1 : List ByteArray) (hl : l0.length = l1.length) (hm : l0.length ≤ 9223372036854775807) : ∀ (d i k : Nat), l0.length - i = d → i ≤ l0.length → d < k → dovetailkit_Strings.l0 k l0 l1 (i : Int) = some (decide (l0.drop i = l1.drop i)) := by
  intro d
  induction d with
  | zero =>
    intro i k hi hle hk
    obtain ⟨k, rfl⟩ : ∃ j, k = j + 1 := ⟨k - 1, by omega⟩
    have : i = l0.length := by omega
    subst this
    rw [dovetailkit_Strings.l0, if_neg (by omega), List.drop_length, hl, List.drop_length]
    simp
  | succ d ih =>
    intro i k hi hle hk
    obtain ⟨k, rfl⟩ : ∃ j, k = j + 1 := ⟨k - 1, by omega⟩
    have hlt : i < l0.length := by omega
    have hlt1 : i < l1.length := by omega
    rw [dovetailkit_Strings.l0, if_pos (by omega), if_pos (by omega), if_pos (by omega), List.drop_eq_getElem_cons hlt, List.drop_eq_getElem_cons hlt1, rdS_nat l0 i hlt, rdS_nat l1 i hlt1]
    by_cases he : l0[i] = l1[i]
    · rw [if_pos ((toList_eq _ _).2 he), wrap_succ i (by omega), ih (i + 1) k (by omega) (by omega) (by omega)]
      rw [he]; congr 1; rw [decide_eq_decide]; simp only [List.cons.injEq, true_and]
    · rw [if_neg (fun h => he ((toList_eq _ _).1 h))]; congr 1; symm; rw [decide_eq_false_iff_not]; intro h; exact he (List.cons.inj h).1
theorem KStrings_f (l0 l1 : List ByteArray) (k : Nat) (hm : l0.length ≤ 9223372036854775807) (hk : l0.length < k) : dovetailkit_Strings.f k l0 l1 = some (decide (l0 = l1)) := by
  unfold dovetailkit_Strings.f
  by_cases h : l0.length = l1.length
  · rw [if_pos (by omega)]
    have := KStrings_l l0 l1 h hm l0.length 0 k (by omega) (by omega) hk
    simpa using this
  · rw [if_neg (by omega)]
    have : l0 ≠ l1 := fun e => h (by rw [e])
    simp [this]
end Go.Proofs.YteaiejippkikpaaDoor.B
/- kit.Kept..: what was lent is as it was. -/
set_option linter.unusedVariables false
set_option linter.unusedSimpArgs false
namespace Go.Proofs.YteaiejippkikpaaDoor.B
open Go.RowKit Go.Proofs.YteaiejippkikpaaDoorW.PrintWords Go.Proofs.YteaiejippkikpaaDoorW.PrintLast Go.Proofs.YteaiejippkikpaaDoorW.PrintMore

theorem cut_cap {P : Program} (t e : TypeId) (kh : IntKind) {i : TypeInfo} (ht : P.underlying t = some (.slice e)) (hi : P.info? e = some i) (A : Option Addr) (n c : Nat) (j : Int) (h0 : 0 ≤ j) (hm : j ≤ c) :
    ∀ W : World, (Instr.slice t (.slice A n c) none (some (.int kh j)) none).run P W = .ok (.slice A j.toNat c) W := by
  intro W
  have hel : P.elem t = e := by simp [Program.elem, ht]
  have hu : P.underlying t = some (.slice (P.elem t)) := by rw [hel]; exact ht
  have ha : (A.map fun x => x.add 0) = A := by cases A <;> simp [Addr.add]
  rw [run_slice_h W t A n c hu kh j h0 hm, hel]
  simp [sizeOf, typeInfo, hi, sliced, Result.andThen, ha]

set_option maxHeartbeats 2000000 in
set_option maxRecDepth 100000 in
theorem KeptInts_yes (A : Option Addr) (c : Nat) (A' : Option Addr) (c' : Nat) (l : List Int) (w : World) (hc : l.length + 1 ≤ c) (hr : Kd.C (Kd.int .i64) w A (l.length + 1) (l ++ [-7171])) (hc' : l.length ≤ c') (hr' : Kd.C (Kd.int .i64) w A' l.length l) :
    Calls Tryd.prog 46 #[.slice A l.length c, .slice A' l.length c'] w fun e w' => e = .returned (.bool true) ∧ Below w.heap.size w w' := by
  have hm := C_max hr'
  have hm1 := C_max hr
  have hm2 : l.length + 1 ≤ 9223372036854775807 := hm1
  have hf := KInts_f l l (l.length + 1) hm (by omega)
  rw [decide_eq_true (rfl : l = l)] at hf
  obtain ⟨ad, rfl, hx⟩ := Kd.at_int hr ((l.length : Nat) : Int) (by omega) (by omega)
  have hmk : w.cell? (ad.add l.length) = some (.int .i64 (-7171)) := by
    rw [Int.toNat_natCast] at hx
    rw [hx]
    simp [rd, List.getD_eq_getElem?_getD]
  have hcall : Calls Tryd.prog 85 #[.slice (some ad) l.length c, .slice A' l.length c'] w fun e w' => e = .returned (.bool true) ∧ Aside0 (Below w.heap.size w w') ∧ w'.cell? (ad.add l.length) = some (.int .i64 (-7171)) := by
    refine (dovetailkit_Ints.calls (l.length + 1) (some ad) c l A' c' l true w (C_pre hr) (by omega) hr' hc' hf).mono ?_
    rintro e w' ⟨he, hb⟩
    have hb' : Below w.heap.size w w' := by first | exact hb | exact hb.below
    exact ⟨he, ⟨hb'⟩, (hb'.cell (World.block_lt_of_cell? w _ hmk)).trans hmk⟩
  obtain ⟨i0, hi0, _, _, _⟩ := info_parts info3
  have hcut : ∀ W : World, (Instr.slice 33 (.slice (some ad) l.length c) none (some (.int .i64 ((l.length : Int) + 1))) none).run Tryd.prog W = .ok (.slice (some ad) (l.length + 1) c) W := fun W => by
    have := cut_cap (P := Tryd.prog) 33 3 .i64 Tryd.underlying33 hi0 (some ad) l.length c ((l.length : Int) + 1) (by omega) (by omega) W
    rwa [show ((l.length : Int) + 1).toNat = l.length + 1 from by omega] at this
  have HC := Aside0.mk hcall
  clear hcall hr hr' hx hf hmk hi0 hm1
  go_enter Tryd.func46, Tryd.ntmps46
  go_wp2_with (go_at_call 85; (with_reducible refine HC.out.mono ?_); rintro e w1 ⟨rfl, hb, f0⟩)
  go_ret
  exact ⟨rfl, hb.out⟩

set_option maxHeartbeats 2000000 in
set_option maxRecDepth 100000 in
theorem KeptStrings_yes (A : Option Addr) (c : Nat) (A' : Option Addr) (c' : Nat) (l : List ByteArray) (w : World) (hc : l.length + 1 ≤ c) (hr : Kd.C Kd.string w A (l.length + 1) (l ++ [(⟨#[109, 97, 114, 107]⟩ : ByteArray)])) (hc' : l.length ≤ c') (hr' : Kd.C Kd.string w A' l.length l) :
    Calls Tryd.prog 62 #[.slice A l.length c, .slice A' l.length c'] w fun e w' => e = .returned (.bool true) ∧ Below w.heap.size w w' := by
  have hm := C_max hr'
  have hm1 := C_max hr
  have hm2 : l.length + 1 ≤ 9223372036854775807 := hm1
  have hf := KStrings_f l l (l.length + 1) hm (by omega)
  rw [decide_eq_true (rfl : l = l)] at hf
  obtain ⟨ad, rfl, hx⟩ := Kd.at_string hr ((l.length : Nat) : Int) (by omega) (by omega)
  have hmk : w.cell? (ad.add l.length) = some (.string ⟨#[109, 97, 114, 107]⟩) := by
    rw [Int.toNat_natCast] at hx
    rw [hx]
    simp [rdOf, List.getD_eq_getElem?_getD]
  have hcall : Calls Tryd.prog 72 #[.slice (some ad) l.length c, .slice A' l.length c'] w fun e w' => e = .returned (.bool true) ∧ Aside0 (Below w.heap.size w w') ∧ w'.cell? (ad.add l.length) = some (.string ⟨#[109, 97, 114, 107]⟩) := by
    refine (dovetailkit_Strings.calls (l.length + 1) (some ad) c l A' c' l true w (C_pre hr) (by omega) hr' hc' hf).mono ?_
    rintro e w' ⟨he, hb⟩
    have hb' : Below w.heap.size w w' := by first | exact hb | exact hb.below
    exact ⟨he, ⟨hb'⟩, (hb'.cell (World.block_lt_of_cell? w _ hmk)).trans hmk⟩
  obtain ⟨i0, hi0, _, _, _⟩ := info_parts info9
  have hcut : ∀ W : World, (Instr.slice 22 (.slice (some ad) l.length c) none (some (.int .i64 ((l.length : Int) + 1))) none).run Tryd.prog W = .ok (.slice (some ad) (l.length + 1) c) W := fun W => by
    have := cut_cap (P := Tryd.prog) 22 9 .i64 Tryd.underlying22 hi0 (some ad) l.length c ((l.length : Int) + 1) (by omega) (by omega) W
    rwa [show ((l.length : Int) + 1).toNat = l.length + 1 from by omega] at this
  have HC := Aside0.mk hcall
  clear hcall hr hr' hx hf hmk hi0 hm1
  go_enter Tryd.func62, Tryd.ntmps62
  go_wp2_with (go_at_call 72; (with_reducible refine HC.out.mono ?_); rintro e w1 ⟨rfl, hb, f0⟩)
  go_ret
  exact ⟨rfl, hb.out⟩

theorem MR.addr {w : World} {A : Option Addr} {c : Nat} {l : List S35} (h : MR w A c l) : ∃ ad, A = some ad := by
  obtain ⟨ad, e, _⟩ := h.2.2.2 (by omega)
  exact ⟨ad, e⟩
theorem MR.cells {w : World} {ad : Addr} {c : Nat} {l : List S35} (h : MR w (some ad) c l) (i : Nat) (hi : i < l.length) : ∃ A1 c1, w.cell? (ad.add (i * 2)) = some (.int .i64 l[i].f0) ∧ w.cell? ⟨(ad.add (i * 2)).block, (ad.add (i * 2)).off + 1, none⟩ = some (.slice A1 l[i].f1.length c1) ∧ l[i].f1.length + 1 ≤ c1 ∧ Kd.C (Kd.int .i64) w A1 (l[i].f1.length + 1) (l[i].f1 ++ [-7171]) := by
  obtain ⟨ad', e, hc⟩ := h.2.2.2 (by omega)
  obtain rfl := Option.some.inj e
  obtain ⟨cs, h1, h2, h3⟩ := hc i (l[i], true) (by rw [List.getElem?_append_left (by rw [mk1_length]; exact hi)]; simp [mk1, List.getElem?_eq_getElem hi])
  obtain ⟨a, b, rfl, q1, A1, c1, rfl, q2⟩ := h2
  have q1' : a = [.int .i64 l[i].f0] := q1
  subst q1'
  refine ⟨A1, c1, h3 0 _ rfl, ?_, q2.1, q2.2⟩
  rw [← add_field _ _ 1 (by omega)]
  exact h3 1 _ rfl
theorem MR.mark {w : World} {ad : Addr} {c : Nat} {l : List S35} (h : MR w (some ad) c l) : w.cell? (ad.add (l.length * 2)) = some (.int .i64 (-7171)) := by
  obtain ⟨ad', e, hc⟩ := h.2.2.2 (by omega)
  obtain rfl := Option.some.inj e
  obtain ⟨cs, h1, h2, h3⟩ := hc l.length (⟨-7171, []⟩, false) (by rw [List.getElem?_append_right (by rw [mk1_length]; exact Nat.le_refl _), mk1_length, Nat.sub_self]; rfl)
  obtain ⟨a, b, rfl, q1, _⟩ := h2
  have q1' : a = [.int .i64 (-7171)] := q1
  subst q1'
  exact h3 0 _ rfl
set_option maxHeartbeats 4000000 in
set_option maxRecDepth 100000 in
theorem KeptRules_yes (A : Option Addr) (c : Nat) (A' : Option Addr) (c' : Nat) (l : List S35) (w : World) (hr : MR w A c l) (hc' : l.length ≤ c') (hr' : Kd.C k35 w A' l.length l) :
    Calls Tryd.prog 63 #[.slice A l.length c, .slice A' l.length c'] w fun e w' => e = .returned (.bool true) ∧ Below w.heap.size w w' := by
  have hm := C_max hr'
  have hm1 := C_max hr.2
  have hm2 : l.length + 1 ≤ 9223372036854775807 := hm1
  have hc := hr.1
  obtain ⟨ad, rfl⟩ := hr.addr
  have hmk := hr.mark
  obtain ⟨i0, hi0, _, _, _⟩ := info_parts info35
  have hcut : ∀ W : World, (Instr.slice 23 (.slice (some ad) l.length c) none (some (.int .i64 ((l.length : Int) + 1))) none).run Tryd.prog W = .ok (.slice (some ad) (l.length + 1) c) W := fun W => by
    have := cut_cap (P := Tryd.prog) 23 35 .i64 Tryd.underlying23 hi0 (some ad) l.length c ((l.length : Int) + 1) (by omega) (by omega) W
    rwa [show ((l.length : Int) + 1).toNat = l.length + 1 from by omega] at this
  have HR := Aside0.mk hr
  have HR' := Aside0.mk hr'
  clear hr hr' hi0 hm1
  go_enter Tryd.func63, Tryd.ntmps63
  go_wp2_with fail
  clear hcut hmk
  go_loopw [5] (fun i wr => ∃ k : Nat, k ≤ l.length ∧ i = .int .i64 k ∧ Aside0 (Below w.heap.size w wr)) (fun i _ => l.length - (intOf i).toNat)
  case atStart => exact ⟨0, Nat.zero_le _, rfl, ⟨Below.refl _ w⟩⟩
  case round =>
    obtain ⟨k, hk, rfl, tr⟩ := hrel
    by_cases hlt : k < l.length
    · obtain ⟨A1, c1, g0, g1, g2, g3⟩ := (HR.out.below tr.out).cells k hlt
      obtain ⟨ad', A2, c2, rfl, h0, h1, h2, h3⟩ := at_T35 (Kd.C_below HR'.out tr.out) (k : Int) (by omega) (by omega)
      have q0 : rd_T35 l (k : Int) = l[k] := by simp [rd_T35, List.getD_eq_getElem?_getD, List.getElem?_eq_getElem hlt]
      rw [Int.toNat_natCast] at h0 h1
      rw [q0] at h0 h1 h2 h3
      have hcall : ∀ W, Below wr.heap.size wr W → Calls Tryd.prog 46 #[.slice A1 l[k].f1.length c1, .slice A2 l[k].f1.length c2] W fun e w' => e = .returned (.bool true) ∧ Aside0 (Below w.heap.size w w') := by
        intro W hW
        refine (KeptInts_yes A1 c1 A2 c2 l[k].f1 W g2 (Kd.C_below g3 hW) h2 (Kd.C_below h3 hW)).mono ?_
        rintro e w' ⟨he, hb⟩
        exact ⟨he, ⟨(tr.out.trans (hW.mono (below_size tr.out))).trans (hb.mono (Nat.le_trans (below_size tr.out) hW.size))⟩⟩
      generalize l[k] = x at g0 g1 h0 h1 hcall
      have HC := Aside0.mk hcall
      clear hcall g2 g3 h2 h3 q0
      go_wp2_with fail
      go_still_tail 22, (by kernel_rfl)
      change wpList _ _ _ _ _ wr.drew
      go_wp2_with (go_at_call 46; (with_reducible refine (HC.out _ (Below.refl _ wr).drew).mono ?_); rintro e w6 ⟨rfl, t6⟩)
      go_roundw
      case measure => simp [intOf]; omega
      case rel => exact ⟨k + 1, by omega, rfl, t6⟩
    · have hkn : k = l.length := by omega
      subst hkn
      go_wp2_with fail
      go_ret
      exact ⟨rfl, tr.out⟩
end Go.Proofs.YteaiejippkikpaaDoor.B
/- kit.LentGrammar, kit.KeptGrammar. -/
set_option linter.unusedVariables false
set_option linter.unusedSimpArgs false
namespace Go.Proofs.YteaiejippkikpaaDoor.B
open Go.RowKit Go.Proofs.YteaiejippkikpaaDoorW.PrintWords Go.Proofs.YteaiejippkikpaaDoorW.PrintLast Go.Proofs.YteaiejippkikpaaDoorW.PrintMore

/-- A grammar that was lent. -/
structure MG (w : World) (A0 : Option Addr) (c0 : Nat) (l0 : List ByteArray) (A1 : Option Addr) (c1 : Nat) (l1 : List ByteArray) (A3 : Option Addr) (c3 : Nat) (l3 : List S35) : Prop where
  h0 : l0.length + 1 ≤ c0
  r0 : Kd.C Kd.string w A0 (l0.length + 1) (l0 ++ [(⟨#[109, 97, 114, 107]⟩ : ByteArray)])
  h1 : l1.length + 1 ≤ c1
  r1 : Kd.C Kd.string w A1 (l1.length + 1) (l1 ++ [(⟨#[109, 97, 114, 107]⟩ : ByteArray)])
  r3 : MR w A3 c3 l3
theorem MG.below {w w' : World} {A0 A1 A3 : Option Addr} {c0 c1 c3 : Nat} {l0 l1 : List ByteArray} {l3 : List S35} (h : MG w A0 c0 l0 A1 c1 l1 A3 c3 l3) (hb : Below w.heap.size w w') : MG w' A0 c0 l0 A1 c1 l1 A3 c3 l3 :=
  ⟨h.h0, Kd.C_below h.r0 hb, h.h1, Kd.C_below h.r1 hb, h.r3.below hb⟩
/-- Two grammars' boxes lie. -/
def GG (w : World) (cs cs' : Array Value) (W : World) : Prop := Below w.heap.size w W ∧ Box w.heap.size cs 25 W ∧ Box (w.heap.size + 1) cs' 25 W
theorem GG.low {w : World} {cs cs' : Array Value} {W : World} (h : GG w cs cs' W) : Below w.heap.size w W := h.1
theorem GG.start (w : World) (cs cs' : Array Value) : GG w cs cs' ((w.alloc (.cells cs 25)).alloc (.cells cs' 25)) :=
  ⟨((Below.refl _ w).alloc (Nat.le_refl _) _).alloc (by simp) _, (Box.new w _ _).alloc _, by have := Box.new (w.alloc (.cells cs 25)) cs' 25; simpa using this⟩
theorem GG.more {w : World} {cs cs' : Array Value} {W W' : World} (h : GG w cs cs' W) (hb : Below W.heap.size W W') : GG w cs cs' W' := ⟨h.1.trans (hb.mono h.1.size), h.2.1.below hb, h.2.2.below hb⟩
theorem GG.two {w : World} {cs cs' : Array Value} {W : World} (h : GG w cs cs' W) : w.heap.size + 2 ≤ W.heap.size := by
  have h2 : W.heap[w.heap.size + 1]? = some (.cells cs' 25 (0, 0)) := h.2.2
  rcases Nat.lt_or_ge (w.heap.size + 1) W.heap.size with h1 | h1
  · exact h1
  · rw [Array.getElem?_eq_none h1] at h2; cases h2
theorem GG.cells {w : World} {v0 v1 v2 v3 u0 u1 u2 u3 : Value} {W : World} (h : GG w #[v0, v1, v2, v3] #[u0, u1, u2, u3] W) : (W.cell? ⟨w.heap.size, 0, none⟩ = some v0 ∧ W.cell? ⟨w.heap.size, 1, none⟩ = some v1 ∧ W.cell? ⟨w.heap.size, 2, none⟩ = some v2 ∧ W.cell? ⟨w.heap.size, 3, none⟩ = some v3) ∧
    W.cell? ⟨w.heap.size + 1, 0, none⟩ = some u0 ∧ W.cell? ⟨w.heap.size + 1, 1, none⟩ = some u1 ∧ W.cell? ⟨w.heap.size + 1, 2, none⟩ = some u2 ∧ W.cell? ⟨w.heap.size + 1, 3, none⟩ = some u3 :=
  ⟨⟨h.2.1.cell 0 _ rfl, h.2.1.cell 1 _ rfl, h.2.1.cell 2 _ rfl, h.2.1.cell 3 _ rfl⟩, h.2.2.cell 0 _ rfl, h.2.2.cell 1 _ rfl, h.2.2.cell 2 _ rfl, h.2.2.cell 3 _ rfl⟩
set_option maxHeartbeats 4000000 in
set_option maxRecDepth 100000 in
theorem KeptGrammar_yes (B0 : Option Addr) (d0 : Nat) (B1 : Option Addr) (d1 : Nat) (B3 : Option Addr) (d3 : Nat) (A0 : Option Addr) (c0 : Nat) (l0 : List ByteArray) (A1 : Option Addr) (c1 : Nat) (l1 : List ByteArray) (a2 : Int) (A3 : Option Addr) (c3 : Nat) (l3 : List S35) (w : World) (hm : MG w B0 d0 l0 B1 d1 l1 B3 d3 l3) (hr0 : Kd.C Kd.string w A0 l0.length l0) (hc0 : l0.length ≤ c0) (hr1 : Kd.C Kd.string w A1 l1.length l1) (hc1 : l1.length ≤ c1) (hr3 : Kd.C k35 w A3 l3.length l3) (hc3 : l3.length ≤ c3) :
    Calls Tryd.prog 20 #[.agg #[.slice B0 l0.length d0, .slice B1 l1.length d1, .int .i64 a2, .slice B3 l3.length d3], .agg #[.slice A0 l0.length c0, .slice A1 l1.length c1, .int .i64 a2, .slice A3 l3.length c3]] w fun e w' => e = .returned (.bool true) ∧ Below w.heap.size w w' := by
  obtain ⟨cs, hcs⟩ : ∃ cs : Array Value, cs = #[.slice B0 l0.length d0, .slice B1 l1.length d1, .int .i64 a2, .slice B3 l3.length d3] := ⟨_, rfl⟩
  obtain ⟨cs', hcs'⟩ : ∃ cs : Array Value, cs = #[.slice A0 l0.length c0, .slice A1 l1.length c1, .int .i64 a2, .slice A3 l3.length c3] := ⟨_, rfl⟩
  have CE : ∀ W, GG w cs cs' W → (W.cell? ⟨w.heap.size, 0, none⟩ = some (.slice B0 l0.length d0) ∧ W.cell? ⟨w.heap.size, 1, none⟩ = some (.slice B1 l1.length d1) ∧ W.cell? ⟨w.heap.size, 2, none⟩ = some (.int .i64 a2) ∧ W.cell? ⟨w.heap.size, 3, none⟩ = some (.slice B3 l3.length d3)) ∧ W.cell? ⟨w.heap.size + 1, 0, none⟩ = some (.slice A0 l0.length c0) ∧ W.cell? ⟨w.heap.size + 1, 1, none⟩ = some (.slice A1 l1.length c1) ∧ W.cell? ⟨w.heap.size + 1, 2, none⟩ = some (.int .i64 a2) ∧ W.cell? ⟨w.heap.size + 1, 3, none⟩ = some (.slice A3 l3.length c3) := by
    intro W hW; subst hcs hcs'; exact hW.cells
  have st : GG w cs cs' ((w.alloc (.cells #[.slice B0 l0.length d0, .slice B1 l1.length d1, .int .i64 a2, .slice B3 l3.length d3] 25)).alloc (.cells #[.slice A0 l0.length c0, .slice A1 l1.length c1, .int .i64 a2, .slice A3 l3.length c3] 25)) := by subst hcs hcs'; exact GG.start w _ _
  have k0 : ∀ W, Below w.heap.size w W → Calls Tryd.prog 62 #[.slice B0 l0.length d0, .slice A0 l0.length c0] W fun e w' => e = .returned (.bool true) ∧ Aside0 (Below W.heap.size W w') := fun W hW => (KeptStrings_yes B0 d0 A0 c0 l0 W hm.h0 (Kd.C_below hm.r0 hW) hc0 (Kd.C_below hr0 hW)).mono fun _ _ h => ⟨h.1, ⟨h.2⟩⟩
  have k1 : ∀ W, Below w.heap.size w W → Calls Tryd.prog 62 #[.slice B1 l1.length d1, .slice A1 l1.length c1] W fun e w' => e = .returned (.bool true) ∧ Aside0 (Below W.heap.size W w') := fun W hW => (KeptStrings_yes B1 d1 A1 c1 l1 W hm.h1 (Kd.C_below hm.r1 hW) hc1 (Kd.C_below hr1 hW)).mono fun _ _ h => ⟨h.1, ⟨h.2⟩⟩
  have k3 : ∀ W, Below w.heap.size w W → Calls Tryd.prog 63 #[.slice B3 l3.length d3, .slice A3 l3.length c3] W fun e w' => e = .returned (.bool true) ∧ Aside0 (Below W.heap.size W w') := fun W hW => (KeptRules_yes B3 d3 A3 c3 l3 W (hm.r3.below hW) hc3 (Kd.C_below hr3 hW)).mono fun _ _ h => ⟨h.1, ⟨h.2⟩⟩
  have CE' := Aside0.mk CE
  have ST := Aside0.mk st
  have K0 := Aside0.mk k0
  have K1 := Aside0.mk k1
  have K3 := Aside0.mk k3
  have HCS := Lib.hid hcs
  have HCS' := Lib.hid hcs'
  clear CE st k0 k1 k3 hm hr0 hr1 hr3 hcs hcs'
  go_enter Tryd.func20, Tryd.ntmps20
  go_wp2_with (first
    | (go_at_call 62; (with_reducible refine (K0.out _ ST.out.low).mono ?_); rintro e w1 ⟨rfl, b1⟩; have t1 := Aside0.mk (ST.out.more b1.out); clear b1; obtain ⟨⟨f0, f1, f2, f3⟩, g0, g1, g2, g3⟩ := CE'.out _ t1.out)
    | (go_at_call 62; (with_reducible refine (K1.out _ t1.out.low).mono ?_); rintro e w2 ⟨rfl, b2⟩; have t2 := Aside0.mk (t1.out.more b2.out); clear b2 f0 f1 f2 f3 g0 g1 g2 g3; obtain ⟨⟨f0, f1, f2, f3⟩, g0, g1, g2, g3⟩ := CE'.out _ t2.out)
    | (go_at_call 63; (with_reducible refine (K3.out _ t2.out.low).mono ?_); rintro e w3 ⟨rfl, b3⟩; have t3 := Aside0.mk (t2.out.more b3.out); clear b3))
  go_ret
  exact ⟨rfl, t3.out.low⟩
set_option maxHeartbeats 8000000 in
set_option maxRecDepth 100000 in
theorem LentGrammar_m (A0 : Option Addr) (c0 : Nat) (l0 : List ByteArray) (A1 : Option Addr) (c1 : Nat) (l1 : List ByteArray) (a2 : Int) (A3 : Option Addr) (c3 : Nat) (l3 : List S35) (w : World) (hr0 : Kd.C Kd.string w A0 l0.length l0) (hr1 : Kd.C Kd.string w A1 l1.length l1) (hr3 : Kd.C k35 w A3 l3.length l3)
    (b0 : l0.length < 8796093022207) (b1 : l1.length < 8796093022207) (b3 : l3.length < 4398046511104) (bx : ∀ x ∈ l3, x.f1.length < 17592186044415) :
    Calls Tryd.prog 13 #[.agg #[.slice A0 l0.length c0, .slice A1 l1.length c1, .int .i64 a2, .slice A3 l3.length c3]] w fun e w' => ∃ B0 d0 B1 d1 B3 d3, e = .returned (.agg #[.slice B0 l0.length d0, .slice B1 l1.length d1, .int .i64 a2, .slice B3 l3.length d3]) ∧ Aside0 (MG w' B0 d0 l0 B1 d1 l1 B3 d3 l3 ∧ Below w.heap.size w w') := by
  obtain ⟨cs, hcs⟩ : ∃ cs : Array Value, cs = #[.slice A0 l0.length c0, .slice A1 l1.length c1, .int .i64 a2, .slice A3 l3.length c3] := ⟨_, rfl⟩
  obtain ⟨cs', hcs'⟩ : ∃ cs : Array Value, cs = #[.slice none 0 0, .slice none 0 0, .int .i64 0, .slice none 0 0] := ⟨_, rfl⟩
  have CE : ∀ W, GG w cs cs' W → W.cell? ⟨w.heap.size, 0, none⟩ = some (.slice A0 l0.length c0) ∧ W.cell? ⟨w.heap.size, 1, none⟩ = some (.slice A1 l1.length c1) ∧ W.cell? ⟨w.heap.size, 2, none⟩ = some (.int .i64 a2) ∧ W.cell? ⟨w.heap.size, 3, none⟩ = some (.slice A3 l3.length c3) ∧ W.heap[w.heap.size + 1]? = some (.cells #[.slice none 0 0, .slice none 0 0, .int .i64 0, .slice none 0 0] 25 (0, 0)) := by
    intro W hW; subst hcs hcs'; obtain ⟨⟨h0, h1, h2, h3⟩, _⟩ := hW.cells; exact ⟨h0, h1, h2, h3, hW.2.2⟩
  have st : GG w cs cs' ((w.alloc (.cells #[.slice A0 l0.length c0, .slice A1 l1.length c1, .int .i64 a2, .slice A3 l3.length c3] 25)).alloc (.cells #[.slice none 0 0, .slice none 0 0, .int .i64 0, .slice none 0 0] 25)) := by subst hcs hcs'; exact GG.start w _ _
  have SF : ∀ W', GG w cs cs' W' → (W'.cell? ⟨w.heap.size, 0, none⟩ = some (.slice A0 l0.length c0) ∧ W'.cell? ⟨w.heap.size, 1, none⟩ = some (.slice A1 l1.length c1) ∧ W'.cell? ⟨w.heap.size, 2, none⟩ = some (.int .i64 a2) ∧ W'.cell? ⟨w.heap.size, 3, none⟩ = some (.slice A3 l3.length c3) ∧ W'.cell? ⟨w.heap.size + 1, 0, none⟩ = some (.slice none 0 0) ∧ W'.cell? ⟨w.heap.size + 1, 1, none⟩ = some (.slice none 0 0) ∧ W'.cell? ⟨w.heap.size + 1, 2, none⟩ = some (.int .i64 0) ∧ W'.cell? ⟨w.heap.size + 1, 3, none⟩ = some (.slice none 0 0) ∧ W'.frozen? ⟨w.heap.size + 1, 0, none⟩ = false ∧ W'.frozen? ⟨w.heap.size + 1, 1, none⟩ = false ∧ W'.frozen? ⟨w.heap.size + 1, 2, none⟩ = false ∧ W'.frozen? ⟨w.heap.size + 1, 3, none⟩ = false) := by
    intro W' hW
    obtain ⟨h0, h1, h2, h3, h4⟩ := CE W' hW
    have hb : Box (w.heap.size + 1) #[.slice none 0 0, .slice none 0 0, .int .i64 0, .slice none 0 0] 25 W' := h4
    have hf : ∀ j, W'.frozen? ⟨w.heap.size + 1, j, none⟩ = false := fun j => by unfold World.frozen?; rw [show W'.heap[(⟨w.heap.size + 1, j, none⟩ : Addr).block]? = _ from h4]; rfl
    exact ⟨h0, h1, h2, h3, hb.cell 0 _ rfl, hb.cell 1 _ rfl, hb.cell 2 _ rfl, hb.cell 3 _ rfl, hf 0, hf 1, hf 2, hf 3⟩
  have k0 : ∀ W, GG w cs cs' W → Calls Tryd.prog 58 #[.slice A0 l0.length c0] W fun e W' => (∃ B d, e = .returned (.slice B l0.length d) ∧ Aside0 (Kd.R Kd.string 9 W' w.heap.size (fun k => w.heap.size + 2 ≤ k) (.slice B (l0.length + 1) d) (l0 ++ [(⟨#[109, 97, 114, 107]⟩ : ByteArray)]) ∧ GG w cs cs' W' ∧ Below W.heap.size W W')) ∧ (W'.cell? ⟨w.heap.size, 0, none⟩ = some (.slice A0 l0.length c0) ∧ W'.cell? ⟨w.heap.size, 1, none⟩ = some (.slice A1 l1.length c1) ∧ W'.cell? ⟨w.heap.size, 2, none⟩ = some (.int .i64 a2) ∧ W'.cell? ⟨w.heap.size, 3, none⟩ = some (.slice A3 l3.length c3) ∧ W'.cell? ⟨w.heap.size + 1, 0, none⟩ = some (.slice none 0 0) ∧ W'.cell? ⟨w.heap.size + 1, 1, none⟩ = some (.slice none 0 0) ∧ W'.cell? ⟨w.heap.size + 1, 2, none⟩ = some (.int .i64 0) ∧ W'.cell? ⟨w.heap.size + 1, 3, none⟩ = some (.slice none 0 0) ∧ W'.frozen? ⟨w.heap.size + 1, 0, none⟩ = false ∧ W'.frozen? ⟨w.heap.size + 1, 1, none⟩ = false ∧ W'.frozen? ⟨w.heap.size + 1, 2, none⟩ = false ∧ W'.frozen? ⟨w.heap.size + 1, 3, none⟩ = false) := by
    intro W hW
    refine (LentStrings_m A0 c0 l0 W (Kd.C_below hr0 hW.low) b0).mono ?_
    rintro e w' ⟨B, d, rfl, h⟩
    exact ⟨⟨B, d, rfl, ⟨Kd.R_lower (Kd.R_mono (Kd.R_bound h.out.1) (fun k hk => Nat.le_trans hW.two hk.2.1)) (Nat.le_trans (by omega) hW.two), hW.more h.out.2, h.out.2⟩⟩, SF _ (hW.more h.out.2)⟩
  have k1 : ∀ W, GG w cs cs' W → Calls Tryd.prog 58 #[.slice A1 l1.length c1] W fun e W' => (∃ B d, e = .returned (.slice B l1.length d) ∧ Aside0 (Kd.R Kd.string 9 W' w.heap.size (fun k => w.heap.size + 2 ≤ k) (.slice B (l1.length + 1) d) (l1 ++ [(⟨#[109, 97, 114, 107]⟩ : ByteArray)]) ∧ GG w cs cs' W' ∧ Below W.heap.size W W')) ∧ (W'.cell? ⟨w.heap.size, 0, none⟩ = some (.slice A0 l0.length c0) ∧ W'.cell? ⟨w.heap.size, 1, none⟩ = some (.slice A1 l1.length c1) ∧ W'.cell? ⟨w.heap.size, 2, none⟩ = some (.int .i64 a2) ∧ W'.cell? ⟨w.heap.size, 3, none⟩ = some (.slice A3 l3.length c3) ∧ W'.cell? ⟨w.heap.size + 1, 0, none⟩ = some (.slice none 0 0) ∧ W'.cell? ⟨w.heap.size + 1, 1, none⟩ = some (.slice none 0 0) ∧ W'.cell? ⟨w.heap.size + 1, 2, none⟩ = some (.int .i64 0) ∧ W'.cell? ⟨w.heap.size + 1, 3, none⟩ = some (.slice none 0 0) ∧ W'.frozen? ⟨w.heap.size + 1, 0, none⟩ = false ∧ W'.frozen? ⟨w.heap.size + 1, 1, none⟩ = false ∧ W'.frozen? ⟨w.heap.size + 1, 2, none⟩ = false ∧ W'.frozen? ⟨w.heap.size + 1, 3, none⟩ = false) := by
    intro W hW
    refine (LentStrings_m A1 c1 l1 W (Kd.C_below hr1 hW.low) b1).mono ?_
    rintro e w' ⟨B, d, rfl, h⟩
    exact ⟨⟨B, d, rfl, ⟨Kd.R_lower (Kd.R_mono (Kd.R_bound h.out.1) (fun k hk => Nat.le_trans hW.two hk.2.1)) (Nat.le_trans (by omega) hW.two), hW.more h.out.2, h.out.2⟩⟩, SF _ (hW.more h.out.2)⟩
  have k3 : ∀ W, GG w cs cs' W → Calls Tryd.prog 59 #[.slice A3 l3.length c3] W fun e W' => (∃ B d, e = .returned (.slice B l3.length d) ∧ Aside0 (Kd.R kRx 35 W' w.heap.size (fun k => w.heap.size + 2 ≤ k) (.slice B (l3.length + 1) d) (mk1 l3 ++ [((⟨-7171, []⟩ : S35), false)]) ∧ GG w cs cs' W' ∧ Below W.heap.size W W')) ∧ (W'.cell? ⟨w.heap.size, 0, none⟩ = some (.slice A0 l0.length c0) ∧ W'.cell? ⟨w.heap.size, 1, none⟩ = some (.slice A1 l1.length c1) ∧ W'.cell? ⟨w.heap.size, 2, none⟩ = some (.int .i64 a2) ∧ W'.cell? ⟨w.heap.size, 3, none⟩ = some (.slice A3 l3.length c3) ∧ W'.cell? ⟨w.heap.size + 1, 0, none⟩ = some (.slice none 0 0) ∧ W'.cell? ⟨w.heap.size + 1, 1, none⟩ = some (.slice none 0 0) ∧ W'.cell? ⟨w.heap.size + 1, 2, none⟩ = some (.int .i64 0) ∧ W'.cell? ⟨w.heap.size + 1, 3, none⟩ = some (.slice none 0 0) ∧ W'.frozen? ⟨w.heap.size + 1, 0, none⟩ = false ∧ W'.frozen? ⟨w.heap.size + 1, 1, none⟩ = false ∧ W'.frozen? ⟨w.heap.size + 1, 2, none⟩ = false ∧ W'.frozen? ⟨w.heap.size + 1, 3, none⟩ = false) := by
    intro W hW
    refine (LentRules_m A3 c3 l3 W (Kd.C_below hr3 hW.low) b3 bx).mono ?_
    rintro e w' ⟨B, d, rfl, h⟩
    exact ⟨⟨B, d, rfl, ⟨Kd.R_lower (Kd.R_mono (Kd.R_bound h.out.1) (fun k hk => Nat.le_trans hW.two hk.2.1)) (Nat.le_trans (by omega) hW.two), hW.more h.out.2, h.out.2⟩⟩, SF _ (hW.more h.out.2)⟩
  obtain ⟨f0, f1, f2, f3, f4, f5, f6, f7, f8, f9, f10, f11⟩ := SF _ st
  have ST := Aside0.mk st
  have HCS := Lib.hid hcs
  have HCS' := Lib.hid hcs'
  have K0 := Aside0.mk k0
  have K1 := Aside0.mk k1
  have K3 := Aside0.mk k3
  clear CE st k0 k1 k3 hr0 hr1 hr3 hcs hcs' SF bx
  go_enter Tryd.func13, Tryd.ntmps13
  go_wp2_with fail
  go_region_held3 (fun W' => W'.cell? ⟨w.heap.size, 0, none⟩ = some (.slice A0 l0.length c0) ∧ W'.cell? ⟨w.heap.size, 1, none⟩ = some (.slice A1 l1.length c1) ∧ W'.cell? ⟨w.heap.size, 2, none⟩ = some (.int .i64 a2) ∧ W'.cell? ⟨w.heap.size, 3, none⟩ = some (.slice A3 l3.length c3))
    (go_keep)
    ((first
      | (go_at_call 58; (with_reducible refine (K0.out _ ?_).mono ?_); exact (by first | exact ST.out | exact ST.out.more (Below.refl _ _).drew); rintro e w1 ⟨⟨B0, d0, rfl, t1⟩, g0, g1, g2, g3, g4, g5, g6, g7, g8, g9, g10, g11⟩)
      | (go_at_call 58; (with_reducible refine (K1.out _ t1.out.2.1).mono ?_); rintro e w2 ⟨⟨B1, d1, rfl, t2⟩, g0, g1, g2, g3, g4, g5, g6, g7, g8, g9, g10, g11⟩)
      | (go_at_call 59; (with_reducible refine (K3.out _ t2.out.2.1).mono ?_); rintro e w3 ⟨⟨B3, d3, rfl, t3⟩, g0, g1, g2, g3, g4, g5, g6, g7, g8, g9, g10, g11⟩)))
  go_wp2_with fail
  refine bodyPost_ret (v := .agg #[.slice B0 l0.length d0, .slice B1 l1.length d1, .int .i64 a2, .slice B3 l3.length d3]) (by simp [results, Tryd.results13, go_sem, g4, g5, g6, g7]) rfl ⟨B0, d0, B1, d1, B3, d3, rfl, ⟨?_, ?_⟩⟩
  · have e0 := Kd.R_reads' (Kd.R_far (Kd.R_far (Kd.R_far (Kd.R_far (Kd.R_below (Kd.R_below t1.out.1 t2.out.2.2) t3.out.2.2) (p := ⟨w.heap.size + 1, 0, none⟩) (fun k hk => by dsimp only; omega) (.slice B0 l0.length d0)) (p := ⟨w.heap.size + 1, 1, none⟩) (fun k hk => by dsimp only; omega) (.slice B1 l1.length d1)) (p := ⟨w.heap.size + 1, 2, none⟩) (fun k hk => by dsimp only; omega) (.int .i64 a2)) (p := ⟨w.heap.size + 1, 3, none⟩) (fun k hk => by dsimp only; omega) (.slice B3 l3.length d3))
    have e1 := Kd.R_reads' (Kd.R_far (Kd.R_far (Kd.R_far (Kd.R_far (Kd.R_below t2.out.1 t3.out.2.2) (p := ⟨w.heap.size + 1, 0, none⟩) (fun k hk => by dsimp only; omega) (.slice B0 l0.length d0)) (p := ⟨w.heap.size + 1, 1, none⟩) (fun k hk => by dsimp only; omega) (.slice B1 l1.length d1)) (p := ⟨w.heap.size + 1, 2, none⟩) (fun k hk => by dsimp only; omega) (.int .i64 a2)) (p := ⟨w.heap.size + 1, 3, none⟩) (fun k hk => by dsimp only; omega) (.slice B3 l3.length d3))
    have e3 := MR.of (Kd.R_far (Kd.R_far (Kd.R_far (Kd.R_far t3.out.1 (p := ⟨w.heap.size + 1, 0, none⟩) (fun k hk => by dsimp only; omega) (.slice B0 l0.length d0)) (p := ⟨w.heap.size + 1, 1, none⟩) (fun k hk => by dsimp only; omega) (.slice B1 l1.length d1)) (p := ⟨w.heap.size + 1, 2, none⟩) (fun k hk => by dsimp only; omega) (.int .i64 a2)) (p := ⟨w.heap.size + 1, 3, none⟩) (fun k hk => by dsimp only; omega) (.slice B3 l3.length d3))
    rw [← e0.1] at e0
    rw [← e1.1] at e1
    exact ⟨e0.2.1, e0.2.2, e1.2.1, e1.2.2, e3⟩
  · have hb := t3.out.2.1.low
    exact (((hb.setCell (p := ⟨w.heap.size + 1, 0, none⟩) (by dsimp only; omega) _).setCell (p := ⟨w.heap.size + 1, 1, none⟩) (by dsimp only; omega) _).setCell (p := ⟨w.heap.size + 1, 2, none⟩) (by dsimp only; omega) _).setCell (p := ⟨w.heap.size + 1, 3, none⟩) (by dsimp only; omega) _
end Go.Proofs.YteaiejippkikpaaDoor.B
/- gram.Above at a grammar that may not be: no list. -/
set_option linter.unusedVariables false
namespace Go.Proofs.YteaiejippkikpaaDoor.B
open Go.RowKit Go.Proofs.YteaiejippkikpaaDoorW.PrintWords Go.Proofs.YteaiejippkikpaaDoorW.PrintLast Go.Proofs.YteaiejippkikpaaDoorW.PrintMore

set_option maxHeartbeats 1000000 in
set_option maxRecDepth 100000 in
theorem Above_bad (A0 : Option Addr) (n0 c0 : Nat) (A1 : Option Addr) (n1 c1 : Nat) (a2 : Int) (A3 : Option Addr) (n3 c3 : Nat) (w : World)
    (hC : ∀ W, Below w.heap.size w W → Calls Tryd.prog 28 #[.agg #[.slice A0 n0 c0, .slice A1 n1 c1, .int .i64 a2, .slice A3 n3 c3]] W fun e w' => (∃ t u, e = .returned (.iface t u)) ∧ Below W.heap.size W w') :
    Calls Tryd.prog 23 #[.agg #[.slice A0 n0 c0, .slice A1 n1 c1, .int .i64 a2, .slice A3 n3 c3]] w fun e w' => e = .returned (.slice none 0 0) ∧ Below w.heap.size w w' := by
  have hb : Below w.heap.size w (w.alloc (.cells #[.slice A0 n0 c0, .slice A1 n1 c1, .int .i64 a2, .slice A3 n3 c3] 25)) := (Below.refl _ w).alloc (Nat.le_refl _) _
  have HC := Aside0.mk (hC _ hb)
  have HB := Aside0.mk hb
  clear hC hb
  go_enter Tryd.func23, Tryd.ntmps23
  go_wp2_with (go_at_call 28; (with_reducible refine HC.out.mono ?_); rintro e w' ⟨⟨te, ue, rfl⟩, hb'⟩)
  go_ret
  exact ⟨rfl, HB.out.trans (hb'.mono HB.out.size)⟩
end Go.Proofs.YteaiejippkikpaaDoor.B
/- dovetaillaw03.awake: it answers true. -/
set_option linter.unusedVariables false
namespace Go.Proofs.YteaiejippkikpaaDoor.B
open Go.RowKit Go.Proofs.YteaiejippkikpaaDoorW.PrintWords Go.Proofs.YteaiejippkikpaaDoorW.PrintLast Go.Proofs.YteaiejippkikpaaDoorW.PrintMore

theorem given_C (r1 r2 : List ByteArray) (r3 : Int) (r4 : List S35) (w : World) (h : dovetaillaw03_given.f = some (r1, r2, r3, r4)) :
    Calls Tryd.prog 53 #[] w fun e w' => ∃ A0 c0 A1 c1 A3 c3, e = .returned (.agg #[.slice A0 r1.length c0, .slice A1 r2.length c1, .int .i64 r3, .slice A3 r4.length c3]) ∧ Kd.C Kd.string w' A0 r1.length r1 ∧ r1.length ≤ c0 ∧ Kd.C Kd.string w' A1 r2.length r2 ∧ r2.length ≤ c1 ∧ Kd.C k35 w' A3 r4.length r4 ∧ r4.length ≤ c3 ∧ Below w.heap.size w w' := by
  refine (dovetaillaw03_given.calls r1 r2 r3 r4 w h).mono ?_
  rintro e w' ⟨v0, v1, v3, rfl, h0, h1, h3, hb⟩
  obtain ⟨A0, c0, rfl⟩ := Kd.R_slice h0
  obtain ⟨A1, c1, rfl⟩ := Kd.R_slice h1
  obtain ⟨A3, c3, rfl⟩ := Kd.N_slice h3
  exact ⟨A0, c0, A1, c1, A3, c3, rfl, (Kd.R_reads' h0).2.2, (Kd.R_reads' h0).2.1, (Kd.R_reads' h1).2.2, (Kd.R_reads' h1).2.1, (Kd.N_reads' h3).2.2, (Kd.N_reads' h3).2.1, hb⟩
theorem chain_C (r1 r2 : List ByteArray) (r3 : Int) (r4 : List S35) (w : World) (h : dovetaillaw03_chain.f = some (r1, r2, r3, r4)) :
    Calls Tryd.prog 56 #[] w fun e w' => ∃ A0 c0 A1 c1 A3 c3, e = .returned (.agg #[.slice A0 r1.length c0, .slice A1 r2.length c1, .int .i64 r3, .slice A3 r4.length c3]) ∧ Kd.C Kd.string w' A0 r1.length r1 ∧ r1.length ≤ c0 ∧ Kd.C Kd.string w' A1 r2.length r2 ∧ r2.length ≤ c1 ∧ Kd.C k35 w' A3 r4.length r4 ∧ r4.length ≤ c3 ∧ Below w.heap.size w w' := by
  refine (dovetaillaw03_chain.calls r1 r2 r3 r4 w h).mono ?_
  rintro e w' ⟨v0, v1, v3, rfl, h0, h1, h3, hb⟩
  obtain ⟨A0, c0, rfl⟩ := Kd.R_slice h0
  obtain ⟨A1, c1, rfl⟩ := Kd.R_slice h1
  obtain ⟨A3, c3, rfl⟩ := Kd.N_slice h3
  exact ⟨A0, c0, A1, c1, A3, c3, rfl, (Kd.R_reads' h0).2.2, (Kd.R_reads' h0).2.1, (Kd.R_reads' h1).2.2, (Kd.R_reads' h1).2.1, (Kd.N_reads' h3).2.2, (Kd.N_reads' h3).2.1, hb⟩

theorem lit3_C (W : World) (b : Nat) (t : TypeId) (x y z : Int) (h : W.heap[b]? = some (.cells #[.int .u64 x, .int .u64 y, .int .u64 z] t (0, 0))) : Kd.C (Kd.int .u64) W (some ⟨b, 0, none⟩) 3 [x, y, z] := by
  have h0 : Box b #[.int .u64 x, .int .u64 y, .int .u64 z] t W := h
  refine ⟨rfl, by omega, fun _ => ⟨⟨b, 0, none⟩, rfl, fun j p hj => ⟨[.int .u64 p], rfl, rfl, fun i u hi => ?_⟩⟩⟩
  obtain rfl : i = 0 := by
    rcases i with _ | i
    · rfl
    · simp at hi
  simp at hi
  subst hi
  rw [Addr.add_lit]
  match j, hj with
  | 0, hj => simp at hj; subst hj; exact h0.cell 0 _ rfl
  | 1, hj => simp at hj; subst hj; exact h0.cell 1 _ rfl
  | 2, hj => simp at hj; subst hj; exact h0.cell 2 _ rfl
  | j + 3, hj => simp at hj

def dovetaillaw03_awake.ok : Bool :=
  match dovetaillaw03_given.f, dovetaillaw03_chain.f with
  | some (g0, g1, g2, g3), some (c0, c1, c2, c3) =>
    decide (gram_Check.f 50 g0 g1 g2 g3 = some none) && decide (gram_Term.f 50 g0 g1 g2 g3 ⟨#[105]⟩ = some (1, true)) && decide (gram_Above.f 50 c0 c1 c2 c3 = some [1, 3, 7]) && decide (dovetailkit_Sets.f 50 [1, 3, 7] [1, 3, 7] = some true)
  | _, _ => false
theorem dovetaillaw03_awake.ok_true : dovetaillaw03_awake.ok = true := by kernel_rfl

set_option maxHeartbeats 1000000 in
set_option maxRecDepth 100000 in
theorem Awake_calls (w : World) : Calls Tryd.prog 27 #[] w fun e w' => e = .returned (.bool true) ∧ Below w.heap.size w w' := by
  obtain ⟨g0, g1, g2, g3, d0, d1, d2, d3, hg, hd, hk, ht, ha, hs⟩ : ∃ g0 g1 g2 g3 d0 d1 d2 d3, dovetaillaw03_given.f = some (g0, g1, g2, g3) ∧ dovetaillaw03_chain.f = some (d0, d1, d2, d3) ∧
      gram_Check.f 50 g0 g1 g2 g3 = some none ∧ gram_Term.f 50 g0 g1 g2 g3 ⟨#[105]⟩ = some (1, true) ∧ gram_Above.f 50 d0 d1 d2 d3 = some [1, 3, 7] ∧ dovetailkit_Sets.f 50 [1, 3, 7] [1, 3, 7] = some true := by
    have h := dovetaillaw03_awake.ok_true
    unfold dovetaillaw03_awake.ok at h
    split at h
    · rename_i g0 g1 g2 g3 d0 d1 d2 d3 hg hd
      simp only [Bool.and_eq_true, decide_eq_true_eq] at h
      exact ⟨g0, g1, g2, g3, d0, d1, d2, d3, hg, hd, h.1.1.1, h.1.1.2, h.1.2, h.2⟩
    · cases h
  have HG := Aside0.mk hg
  have HD := Aside0.mk hd
  have HK := Aside0.mk hk
  have HT := Aside0.mk ht
  have HA := Aside0.mk ha
  have HS := Aside0.mk hs
  clear hg hd hk ht ha hs
  have TR : Aside0 (∀ {W W' : World}, Below w.heap.size w W → Below W.heap.size W W' → Below w.heap.size w W') := ⟨fun h1 h2 => h1.trans (h2.mono h1.size)⟩
  go_enter Tryd.func27, Tryd.ntmps27
  go_wp2_with (go_at_call 53; (with_reducible refine (given_C g0 g1 g2 g3 _ HG.out).mono ?_); rintro e w1 ⟨A0, c0, A1, c1, A3, c3, rfl, r0, l0, r1, l1, r3, l3, b1⟩; have R0 := Aside0.mk r0; have R1 := Aside0.mk r1; have R3 := Aside0.mk r3; have B1 := Aside0.mk b1; clear r0 r1 r3 b1)
  refine (gram_Check.calls 50 A0 c0 g0 A1 c1 g1 g2 A3 c3 g3 none w1 R0.out l0 R1.out l1 R3.out l3 HK.out).mono ?_
  rintro e w2 ⟨rfl, b2⟩
  have B2 := Aside0.mk (TR.out B1.out b2)
  clear b2 R0 R1 R3 B1 l0 l1 l3
  simp only [errW_none]
  go_wp2_with (go_at_call 53; (with_reducible refine (given_C g0 g1 g2 g3 _ HG.out).mono ?_); rintro e w3 ⟨a0, c0, a1, c1, a3, c3, rfl, r0, l0, r1, l1, r3, l3, b1⟩; have R0 := Aside0.mk r0; have R1 := Aside0.mk r1; have R3 := Aside0.mk r3; have B3 := Aside0.mk (TR.out B2.out b1); clear r0 r1 r3 b1)
  refine (gram_Term.calls 50 a0 c0 g0 a1 c1 g1 g2 a3 c3 g3 ⟨#[105]⟩ 1 true w3 R0.out l0 R1.out l1 R3.out l3 HT.out).mono ?_
  rintro e w4 ⟨rfl, b2⟩
  have B4 := Aside0.mk (TR.out B3.out (by first | exact b2 | exact b2.below))
  clear b2 R0 R1 R3 B3 l0 l1 l3
  go_wp2_with (go_at_call 56; (with_reducible refine (chain_C d0 d1 d2 d3 _ HD.out).mono ?_); rintro e w5 ⟨a0, c0, a1, c1, a3, c3, rfl, r0, l0, r1, l1, r3, l3, b1⟩; have R0 := Aside0.mk r0; have R1 := Aside0.mk r1; have R3 := Aside0.mk r3; have B5 := Aside0.mk (TR.out B4.out b1); clear r0 r1 r3 b1)
  refine (gram_Above.calls 50 a0 c0 d0 a1 c1 d1 d2 a3 c3 d3 [1, 3, 7] w5 R0.out l0 R1.out l1 R3.out l3 HA.out).mono ?_
  rintro e w6 ⟨v, rfl, hv, b2⟩
  obtain ⟨A, c, rfl⟩ := Kd.R_slice hv
  obtain ⟨_, hc, hC⟩ := Kd.R_reads' hv
  have B6 := Aside0.mk (TR.out B5.out b2)
  have HC := Aside0.mk hC
  clear b2 R0 R1 R3 B5 l0 l1 l3 hv hC
  go_wp2_with fail
  have hb7 : Below w6.heap.size w6 (w6.alloc (.cells #[.int .u64 1, .int .u64 3, .int .u64 7] 47)) := (Below.refl _ w6).alloc (Nat.le_refl _) _
  refine (dovetailkit_Sets.calls 50 A c [1, 3, 7] (some ⟨w6.heap.size, 0, none⟩) 3 [1, 3, 7] true _ (Kd.C_below HC.out hb7) hc (lit3_C _ _ _ 1 3 7 (heap_alloc_new w6 _)) (by simp) HS.out).mono ?_
  rintro e w8 ⟨rfl, b2⟩
  have B8 := Aside0.mk (TR.out (TR.out B6.out hb7) b2.below)
  clear b2 hb7
  go_wp2_with fail
  go_ret
  exact ⟨rfl, B8.out⟩

def dovetaillaw03_awake.f : Option Bool := some true
theorem dovetaillaw03_awake.calls (r : Bool) (w : World) (h : dovetaillaw03_awake.f = some r) :
    Calls Tryd.prog 27 #[] w fun e w' => e = .returned (.bool r) ∧ Below w.heap.size w w' := by
  obtain rfl := Option.some.inj h
  exact Awake_calls w
end Go.Proofs.YteaiejippkikpaaDoor.B
