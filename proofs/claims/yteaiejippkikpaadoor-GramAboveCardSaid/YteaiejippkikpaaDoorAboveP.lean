/- gram.Above: each nonterminal's set has just those that come to it. -/
import Derived.Test.YteaiejippkikpaaDoorGramRd
import Derived.Test.YteaiejippkikpaaDoorCx2
set_option linter.unusedVariables false
set_option linter.unusedSimpArgs false
namespace Go.Proofs.YteaiejippkikpaaDoor.B
open Go.RowKit Go.Proofs.YteaiejippkikpaaDoorW.PrintWords Go.Proofs.YteaiejippkikpaaDoorW.PrintLast Go.Proofs.YteaiejippkikpaaDoorW.PrintMore

/-- The sets on their way. -/
structure Sets (R : List S35) (n : Nat) (S : List Int) : Prop where
  len : S.length = n
  u : ∀ i, i < n → U (S.getD i 0)
  own : ∀ i, i < n → mem (S.getD i 0) i = true
  sound : ∀ i, i < n → ∀ k, mem (S.getD i 0) k = true → Reach R k i
/-- A rule brings nothing more. -/
def Shut (S : List Int) (x : S35) : Prop := ∀ m, ren x = some m → ∀ i, mem (S.getD x.f0.toNat 0) i = true → mem (S.getD m 0) i = true

theorem fill_l (n : Nat) (l0 l1 : List ByteArray) (a2 : Int) (R : List S35) (hn : n ≤ 60) (k : Nat) : ∀ (d i : Nat) (S : List Int), S.length = n → n - i = d → i ≤ n →
    gram_Above.l0 (k + d + 1) S (n : Int) (i : Int) l0 l1 a2 R = gram_Above.l1 k ((List.range n).map fun j => if j < i then S.getD j 0 else shl .u64 1 (j : Int)) true l0 l1 a2 R := by
  intro d
  induction d with
  | zero =>
    intro i S hl hd hi
    have : i = n := by omega
    subst this
    rw [gram_Above.l0, if_neg (by omega)]
    congr 1
    apply List.ext_getElem
    · simp [hl]
    · intro j h1 h2
      have : j < i := by omega
      simp [this, h1]
  | succ d ih =>
    intro i S hl hd hi
    have hlt : i < n := by omega
    rw [show k + (d + 1) + 1 = (k + d + 1) + 1 from by omega, gram_Above.l0, if_pos (by omega), if_pos (by omega), if_pos (by omega), Int.toNat_natCast, w64 i (by omega), ih (i + 1) _ (by simp [hl]) (by omega) (by omega)]
    congr 1
    apply List.map_congr_left
    intro j hj
    have hjn : j < n := by simpa using hj
    rw [getD_set]
    by_cases c : j = i
    · subst c
      rw [if_pos (by omega), if_pos ⟨rfl, by omega⟩, if_neg (by omega)]
    · by_cases c2 : j < i
      · rw [if_pos (by omega), if_neg (fun h => c h.1.symm), if_pos c2]
      · rw [if_neg (by omega), if_neg c2]

theorem pass (n t : Nat) (l0 l1 : List ByteArray) (a2 : Int) (R : List S35) (hn : n ≤ 60) (hR : ∀ x ∈ R, okR t n x = true) (hRl : R.length ≤ 120) : ∀ (d j : Nat) (S : List Int) (more : Bool), Sets R n S → R.length - j = d → j ≤ R.length →
    ∃ S' more', (∀ k, gram_Above.l2 (k + d + 1) S more R (R.length : Int) (j : Int) l0 l1 a2 R = gram_Above.l1 k S' more' l0 l1 a2 R) ∧ Sets R n S' ∧ (∀ i, i < n → S.getD i 0 ≤ S'.getD i 0) ∧
      (more' = false → more = false ∧ S' = S ∧ ∀ x ∈ R.drop j, Shut S x) ∧ (more' = true → more = true ∨ S.sum < S'.sum) := by
  intro d
  induction d with
  | zero =>
    intro j S more hS hd hj
    have : j = R.length := by omega
    subst this
    refine ⟨S, more, fun k => ?_, hS, fun i _ => Int.le_refl _, fun h => ⟨h, rfl, by simp⟩, fun h => .inl h⟩
    rw [gram_Above.l2, if_neg (by omega)]
  | succ d ih =>
    intro j S more hS hd hj
    have hlt : j < R.length := by omega
    have hx := hR R[j] (List.getElem_mem hlt)
    have hd1 : rd_T35 R (j : Int) = R[j] := by rw [rdR_D, getD_lt R j _ hlt]
    have hrf := ren_f hx hn
    obtain ⟨_, ha0, ha1, _⟩ := okR_sides hx
    have hmem : R[j] ∈ R := List.getElem_mem hlt
    have hdrop : R.drop j = R[j] :: R.drop (j + 1) := List.drop_eq_getElem_cons hlt
    have hrn : ∀ m, ren R[j] = some m → m < n := fun m h => ren_lt hx h
    generalize R[j] = x at hx hd1 hrf ha0 ha1 hmem hdrop hrn
    obtain ⟨a, ha⟩ : ∃ a : Nat, x.f0 = a := ⟨x.f0.toNat, by omega⟩
    have han : a < n := by omega
    have hlen := hS.len
    have unf : ∀ k, gram_Above.l2 (k + (d + 1) + 1) S more R (R.length : Int) (j : Int) l0 l1 a2 R =
        (match ren x with
         | none => gram_Above.l2 (k + d + 1) S more R (R.length : Int) ((j + 1 : Nat) : Int) l0 l1 a2 R
         | some m => if Go.bits .andNot .u64 (S.getD a 0) (S.getD m 0) = 0 then gram_Above.l2 (k + d + 1) S more R (R.length : Int) ((j + 1 : Nat) : Int) l0 l1 a2 R
           else gram_Above.l2 (k + d + 1) (S.set m (Go.bits .or .u64 (S.getD m 0) (S.getD a 0))) true R (R.length : Int) ((j + 1 : Nat) : Int) l0 l1 a2 R) := by
      intro k
      rw [show k + (d + 1) + 1 = (k + d + 1) + 1 from by omega, gram_Above.l2, if_pos (by omega), if_pos (by omega), if_pos (by omega), hd1, hrf, Option.bind_some, w64 j (by omega)]
      cases hr : ren x with
      | none => simp
      | some m =>
        have hm := hrn m hr
        simp only [if_true]
        rw [if_pos ha0, if_pos (by omega), if_pos (by omega), if_pos (by omega), ha, rd_D, rd_D, Int.toNat_natCast]
    cases hr : ren x with
    | none =>
      obtain ⟨S', more', h1, h2, h3, h4, h5⟩ := ih (j + 1) S more hS (by omega) (by omega)
      refine ⟨S', more', fun k => ?_, h2, h3, fun h => ?_, h5⟩
      · rw [unf k, hr]; exact h1 k
      · obtain ⟨e1, e2, e3⟩ := h4 h
        refine ⟨e1, e2, ?_⟩
        rw [hdrop]
        intro y hy
        rcases List.mem_cons.1 hy with rfl | hy
        · intro m hm; rw [hr] at hm; cases hm
        · exact e3 y hy
    | some m =>
      have hm := hrn m hr
      have ua := hS.u a han
      have um := hS.u m hm
      by_cases hz : Go.bits .andNot .u64 (S.getD a 0) (S.getD m 0) = 0
      · obtain ⟨S', more', h1, h2, h3, h4, h5⟩ := ih (j + 1) S more hS (by omega) (by omega)
        refine ⟨S', more', fun k => ?_, h2, h3, fun h => ?_, h5⟩
        · rw [unf k, hr]; dsimp only; rw [if_pos hz]; exact h1 k
        · obtain ⟨e1, e2, e3⟩ := h4 h
          refine ⟨e1, e2, ?_⟩
          rw [hdrop]
          intro y hy
          rcases List.mem_cons.1 hy with rfl | hy
          · intro m' hm'
            rw [hr] at hm'
            obtain rfl := Option.some.inj hm'
            rw [ha, Int.toNat_natCast]
            exact (andNot_zero ua um).1 hz
          · exact e3 y hy
      · have hedge : Edge R a m := ⟨x, hmem, ha, hr⟩
        have hgrow : S.getD m 0 < Go.bits .or .u64 (S.getD m 0) (S.getD a 0) := by
          have hle := or_ge um ua
          rcases Int.lt_or_eq_of_le hle with h | h
          · exact h
          · exfalso
            refine hz ((andNot_zero ua um).2 fun i hi => ?_)
            have := mem_or um ua i
            rw [← h, hi, Bool.or_true] at this
            exact this
        have hS1 : Sets R n (S.set m (Go.bits .or .u64 (S.getD m 0) (S.getD a 0))) := by
          refine ⟨by simp [hlen], fun i hi => ?_, fun i hi => ?_, fun i hi k hk => ?_⟩
          · rw [getD_set]
            split
            · exact U_or um ua
            · exact hS.u i hi
          · rw [getD_set]
            split
            · rename_i c
              rw [mem_or um ua, c.1, hS.own i hi, Bool.true_or]
            · exact hS.own i hi
          · rw [getD_set] at hk
            split at hk
            · rename_i c
              rw [mem_or um ua] at hk
              rw [← c.1]
              rcases Bool.or_eq_true_iff.1 hk with h | h
              · exact hS.sound m hm k h
              · exact (hS.sound a han k h).snoc hedge
            · exact hS.sound i hi k hk
        obtain ⟨S', more', h1, h2, h3, h4, h5⟩ := ih (j + 1) _ true hS1 (by omega) (by omega)
        have hle1 : ∀ i, i < n → S.getD i 0 ≤ (S.set m (Go.bits .or .u64 (S.getD m 0) (S.getD a 0))).getD i 0 := by
          intro i hi
          rw [getD_set]
          split
          · rename_i c; rw [← c.1]; omega
          · exact Int.le_refl _
        refine ⟨S', more', fun k => ?_, h2, fun i hi => Int.le_trans (hle1 i hi) (h3 i hi), fun h => ?_, fun h => .inr ?_⟩
        · rw [unf k, hr]; dsimp only; rw [if_neg hz]; exact h1 k
        · cases (h4 h).1
        · have hs1 := sum_set S m (Go.bits .or .u64 (S.getD m 0) (S.getD a 0)) (by omega)
          have hs2 := sum_le _ S' (by rw [hS1.len, h2.len]) (fun i hi => h3 i (by rw [hS1.len] at hi; exact hi))
          omega

theorem rounds_l (n t : Nat) (l0 l1 : List ByteArray) (a2 : Int) (R : List S35) (hn : n ≤ 60) (hR : ∀ x ∈ R, okR t n x = true) (hRl : R.length ≤ 120) : ∀ (d : Nat) (S : List Int), Sets R n S → (n : Int) * 2 ^ 64 - S.sum ≤ d →
    ∃ k S', gram_Above.l1 k S true l0 l1 a2 R = some S' ∧ Sets R n S' ∧ ∀ x ∈ R, Shut S' x := by
  intro d
  induction d with
  | zero =>
    intro S hS hd
    obtain ⟨S', more', h1, h2, h3, h4, h5⟩ := pass n t l0 l1 a2 R hn hR hRl R.length 0 S false hS (by omega) (by omega)
    cases more' with
    | false =>
      obtain ⟨_, rfl, hsh⟩ := h4 rfl
      refine ⟨1 + R.length + 1 + 1, S', ?_, h2, by simpa using hsh⟩
      rw [gram_Above.l1, if_pos rfl]
      have := h1 1
      rw [show ((0 : Nat) : Int) = 0 from rfl] at this
      rw [this, gram_Above.l1, if_neg (by decide)]
    | true =>
      exfalso
      have hlt := (h5 rfl).resolve_left (by decide)
      have hb := sum_bound S' (fun i hi => (h2.u i (by rw [h2.len] at hi; exact hi)).2)
      rw [h2.len] at hb
      omega
  | succ d ih =>
    intro S hS hd
    obtain ⟨S', more', h1, h2, h3, h4, h5⟩ := pass n t l0 l1 a2 R hn hR hRl R.length 0 S false hS (by omega) (by omega)
    cases more' with
    | false =>
      obtain ⟨_, rfl, hsh⟩ := h4 rfl
      refine ⟨1 + R.length + 1 + 1, S', ?_, h2, by simpa using hsh⟩
      rw [gram_Above.l1, if_pos rfl]
      have := h1 1
      rw [show ((0 : Nat) : Int) = 0 from rfl] at this
      rw [this, gram_Above.l1, if_neg (by decide)]
    | true =>
      have hlt := (h5 rfl).resolve_left (by decide)
      obtain ⟨k, S2, e1, e2, e3⟩ := ih S' h2 (by omega)
      refine ⟨k + R.length + 1 + 1, S2, ?_, e2, e3⟩
      rw [gram_Above.l1, if_pos rfl]
      have := h1 k
      rw [show ((0 : Nat) : Int) = 0 from rfl] at this
      rw [this, e1]

/-- What the sets are. -/
structure AboveIs (R : List S35) (n : Nat) (S : List Int) : Prop where
  len : S.length = n
  u : ∀ i, i < n → U (S.getD i 0)
  iff : ∀ i, i < n → ∀ j, mem (S.getD i 0) j = true ↔ Reach R j i

theorem shut_reach {R : List S35} {n t : Nat} {S : List Int} (hR : ∀ x ∈ R, okR t n x = true) (hS : Sets R n S) (hsh : ∀ x ∈ R, Shut S x) {a b : Nat} (h : Reach R a b) : ∀ i, mem (S.getD a 0) i = true → mem (S.getD b 0) i = true := by
  induction h with
  | refl a => exact fun i h => h
  | step e _ ih =>
    intro i hi
    obtain ⟨x, hx, ha, hm⟩ := e
    refine ih i ?_
    have := hsh x hx _ hm i
    rw [ha, Int.toNat_natCast] at this
    exact this hi

theorem Above_ev (K : Nat) (l0 l1 : List ByteArray) (a2 : Int) (R : List S35) (ho : okG K l0 l1 a2 R) : ∃ k S, gram_Above.f k l0 l1 a2 R = some S ∧ AboveIs R l1.length S := by
  obtain ⟨h60, h120, hn0, hn1, ha0, ha1, hall⟩ := ho
  have hn : l1.length ≤ 60 := by omega
  have hstart : Sets R l1.length ((List.range l1.length).map fun j => if j < 0 then (List.replicate l1.length (0 : Int)).getD j 0 else shl .u64 1 (j : Int)) := by
    have hget : ∀ i, i < l1.length → ((List.range l1.length).map fun j => if j < 0 then (List.replicate l1.length (0 : Int)).getD j 0 else shl .u64 1 (j : Int)).getD i 0 = shl .u64 1 (i : Int) := by
      intro i hi
      rw [getD_lt _ _ _ (by simpa using hi)]
      simp
    refine ⟨by simp, fun i hi => ?_, fun i hi => ?_, fun i hi k hk => ?_⟩
    · rw [hget i hi]; exact U_one i (by omega)
    · rw [hget i hi, mem_one i (by omega)]; simp
    · rw [hget i hi, mem_one i (by omega)] at hk
      rw [← of_decide_eq_true hk]; exact .refl _
  obtain ⟨k, S, h1, h2, h3⟩ := rounds_l l1.length l0.length l0 l1 a2 R hn hall h120 (((l1.length : Int) * 2 ^ 64 - ((List.range l1.length).map fun j => if j < 0 then (List.replicate l1.length (0 : Int)).getD j 0 else shl .u64 1 (j : Int)).sum).toNat) _ hstart (by omega)
  have h4 := fill_l l1.length l0 l1 a2 R hn k l1.length 0 (List.replicate l1.length 0) (by simp) (by omega) (by omega)
  rw [h1] at h4
  have hchk : gram_Check.f K l0 l1 a2 R = some none := by
    unfold gram_Check.f
    rw [if_pos ⟨h60, h120, ha0, ha1, List.all_eq_true.2 hall⟩, hn0, hn1]; rfl
  have e1 : Ev (fun k => gram_Check.f k l0 l1 a2 R) none := Ev.of (gram_Check.mono _ _ _ _) hchk
  have e2 : Ev (fun k => gram_Above.l0 k (List.replicate l1.length 0) (l1.length : Int) 0 l0 l1 a2 R) S := Ev.of (fun k => (gram_Above.mono_l k).1 _ _ _ _ _ _ _) h4
  have e3 : Ev (fun k => gram_Above.f k l0 l1 a2 R) S := by
    unfold gram_Above.f
    refine Ev.bind e1 ?_
    refine Ev.congr (fun k => ?_) e2
    rw [if_pos (by rfl), if_pos (by omega), Int.toNat_natCast, if_pos (by omega), Option.bind_some, List.length_replicate]
  obtain ⟨k', hk'⟩ := e3.rounds
  refine ⟨k', S, hk', h2.len, h2.u, fun i hi j => ⟨h2.sound i hi j, fun h => ?_⟩⟩
  exact shut_reach hall h2 h3 h j (h2.own j (h.lt hall hi))
end Go.Proofs.YteaiejippkikpaaDoor.B
