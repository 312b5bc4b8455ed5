/- dovetaillaw03.GramAbove: what its callees answer at a grammar that may be. -/
import Derived.Test.YteaiejippkikpaaDoorAboveP
import Derived.Test.YteaiejippkikpaaDoorGramNm
import Derived.Test.YteaiejippkikpaaDoorGramAw
set_option linter.unusedVariables false
set_option linter.unusedSimpArgs false
namespace Go.Proofs.YteaiejippkikpaaDoor.B
open Go.RowKit Go.Proofs.YteaiejippkikpaaDoorW.PrintWords Go.Proofs.YteaiejippkikpaaDoorW.PrintLast Go.Proofs.YteaiejippkikpaaDoorW.PrintMore

theorem Term_at (l0 l1 : List ByteArray) (a2 : Int) (R : List S35) (h : namesOK l0 = true) (hl : l0.length ≤ 60) (i : Nat) (hi : i < l0.length) : gram_Term.f 61 l0 l1 a2 R l0[i] = some ((i : Int), true) := by
  unfold gram_Term.f
  rw [Find_f l0 _ 61 (by omega) (by omega), place_name h i hi, Option.bind_some]
  have : mx (i : Int) 0 = (i : Int) := by unfold mx; split <;> omega
  simp [this]
theorem Nonterm_at (l0 l1 : List ByteArray) (a2 : Int) (R : List S35) (h : namesOK l1 = true) (hl : l1.length ≤ 60) (i : Nat) (hi : i < l1.length) : gram_Nonterm.f 61 l0 l1 a2 R l1[i] = some ((i : Int), true) := by
  unfold gram_Nonterm.f
  rw [Find_f l1 _ 61 (by omega) (by omega), place_name h i hi, Option.bind_some]
  have : mx (i : Int) 0 = (i : Int) := by unfold mx; split <;> omega
  simp [this]
theorem Name_term (l0 l1 : List ByteArray) (a2 : Int) (R : List S35) (i : Nat) (hi : i < l0.length) : gram_Name.f l0 l1 a2 R (i : Int) = some (l0[i], true) := by
  unfold gram_Name.f
  rw [if_neg (by omega), if_neg (by omega), if_pos (by omega), if_pos (by omega), rdS_D, getD_lt _ _ _ hi]
theorem Name_nonterm (l0 l1 : List ByteArray) (a2 : Int) (R : List S35) (hl : l1.length ≤ 60) (i : Nat) (hi : i < l1.length) : gram_Name.f l0 l1 a2 R (-1 - (i : Int)) = some (l1[i], true) := by
  have hw : wrap64 (-1 - (-1 - (i : Int))) = (i : Int) := by unfold wrap64; omega
  unfold gram_Name.f
  rw [hw, if_pos (by omega), if_neg (by omega), if_pos (by omega), if_pos (by omega), rdS_D, getD_lt _ _ _ hi]
theorem Renames_l (l0 l1 : List ByteArray) (a2 : Int) (R : List S35) (t n : Nat) (hn : n ≤ 60) (hR : ∀ x ∈ R, okR t n x = true) (hRl : R.length ≤ 120) (a : Nat) (s : Int) (hs : U s) :
    ∀ (d j k : Nat), R.length - j = d → j ≤ R.length → d < k → (∃ x ∈ R.drop j, x.f0 = (a : Int) ∧ ∃ m, ren x = some m ∧ mem s m = true) → dovetaillaw03_renames.l0 k (a : Int) s (j : Int) l0 l1 a2 R = some true := by
  intro d
  induction d with
  | zero =>
    intro j k hj hle hk hx
    obtain ⟨x, hx, _⟩ := hx
    rw [List.drop_eq_nil_of_le (by omega)] at hx
    cases hx
  | succ d ih =>
    intro j k hj hle hk hx
    obtain ⟨k, rfl⟩ : ∃ q, k = q + 1 := ⟨k - 1, by omega⟩
    have hlt : j < R.length := by omega
    have hok := hR R[j] (List.getElem_mem hlt)
    have hd1 : rd_T35 R (j : Int) = R[j] := by rw [rdR_D, getD_lt R j _ hlt]
    rw [List.drop_eq_getElem_cons hlt] at hx
    have hrf := ren_f hok hn
    have hrl : ∀ m, ren R[j] = some m → m < n := fun m h => ren_lt hok h
    rw [dovetaillaw03_renames.l0, if_pos (by omega), if_pos (by omega), hd1, hrf, Option.bind_some, w64 j (by omega)]
    have ih' := ih (j + 1) k (by omega) (by omega) (by omega)
    generalize R[j] = y at hx hrf hrl
    have other : ¬ (y.f0 = (a : Int) ∧ ∃ m, ren y = some m ∧ mem s m = true) → ∃ x ∈ R.drop (j + 1), x.f0 = (a : Int) ∧ ∃ m, ren x = some m ∧ mem s m = true := by
      intro hno
      obtain ⟨x, hx, hq⟩ := hx
      rcases List.mem_cons.1 hx with rfl | hx
      · exact absurd hq hno
      · exact ⟨x, hx, hq⟩
    cases hr : ren y with
    | none => simp only [Bool.false_eq_true, if_false]; exact ih' (other (by rw [hr]; rintro ⟨_, m, h, _⟩; cases h))
    | some m =>
      have hm := hrl m hr
      have hu : IntKind.u64.wrap (m : Int) = (m : Int) := wraps_u64 _ (by omega) (by omega)
      simp only [if_true, hu]
      by_cases ha : y.f0 = (a : Int)
      · rw [if_pos ha, if_pos (by omega), bit_at hs m (by omega)]
        cases hb : mem s m with
        | true => simp
        | false =>
          simp only [Bool.false_eq_true, if_false]
          rw [if_neg (by omega)]
          exact ih' (other (by rw [hr]; rintro ⟨_, m', h, h'⟩; rw [← Option.some.inj h, hb] at h'; cases h'))
      · rw [if_neg ha]; exact ih' (other (fun h => ha h.1))
theorem Renames_f (l0 l1 : List ByteArray) (a2 : Int) (R : List S35) (t n : Nat) (hn : n ≤ 60) (hR : ∀ x ∈ R, okR t n x = true) (hRl : R.length ≤ 120) (S : List Int) (hI : AboveIs R n S) (i a : Nat) (hi : i < n) (hai : a ≠ i) (hm : mem (S.getD i 0) a = true) :
    dovetaillaw03_renames.f 121 l0 l1 a2 R (a : Int) (S.getD i 0) = some true := by
  unfold dovetaillaw03_renames.f
  refine Renames_l l0 l1 a2 R t n hn hR hRl a _ (hI.u i hi) R.length 0 121 (by omega) (by omega) (by omega) ?_
  have hre := (hI.iff i hi a).1 hm
  cases hre with
  | refl => exact absurd rfl hai
  | step e hr =>
    obtain ⟨x, hx, h0, hm'⟩ := e
    exact ⟨x, by simpa using hx, h0, _, hm', (hI.iff i hi _).2 hr⟩

/-- A grammar's box lies, and nothing elder has changed. -/
def GW (w : World) (cs : Array Value) (W : World) : Prop := Below w.heap.size w W ∧ Box w.heap.size cs 25 W
theorem GW.start (w : World) (cs : Array Value) : GW w cs (w.alloc (.cells cs 25)) := ⟨(Below.refl _ w).alloc (Nat.le_refl _) _, Box.new w _ _⟩
theorem GW.low {w : World} {cs : Array Value} {W : World} (h : GW w cs W) : Below w.heap.size w W := h.1
theorem GW.more {w : World} {cs : Array Value} {W W' : World} (h : GW w cs W) (hb : Below W.heap.size W W') : GW w cs W' := ⟨h.1.trans (hb.mono h.1.size), h.2.below hb⟩
theorem GW.cells {w : World} {v0 v1 v2 v3 : Value} {W : World} (h : GW w #[v0, v1, v2, v3] W) : W.cell? ⟨w.heap.size, 0, none⟩ = some v0 ∧ W.cell? ⟨w.heap.size, 1, none⟩ = some v1 ∧ W.cell? ⟨w.heap.size, 2, none⟩ = some v2 ∧ W.cell? ⟨w.heap.size, 3, none⟩ = some v3 :=
  ⟨h.2.cell 0 _ rfl, h.2.cell 1 _ rfl, h.2.cell 2 _ rfl, h.2.cell 3 _ rfl⟩
/-- A contract, said of every later world. -/
abbrev Later (w : World) (F : Nat) (args : Array Value) (v : Value) : Prop := ∀ (W : World), Below w.heap.size w W → Calls Tryd.prog F args W fun e w' => e = .returned v ∧ Aside0 (Below W.heap.size W w')
theorem Later.of {w : World} {F : Nat} {args : Array Value} {v : Value} (h : ∀ (W : World), Below w.heap.size w W → Calls Tryd.prog F args W fun e w' => e = .returned v ∧ Below W.heap.size W w') : Later w F args v :=
  fun W hW => (h W hW).mono fun _ _ ⟨he, hb⟩ => ⟨he, ⟨hb⟩⟩
/-- Besides, a row of sets lies. -/
def GS (w : World) (cs : Array Value) (n : Nat) (S : List Int) (A : Option Addr) (W : World) : Prop := GW w cs W ∧ Kd.C (Kd.int .u64) W A n S
theorem GS.low {w : World} {cs : Array Value} {n : Nat} {S : List Int} {A : Option Addr} {W : World} (h : GS w cs n S A W) : Below w.heap.size w W := h.1.1
theorem GS.gw {w : World} {cs : Array Value} {n : Nat} {S : List Int} {A : Option Addr} {W : World} (h : GS w cs n S A W) : GW w cs W := h.1
theorem GS.more {w : World} {cs : Array Value} {n : Nat} {S : List Int} {A : Option Addr} {W W' : World} (h : GS w cs n S A W) (hb : Below W.heap.size W W') : GS w cs n S A W' := ⟨h.1.more hb, Kd.C_below h.2 hb⟩
theorem GS.cell {w : World} {cs : Array Value} {n : Nat} {S : List Int} {A : Option Addr} {W : World} (h : GS w cs n S A W) (ad : Addr) (hA : A = some ad) (i : Nat) (hi : i < n) : W.cell? (ad.add i) = some (.int .u64 (S.getD i 0)) := by
  obtain ⟨ad', h1, h2⟩ := Kd.at_int h.2 (i : Int) (by omega) (by omega)
  obtain rfl := Option.some.inj (hA.symm.trans h1)
  rwa [Int.toNat_natCast, rd_D] at h2
theorem GS.addr {w : World} {cs : Array Value} {n : Nat} {S : List Int} {A : Option Addr} {W : World} (h : GS w cs n S A W) (hn : 0 < n) : ∃ ad, A = some ad := by
  obtain ⟨ad', h1, _⟩ := Kd.at_int h.2 0 (by omega) (by omega)
  exact ⟨ad', h1⟩
end Go.Proofs.YteaiejippkikpaaDoor.B
