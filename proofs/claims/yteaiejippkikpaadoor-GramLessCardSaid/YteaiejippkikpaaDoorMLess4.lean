/-
 dovetaillaw03.GramLess: whatever is handed in, the call answers true, and each argument reads as it did.
 Conditions: those of the given statement GramLessCardSaid alone.
-/
import Derived.Test.YteaiejippkikpaaDoorMLess3
import Derived.Test.YteaiejippkikpaaDoorMLess1
import Derived.Test.YteaiejippkikpaaDoorCards
import Derived.Test.YteaiejippkikpaaDoorTie
import Derived.LaidLaws
import Derived.LaidHandle
import Derived.Lib.LaidTab
import Derived.Lib.LaidIn
import Derived.SevenTiedAt
import Derived.WideShapes
import Derived.JoinedCond
import Derived.ChangeMaps5
import Derived.SizedLaws
import Derived.Deep.DeepHandedRow
import Derived.Deep.DeepWitnessRowRef
/- GramLess, in plain Lean: true. -/
set_option linter.unusedVariables false
set_option linter.unusedSimpArgs false
namespace Go.Proofs.YteaiejippkikpaaDoor.Gl
open Go.RowKit Go.Proofs.YteaiejippkikpaaDoorW.PrintWords Go.Proofs.YteaiejippkikpaaDoorW.PrintLast Go.Proofs.YteaiejippkikpaaDoorW.PrintMore
open Go.Proofs.YteaiejippkikpaaDoor.B (SentsK SentsK.below chk chkRs checkR checkR_cases chk_ok namesOK)
open Go.Proofs.YteaiejippkikpaaDoor.F (encE kindE ruleE dovetailkit_Kind.f dovetailkit_Rule.f dovetaillaw03_awake.f)
open Go.Proofs.YteaiejippkikpaaDoor.O (RdC V35 S35 k35 toB C_ofB gram_Check.f rdV_eq)

theorem chkRs_app (t n : Nat) : ∀ (X Y : List Go.Proofs.YteaiejippkikpaaDoor.B.S35) (j : Nat), (∀ x ∈ X, checkR t n x = 0) → chkRs t n (X ++ Y) j = chkRs t n Y (j + X.length)
  | [], Y, j, _ => rfl
  | x :: X, Y, j, h => by
    rw [List.cons_append, chkRs, if_pos (h x (List.mem_cons_self ..)), chkRs_app t n X Y (j + 1) (fun y hy => h y (List.mem_cons_of_mem _ hy)), List.length_cons]
    congr 1; omega
theorem chkRs_all (t n : Nat) (X : List Go.Proofs.YteaiejippkikpaaDoor.B.S35) (j : Nat) (h : ∀ x ∈ X, checkR t n x = 0) : chkRs t n X j = (0, -1) := by
  have := chkRs_app t n X [] j h
  rw [List.append_nil] at this
  rw [this, chkRs]
theorem chk_plain {n0 n1 : Nat} {a2 : Int} (X : List Go.Proofs.YteaiejippkikpaaDoor.B.S35) (h60 : n0 + n1 ≤ 60) (hx : X.length ≤ 120) (h0 : 0 ≤ a2) (h1 : a2 < (n1 : Int)) : chk true true n0 n1 a2 X = chkRs n0 n1 X 0 := by
  unfold chk
  rw [if_neg (by omega), if_neg (by decide), if_neg (by omega)]
theorem chk_long {n0 n1 : Nat} {a2 : Int} {b0 b1 : Bool} (X : List Go.Proofs.YteaiejippkikpaaDoor.B.S35) (hx : 120 < X.length) : chk b0 b1 n0 n1 a2 X = (3, -1) := by
  unfold chk
  rw [if_pos (.inr hx)]
/-- Not by 'rfl': so that the kernel never looks into what is bound. -/
theorem bindS {α β : Type} (a : α) (f : α → Option β) : (some a).bind f = f a := (Option.bind_some a f).trans (Eq.refl _)
theorem ck_eq [RdC] (l0 l1 : List ByteArray) (a2 : Int) (X : List S35) : gram_Check.f l0 l1 a2 X = some (encE (chk (namesOK l0) (namesOK l1) l0.length l1.length a2 (X.map toB))) := rfl
theorem enc_no {p : Int × Int} (h : p.1 = 0) : encE p = none := if_pos h
theorem enc_yes {p : Int × Int} (h : p.1 ≠ 0) : encE p = some (p.1 + 16 * (p.2 + 1)) := if_neg h
theorem wrapJ (n : Nat) (h : n ≤ 1000) : wrap64 ((n : Int) + 1) = (n : Int) + 1 := by unfold wrap64; omega
/-- The longer grammar. -/
theorem j2_ev [RdC] (K : Nat) (l0 l1 : List ByteArray) (a2 : Int) (l3 : List S35) (b0 : Int) (b1 : V35) (h60 : l0.length + l1.length ≤ 60) (h120 : l3.length ≤ 120) (hb0 : namesOK l0 = true) (hb1 : namesOK l1 = true) (ha0 : 0 ≤ a2) (ha1 : a2 < (l1.length : Int))
    (hz : ∀ y ∈ l3, checkR l0.length l1.length (toB y) = 0) (κ : Nat) (hκ : κ ≤ l3.length) : dovetaillaw03_GramLess.j2 (K + 1) (l3.length : Int) (κ : Int) l0 l1 a2 l3 b0 b1 = some true := by
  simp only [dovetaillaw03_GramLess.j2, bindS]
  have hlt : (l3.take κ).length = κ := by rw [List.length_take]; omega
  have hld : (l3.drop κ).length = l3.length - κ := List.length_drop ..
  rw [Int.toNat_natCast, if_pos (show (0 : Int) ≤ (κ : Int) by omega), if_pos (show (κ : Int) ≤ (l3.length : Int) by omega), if_pos (by simp; omega), if_pos (by simp; omega), if_pos (by simp; omega), ck_eq, ck_eq, hb0, hb1]
  simp only [bindS]
  have hmap : (([] ++ l3.take κ ++ [(⟨b0, b1⟩ : S35)]) ++ l3.drop κ).map toB = (l3.take κ).map toB ++ (toB ⟨b0, b1⟩ :: (l3.drop κ).map toB) := by simp
  have hone : [(⟨b0, b1⟩ : S35)].map toB = [toB ⟨b0, b1⟩] := rfl
  rw [hmap, hone]
  generalize toB ⟨b0, b1⟩ = bad
  have hmlen : ((l3.take κ).map toB ++ (bad :: (l3.drop κ).map toB)).length = l3.length + 1 := by
    rw [List.length_append, List.length_cons, List.length_map, List.length_map, hlt, hld]; omega
  have hx1 : ∀ x ∈ (l3.take κ).map toB, checkR l0.length l1.length x = 0 := fun x hx => by
    obtain ⟨y, hy, rfl⟩ := List.mem_map.1 hx
    exact hz _ (List.mem_of_mem_take hy)
  have hx2 : ∀ x ∈ (l3.drop κ).map toB, checkR l0.length l1.length x = 0 := fun x hx => by
    obtain ⟨y, hy, rfl⟩ := List.mem_map.1 hx
    exact hz _ (List.mem_of_mem_drop hy)
  have hxl : ((l3.take κ).map toB).length = κ := by rw [List.length_map, hlt]
  generalize (l3.take κ).map toB = X at hmlen hx1 hxl
  generalize (l3.drop κ).map toB = Y at hmlen hx2
  generalize hn0 : l0.length = n0 at *
  generalize hn1 : l1.length = n1 at *
  by_cases h1 : l3.length = 120
  · have e2 : chk true true n0 n1 a2 (X ++ bad :: Y) = (3, -1) := chk_long _ (by omega)
    rw [if_pos (by omega), e2, enc_yes (by decide)]
    unfold dovetailkit_Kind.f dovetailkit_Rule.f kindE ruleE
    simp
  rw [if_neg (by omega)]
  have e1 : chk true true n0 n1 a2 [bad] = chkRs n0 n1 [bad] 0 := chk_plain _ h60 (by simp) ha0 ha1
  have e2 : chk true true n0 n1 a2 (X ++ bad :: Y) = chkRs n0 n1 (bad :: Y) κ := by
    rw [chk_plain _ h60 (by omega) ha0 ha1, chkRs_app _ _ _ _ _ hx1, hxl, Nat.zero_add]
  rw [e1, e2]
  by_cases hb : checkR n0 n1 bad = 0
  · have e3 : chkRs n0 n1 [bad] 0 = (0, -1) := chkRs_all _ _ _ _ (fun x hx => by rw [List.mem_singleton.1 hx]; exact hb)
    have e4 : chkRs n0 n1 (bad :: Y) κ = (0, -1) := chkRs_all _ _ _ _ (fun x hx => by
      rcases List.mem_cons.1 hx with rfl | hx
      · exact hb
      · exact hx2 x hx)
    rw [e3, e4, enc_no rfl]
    simp
  · have e3 : chkRs n0 n1 [bad] 0 = (checkR n0 n1 bad, 0) := by rw [chkRs, if_neg hb]; rfl
    have e4 : chkRs n0 n1 (bad :: Y) κ = (checkR n0 n1 bad, (κ : Int)) := by rw [chkRs, if_neg hb]
    have hc : checkR n0 n1 bad = 3 ∨ checkR n0 n1 bad = 1 := by
      rcases checkR_cases n0 n1 bad with ⟨h0, _⟩ | ⟨h0, _⟩
      · exact absurd h0 hb
      · exact h0
    rw [e3, e4]
    clear e1 e2 e3 e4
    generalize checkR n0 n1 bad = c at hb hc
    rw [enc_yes hb, enc_yes hb]
    unfold dovetailkit_Kind.f dovetailkit_Rule.f kindE ruleE
    simp only [bindS, Option.getD_some, Option.isNone_some]
    have t1 : (c + 16 * ((κ : Int) + 1)) % 16 = (c + 16 * (0 + 1)) % 16 := by omega
    have t2 : (c + 16 * ((κ : Int) + 1)) / 16 - 1 = (κ : Int) := by omega
    have t3 : (c + 16 * (0 + 1)) / 16 - 1 = 0 := by omega
    rw [if_neg (by decide), if_pos t1, if_pos t2, t3]
    rfl
theorem j1_ev [RdC] (K : Nat) (l0 l1 : List ByteArray) (a2 : Int) (l3 : List S35) (b0 : Int) (b1 : V35) (h60 : l0.length + l1.length ≤ 60) (h120 : l3.length ≤ 120) (hb0 : namesOK l0 = true) (hb1 : namesOK l1 = true) (ha0 : 0 ≤ a2) (ha1 : a2 < (l1.length : Int))
    (hz : ∀ y ∈ l3, checkR l0.length l1.length (toB y) = 0) (κ : Nat) (hκ : κ ≤ l3.length) : dovetaillaw03_GramLess.j1 (K + 1 + 1) (l3.length : Int) (κ : Int) l0 l1 a2 l3 b0 b1 = some true := by
  have hj2 := j2_ev K l0 l1 a2 l3 b0 b1 h60 h120 hb0 hb1 ha0 ha1 hz κ hκ
  generalize hK : K + 1 = K1 at hj2
  simp only [dovetaillaw03_GramLess.j1]
  by_cases hlt : κ < l3.length
  · have hw2 : wrap64 ((κ : Int) + 1) = ((κ + 1 : Nat) : Int) := by unfold wrap64; omega
    have hlt2 : (l3.take κ).length = κ := by rw [List.length_take]; omega
    rw [if_pos (by omega)]
    simp only [bindS]
    rw [hw2, Int.toNat_natCast, Int.toNat_natCast, if_pos (by omega), if_pos (by omega), if_pos (by simp; omega), if_pos (by omega), if_pos (by omega), if_pos (by simp; omega), ck_eq, hb0, hb1]
    simp only [bindS]
    have hmap : (([] ++ l3.take κ) ++ l3.drop (κ + 1)).map toB = (l3.take κ).map toB ++ (l3.drop (κ + 1)).map toB := by simp
    have e0 : chk true true l0.length l1.length a2 ((l3.take κ).map toB ++ (l3.drop (κ + 1)).map toB) = (0, -1) := by
      rw [chk_plain _ h60 (by rw [List.length_append, List.length_map, List.length_map, hlt2, List.length_drop]; omega) ha0 ha1]
      refine chkRs_all _ _ _ _ (fun x hx => ?_)
      rcases List.mem_append.1 hx with hx | hx
      · obtain ⟨y, hy, rfl⟩ := List.mem_map.1 hx
        exact hz _ (List.mem_of_mem_take hy)
      · obtain ⟨y, hy, rfl⟩ := List.mem_map.1 hx
        exact hz _ (List.mem_of_mem_drop hy)
    rw [hmap, e0, enc_no rfl, if_pos (by rfl)]
    exact hj2
  · rw [if_neg (by omega)]
    exact hj2
theorem j0_ev [RdC] (K : Nat) (l0 l1 : List ByteArray) (a2 : Int) (l3 : List S35) (a1 b0 : Int) (b1 : V35) (h60 : l0.length + l1.length ≤ 60) (h120 : l3.length ≤ 120) (hb0 : namesOK l0 = true) (hb1 : namesOK l1 = true) (ha0 : 0 ≤ a2) (ha1 : a2 < (l1.length : Int))
    (hz : ∀ y ∈ l3, checkR l0.length l1.length (toB y) = 0) : dovetaillaw03_GramLess.j0 (K + 1 + 1 + 1) a1 false l0 l1 a2 l3 b0 b1 = some true := by
  have hj1 := j1_ev K l0 l1 a2 l3 b0 b1 h60 h120 hb0 hb1 ha0 ha1 hz
  generalize hK : K + 1 + 1 = K1 at hj1
  simp only [dovetaillaw03_GramLess.j0]
  have hm : Int.tmod a1 ((l3.length : Int) + 1) < (l3.length : Int) + 1 ∧ -((l3.length : Int) + 1) < Int.tmod a1 ((l3.length : Int) + 1) := by
    have h1 := Int.tmod_lt_of_pos a1 (show (0 : Int) < (l3.length : Int) + 1 by omega)
    have h2 := Int.tmod_lt_of_pos (-a1) (show (0 : Int) < (l3.length : Int) + 1 by omega)
    rw [Int.neg_tmod] at h2
    omega
  rw [if_neg (by decide), wrapJ _ (by omega), if_neg (by omega)]
  generalize Int.tmod a1 ((l3.length : Int) + 1) = q at hm
  by_cases hneg : q < 0
  · obtain ⟨κ, hκ⟩ : ∃ κ : Nat, (κ : Int) = q + (l3.length : Int) + 1 := ⟨(q + (l3.length : Int) + 1).toNat, by omega⟩
    have hw3 : wrap64 (wrap64 (q + (l3.length : Int)) + 1) = (κ : Int) := by
      rw [hκ]; unfold wrap64; omega
    rw [if_pos hneg, hw3]
    exact hj1 κ (by omega)
  · obtain ⟨κ, hκ⟩ : ∃ κ : Nat, (κ : Int) = q := ⟨q.toNat, by omega⟩
    rw [if_neg hneg, ← hκ]
    exact hj1 κ (by omega)
theorem less_ev [RdC] (K : Nat) (l0 l1 : List ByteArray) (a2 : Int) (l3 : List S35) (a1 : Int) (b0 : Int) (b1 : V35) : dovetaillaw03_GramLess.f (K + 1 + 1 + 1) l0 l1 a2 l3 a1 b0 b1 = some true := by
  have haw : dovetaillaw03_awake.f = some true := rfl
  have hj0 := fun h60 h120 hb0 hb1 ha0 ha1 hz => j0_ev K l0 l1 a2 l3 a1 b0 b1 h60 h120 hb0 hb1 ha0 ha1 hz
  generalize hK : K + 1 + 1 = K1 at hj0
  unfold dovetaillaw03_GramLess.f
  rw [ck_eq, haw]
  simp only [bindS]
  by_cases h : (chk (namesOK l0) (namesOK l1) l0.length l1.length a2 (l3.map toB)).1 = 0
  · obtain ⟨h60, h120, hb0, hb1, ha0, ha1, hok⟩ := chk_ok h
    rw [enc_no h, if_pos (by rfl)]
    rw [List.length_map] at h120
    exact hj0 h60 h120 hb0 hb1 ha0 ha1 (fun y hy => by
      rcases checkR_cases l0.length l1.length (toB y) with ⟨h0, _⟩ | ⟨_, h0⟩
      · exact h0
      · rw [hok _ (List.mem_map_of_mem hy)] at h0; cases h0)
  · rw [enc_yes h, if_neg (by simp)]
    simp only [dovetaillaw03_GramLess.j0]
    rw [if_pos trivial, haw]
    rfl
theorem GramLess_calls (ad : Int → Addr) (A0 : Option Addr) (c0 : Nat) (l0 : List ByteArray) (A1 : Option Addr) (c1 : Nat) (l1 : List ByteArray) (a2 : Int) (A3 : Option Addr) (c3 : Nat) (l3 : List Go.Proofs.YteaiejippkikpaaDoor.B.S35) (a1 : Int) (b0 : Int) (Ab : Option Addr) (cb : Nat) (lb : List Int) (w : World) (hs : SentsK ad w) (hg : Go.Proofs.YteaiejippkikpaaDoor.B.HandleP w) (hr0 : Kd.C Kd.string w A0 l0.length l0) (hc0 : l0.length ≤ c0) (hr1 : Kd.C Kd.string w A1 l1.length l1) (hc1 : l1.length ≤ c1) (hr3 : Kd.C Go.Proofs.YteaiejippkikpaaDoor.B.k35 w A3 l3.length l3) (hc3 : l3.length ≤ c3) (hrb : Kd.C (Kd.int .i64) w Ab lb.length lb) (hcb : lb.length ≤ cb) :
    Calls Tryd.prog 6 #[.agg #[.slice A0 l0.length c0, .slice A1 l1.length c1, .int .i64 a2, .slice A3 l3.length c3], .int .i64 a1, .agg #[.int .i64 b0, .slice Ab lb.length cb]] w fun e w' => e = .returned (.bool true) ∧ Below w.heap.size w w' := by
  letI : RdC := ⟨w⟩
  obtain ⟨l3', hm, hr3'⟩ := C_ofB (A := A3) (l := l3) hr3
  have hl : l3'.length = l3.length := by rw [← hm, List.length_map]
  rw [← hl] at hc3 ⊢
  exact dovetaillaw03_GramLess.calls ad (0 + 1 + 1 + 1) A0 c0 l0 A1 c1 l1 a2 A3 c3 l3' a1 b0 ⟨.slice Ab lb.length cb, lb, Ab, cb, rfl, hcb, hrb⟩ true w hs ⟨hg, Below.refl _ _⟩ hr0 hc0 hr1 hc1 hr3' hc3 rfl (less_ev 0 l0 l1 a2 l3' a1 b0 _)
end Go.Proofs.YteaiejippkikpaaDoor.Gl
set_option linter.unusedVariables false
namespace Go.Proofs.YteaiejippkikpaaDoor.gramLess
open Go.ChangeShapes Go.WideShapes Go.ChangeAt Go.RowKit Go.Proofs.YteaiejippkikpaaDoorW.PrintWords Go.Proofs.YteaiejippkikpaaDoor.H Go.Proofs.YteaiejippkikpaaDoor.B

theorem own : ownKnob Tryd.prog.godebug = none := by kernel_rfl
theorem laidOut : laidOutB Tryd.prog = true := by kernel_rfl

set_option maxRecDepth 100000 in
theorem contract (H : Type) (enc : TypeId × Value → H) (W : World) (base : Nat) (args : Array Value) (ds gs : List (DataW H)) (before : List MemPlace)
    (hval : ∀ (j : Nat) t v, Tryd.f6.params[j]? = some t → args[j]? = some v → Value.okWide Tryd.prog W .any base t v)
    (ad : Int → Addr) (hs : SentsK ad W) (hg : HandleP W)
    (hz : (DataW.weightsEach Tryd.prog (Tryd.f6.params.toList ++ (OpenSpec.ofChange Rows.gramLessSpec).bare.plain.varTypes Tryd.prog) (ds ++ gs)).all (· ≤ reachBytes) = true)
    (hW : DataW.Whole enc Tryd.prog Tryd.f6.params.toList Rows.gramLessSpec.vars false W args.toList ds gs before) :
    Calls Tryd.prog 6 args W fun e W' => ∃ v, e = .returned v ∧ Rows.gramLessSpec.post enc Tryd.prog Tryd.f6 false true false false W args v W' := by
  have hW' := hW
  obtain ⟨p, q, hA0, hV, rfl, hfz, hnd⟩ := hW
  have hA : DataW.TrodAll enc Tryd.prog W 0 (fun _ => true) true Tryd.f6.params.toList args.toList ds p := hA0
  rw [Tryd.params6] at hA hval
  obtain ⟨v0, vs0, d0, ds0, p0, q0, hargs, rfl, rfl, h0, r0⟩ := trodAll_cons hA
  obtain ⟨v1, vs1, d1, ds1, p1, q1, rfl, rfl, rfl, h1, r1⟩ := trodAll_cons r0
  obtain ⟨v2, vs2, d2, ds2, p2, q2, rfl, rfl, rfl, h2, r2⟩ := trodAll_cons r1
  obtain ⟨rfl, rfl, rfl⟩ := trodAll_nil r2
  obtain rfl : args = #[v0, v1, v2] := by cases args; simp_all
  obtain ⟨rfl, rfl⟩ := trodVars_none hV
  obtain ⟨g0, A00, c00, A01, c01, A03, c03, rfl, l00, k00, l01, k01, l03, k03, m00, m01, m03, mx0⟩ := OG.open_g (hval 0 25 v0 rfl rfl) h0
  have e1 := h1
  obtain ⟨n1, rfl, rfl, rfl, w1⟩ := open_int Tryd.underlying3 (hval 1 3 v1 rfl rfl) e1
  obtain ⟨x2, A2, c2, rfl, l2, k2, m2⟩ := OG.open_r (hval 2 35 v2 rfl rfl) h2
  refine (Gl.GramLess_calls ad A00 c00 g0.f0 A01 c01 g0.f1 g0.f2 A03 c03 g0.f3 n1 x2.f0 A2 c2 x2.f1 W hs hg k00 l00 k01 l01 k03 l03 k2 l2).mono fun e W' ⟨he, bel⟩ => ?_
  subst he
  simp only [List.append_nil] at hW'
  exact ⟨_, rfl, _, _, _, [], _, [], hW', trodAll_mk1 (shut_bool Tryd.underlying4 _), (trodAll_cons_mk (Below.trod laidOut (by kernel_rfl) (of_decide_eq_true (by kernel_rfl)) h0 bel (trod_below h0)) (trodAll_cons_mk (Below.trod laidOut (by kernel_rfl) (of_decide_eq_true (by kernel_rfl)) h1 bel (trod_below h1)) (trodAll_cons_mk (Below.trod laidOut (by kernel_rfl) (of_decide_eq_true (by kernel_rfl)) h2 bel (trod_below h2)) trodAll_mk0))), rfl, bel.frame _, fun h => by cases h⟩

theorem laid_met (os : Os) (args : Array Value) : laidMetH Tryd.prog Rows.gramLessRow.laid ((laidWorld16 os).forCall (fun _ _ => 0) ⟨#[], args, []⟩).memory := laid_met16 os args
theorem sents {W : World} (h : laidMetH Tryd.prog Rows.gramLessRow.laid W) : (∃ ad, SentsK ad W) ∧ HandleP W := sents16 h
theorem reads (os : Os) {H : Type} (enc : TypeId × Value → H) : ∃ places, DataW.whole enc Tryd.prog ((laidWorld16 os).forCall (fun _ _ => 0) ⟨#[], #[Value.agg #[.slice none 0 0, .slice none 0 0, .int .i64 0, .slice none 0 0], Value.int .i64 0, Value.agg #[.int .i64 0, .slice none 0 0]], []⟩).memory Tryd.f6.params.toList Rows.gramLessSpec.vars false (#[Value.agg #[.slice none 0 0, .slice none 0 0, .int .i64 0, .slice none 0 0], Value.int .i64 0, Value.agg #[.int .i64 0, .slice none 0 0]] : Array Value).toList 8 = some ([.agg [.nil, .nil, .lit (.int .i64 0), .nil], .lit (.int .i64 0), .agg [.lit (.int .i64 0), .nil]], [], places) :=
  ⟨[], by kernel_rfl⟩

set_option maxRecDepth 100000 in
theorem lifted (os : Os) (started : os.Started) (H : Type) (enc : TypeId × Value → H) (F : Stop.Interp) :
    ReturnsInHanded {} Tryd.checked os 6 .any ((OpenSpec.ofChange Rows.gramLessSpec).preRow enc Tryd.prog Tryd.f6 Rows.gramLessRow.domain false Rows.gramLessRow.laid) (((OpenSpec.ofChange Rows.gramLessSpec).at F).post enc Tryd.prog Tryd.f6 false true false false) := by
  obtain ⟨places, hx⟩ := reads os enc
  refine returnsInHanded_of_row (C := Tryd.checked) (s := OpenSpec.ofChange Rows.gramLessSpec) own started (by kernel_rfl) Tryd.func6
    (witness_row_atRef (enc := enc) (C := Tryd.checked) false (laidWorld16 os) #[Value.agg #[.slice none 0 0, .slice none 0 0, .int .i64 0, .slice none 0 0], Value.int .i64 0, Value.agg #[.int .i64 0, .slice none 0 0]] rfl (by kernel_rfl) (by kernel_rfl) (by kernel_rfl)
      (OpenSpec.preRow_of_cond 8 hx (by kernel_rfl) (fun k hk => by cases hk) (by kernel_rfl) (laid_met os _))) ?_
  intro W base args ds gs before hval hW _ hcond hz hL _ _
  obtain ⟨⟨ad, hs⟩, hg⟩ := sents hL
  exact contract H enc W base args ds gs before hval ad hs hg hz hW

theorem said : Rows.GramLessSaid :=
  OpenClaim.holds_of_cond 6 Tryd.f6 rfl rfl rfl rfl rfl rfl rfl ⟨rfl, rfl, rfl, rfl, rfl⟩ rfl rfl rfl rfl rfl (by kernel_rfl) Tryd.func6 (by kernel_rfl)
    (of_decide_eq_true (by kernel_rfl)) (by unfold Func.isWrapper; first | (rw [if_pos (by decide +kernel)]; kernel_rfl) | (rw [if_neg (by decide +kernel)]; exact ⟨rfl, rfl⟩))
    (fun os started H enc _ F => by rw [OpenClaim.pre_eq_preRow]; exact lifted os started H enc F)

theorem plain (f : FuncId) (fn : Func) (hf : Tryd.pinned.checked.prog.funcNamed "dovetail/dovetaillaw03.GramLess" = some f) (hfn : Tryd.pinned.checked.prog.funcs[f]? = some fn) :
    true = Tryd.pinned.checked.prog.looks [] ∧ ∀ (j : Nat) t, fn.params[j]? = some t → Tryd.pinned.checked.prog.wantsStandIn t = false := by
  obtain rfl : f = 6 := Option.some.inj ((show Tryd.prog.funcNamed "dovetail/dovetaillaw03.GramLess" = some 6 by kernel_rfl).symm.trans hf) |>.symm
  obtain rfl : fn = Tryd.f6 := (Option.some.inj (Tryd.func6.symm.trans hfn)).symm
  refine ⟨by kernel_rfl, fun j t ht => ?_⟩
  rw [Tryd.params6] at ht
  have hm : t = 25 ∨ t = 3 ∨ t = 35 := by simpa using Array.mem_of_getElem? ht
  rcases hm with rfl | rfl | rfl
  · exact (show Tryd.prog.wantsStandIn 25 = false by kernel_rfl)
  · exact (show Tryd.prog.wantsStandIn 3 = false by kernel_rfl)
  · exact (show Tryd.prog.wantsStandIn 35 = false by kernel_rfl)

theorem proved : Rows.GramLessCardSaid :=
  Claim7.holds_tied_plain_at .later [] _ _ _ _ said (fun _ h => by cases h) (by kernel_rfl) (fun _ h => by cases h) gramLess_row_tie rfl ⟨rfl, rfl⟩ (by kernel_rfl) rfl plain (by kernel_rfl)
#print axioms proved
end Go.Proofs.YteaiejippkikpaaDoor.gramLess
