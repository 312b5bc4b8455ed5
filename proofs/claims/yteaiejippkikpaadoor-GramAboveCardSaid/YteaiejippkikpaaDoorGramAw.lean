/- dovetaillaw03.awake: it answers true. -/
import Derived.Test.YteaiejippkikpaaDoorGramCp
import Derived.Test.YteaiejippkikpaaDoorCx2
set_option linter.unusedVariables false
namespace Go.Proofs.YteaiejippkikpaaDoor.B
open Go.RowKit Go.Proofs.YteaiejippkikpaaDoorW.PrintWords Go.Proofs.YteaiejippkikpaaDoorW.PrintLast Go.Proofs.YteaiejippkikpaaDoorW.PrintMore

theorem given_C (r1 r2 : List ByteArray) (r3 : Int) (r4 : List S35) (w : World) (h : dovetaillaw03_given.f = some (r1, r2, r3, r4)) :
    Calls Tryd.prog 53 #[] w fun e w' => ∃ A0 c0 A1 c1 A3 c3, e = .returned (.agg #[.slice A0 r1.length c0, .slice A1 r2.length c1, .int .i64 r3, .slice A3 r4.length c3]) ∧ Kd.C Kd.string w' A0 r1.length r1 ∧ r1.length ≤ c0 ∧ Kd.C Kd.string w' A1 r2.length r2 ∧ r2.length ≤ c1 ∧ Kd.C k35 w' A3 r4.length r4 ∧ r4.length ≤ c3 ∧ Below w.heap.size w w' := by
  refine (dovetaillaw03_given.calls r1 r2 r3 r4 w h).mono ?_
  rintro e w' ⟨v0, v1, v3, rfl, h0, h1, h3, hb⟩
  obtain ⟨A0, c0, rfl⟩ := Kd.R_slice h0
  obtain ⟨A1, c1, rfl⟩ := Kd.R_slice h1
  obtain ⟨A3, c3, rfl⟩ := Kd.N_slice h3
  exact ⟨A0, c0, A1, c1, A3, c3, rfl, (Kd.R_reads' h0).2.2, (Kd.R_reads' h0).2.1, (Kd.R_reads' h1).2.2, (Kd.R_reads' h1).2.1, (Kd.N_reads' h3).2.2, (Kd.N_reads' h3).2.1, hb⟩
theorem chain_C (r1 r2 : List ByteArray) (r3 : Int) (r4 : List S35) (w : World) (h : dovetaillaw03_chain.f = some (r1, r2, r3, r4)) :
    Calls Tryd.prog 56 #[] w fun e w' => ∃ A0 c0 A1 c1 A3 c3, e = .returned (.agg #[.slice A0 r1.length c0, .slice A1 r2.length c1, .int .i64 r3, .slice A3 r4.length c3]) ∧ Kd.C Kd.string w' A0 r1.length r1 ∧ r1.length ≤ c0 ∧ Kd.C Kd.string w' A1 r2.length r2 ∧ r2.length ≤ c1 ∧ Kd.C k35 w' A3 r4.length r4 ∧ r4.length ≤ c3 ∧ Below w.heap.size w w' := by
  refine (dovetaillaw03_chain.calls r1 r2 r3 r4 w h).mono ?_
  rintro e w' ⟨v0, v1, v3, rfl, h0, h1, h3, hb⟩
  obtain ⟨A0, c0, rfl⟩ := Kd.R_slice h0
  obtain ⟨A1, c1, rfl⟩ := Kd.R_slice h1
  obtain ⟨A3, c3, rfl⟩ := Kd.N_slice h3
  exact ⟨A0, c0, A1, c1, A3, c3, rfl, (Kd.R_reads' h0).2.2, (Kd.R_reads' h0).2.1, (Kd.R_reads' h1).2.2, (Kd.R_reads' h1).2.1, (Kd.N_reads' h3).2.2, (Kd.N_reads' h3).2.1, hb⟩

theorem lit3_C (W : World) (b : Nat) (t : TypeId) (x y z : Int) (h : W.heap[b]? = some (.cells #[.int .u64 x, .int .u64 y, .int .u64 z] t (0, 0))) : Kd.C (Kd.int .u64) W (some ⟨b, 0, none⟩) 3 [x, y, z] := by
  have h0 : Box b #[.int .u64 x, .int .u64 y, .int .u64 z] t W := h
  refine ⟨rfl, by omega, fun _ => ⟨⟨b, 0, none⟩, rfl, fun j p hj => ⟨[.int .u64 p], rfl, rfl, fun i u hi => ?_⟩⟩⟩
  obtain rfl : i = 0 := by
    rcases i with _ | i
    · rfl
    · simp at hi
  simp at hi
  subst hi
  rw [Addr.add_lit]
  match j, hj with
  | 0, hj => simp at hj; subst hj; exact h0.cell 0 _ rfl
  | 1, hj => simp at hj; subst hj; exact h0.cell 1 _ rfl
  | 2, hj => simp at hj; subst hj; exact h0.cell 2 _ rfl
  | j + 3, hj => simp at hj

def dovetaillaw03_awake.ok : Bool :=
  match dovetaillaw03_given.f, dovetaillaw03_chain.f with
  | some (g0, g1, g2, g3), some (c0, c1, c2, c3) =>
    decide (gram_Check.f 50 g0 g1 g2 g3 = some none) && decide (gram_Term.f 50 g0 g1 g2 g3 ⟨#[105]⟩ = some (1, true)) && decide (gram_Above.f 50 c0 c1 c2 c3 = some [1, 3, 7]) && decide (dovetailkit_Sets.f 50 [1, 3, 7] [1, 3, 7] = some true)
  | _, _ => false
theorem dovetaillaw03_awake.ok_true : dovetaillaw03_awake.ok = true := by kernel_rfl

set_option maxHeartbeats 1000000 in
set_option maxRecDepth 100000 in
theorem Awake_calls (w : World) : Calls Tryd.prog 27 #[] w fun e w' => e = .returned (.bool true) ∧ Below w.heap.size w w' := by
  obtain ⟨g0, g1, g2, g3, d0, d1, d2, d3, hg, hd, hk, ht, ha, hs⟩ : ∃ g0 g1 g2 g3 d0 d1 d2 d3, dovetaillaw03_given.f = some (g0, g1, g2, g3) ∧ dovetaillaw03_chain.f = some (d0, d1, d2, d3) ∧
      gram_Check.f 50 g0 g1 g2 g3 = some none ∧ gram_Term.f 50 g0 g1 g2 g3 ⟨#[105]⟩ = some (1, true) ∧ gram_Above.f 50 d0 d1 d2 d3 = some [1, 3, 7] ∧ dovetailkit_Sets.f 50 [1, 3, 7] [1, 3, 7] = some true := by
    have h := dovetaillaw03_awake.ok_true
    unfold dovetaillaw03_awake.ok at h
    split at h
    · rename_i g0 g1 g2 g3 d0 d1 d2 d3 hg hd
      simp only [Bool.and_eq_true, decide_eq_true_eq] at h
      exact ⟨g0, g1, g2, g3, d0, d1, d2, d3, hg, hd, h.1.1.1, h.1.1.2, h.1.2, h.2⟩
    · cases h
  have HG := Aside0.mk hg
  have HD := Aside0.mk hd
  have HK := Aside0.mk hk
  have HT := Aside0.mk ht
  have HA := Aside0.mk ha
  have HS := Aside0.mk hs
  clear hg hd hk ht ha hs
  have TR : Aside0 (∀ {W W' : World}, Below w.heap.size w W → Below W.heap.size W W' → Below w.heap.size w W') := ⟨fun h1 h2 => h1.trans (h2.mono h1.size)⟩
  go_enter Tryd.func27, Tryd.ntmps27
  go_wp2_with (go_at_call 53; (with_reducible refine (given_C g0 g1 g2 g3 _ HG.out).mono ?_); rintro e w1 ⟨A0, c0, A1, c1, A3, c3, rfl, r0, l0, r1, l1, r3, l3, b1⟩; have R0 := Aside0.mk r0; have R1 := Aside0.mk r1; have R3 := Aside0.mk r3; have B1 := Aside0.mk b1; clear r0 r1 r3 b1)
  refine (gram_Check.calls 50 A0 c0 g0 A1 c1 g1 g2 A3 c3 g3 none w1 R0.out l0 R1.out l1 R3.out l3 HK.out).mono ?_
  rintro e w2 ⟨rfl, b2⟩
  have B2 := Aside0.mk (TR.out B1.out b2)
  clear b2 R0 R1 R3 B1 l0 l1 l3
  simp only [errW_none]
  go_wp2_with (go_at_call 53; (with_reducible refine (given_C g0 g1 g2 g3 _ HG.out).mono ?_); rintro e w3 ⟨a0, c0, a1, c1, a3, c3, rfl, r0, l0, r1, l1, r3, l3, b1⟩; have R0 := Aside0.mk r0; have R1 := Aside0.mk r1; have R3 := Aside0.mk r3; have B3 := Aside0.mk (TR.out B2.out b1); clear r0 r1 r3 b1)
  refine (gram_Term.calls 50 a0 c0 g0 a1 c1 g1 g2 a3 c3 g3 ⟨#[105]⟩ 1 true w3 R0.out l0 R1.out l1 R3.out l3 HT.out).mono ?_
  rintro e w4 ⟨rfl, b2⟩
  have B4 := Aside0.mk (TR.out B3.out (by first | exact b2 | exact b2.below))
  clear b2 R0 R1 R3 B3 l0 l1 l3
  go_wp2_with (go_at_call 56; (with_reducible refine (chain_C d0 d1 d2 d3 _ HD.out).mono ?_); rintro e w5 ⟨a0, c0, a1, c1, a3, c3, rfl, r0, l0, r1, l1, r3, l3, b1⟩; have R0 := Aside0.mk r0; have R1 := Aside0.mk r1; have R3 := Aside0.mk r3; have B5 := Aside0.mk (TR.out B4.out b1); clear r0 r1 r3 b1)
  refine (gram_Above.calls 50 a0 c0 d0 a1 c1 d1 d2 a3 c3 d3 [1, 3, 7] w5 R0.out l0 R1.out l1 R3.out l3 HA.out).mono ?_
  rintro e w6 ⟨v, rfl, hv, b2⟩
  obtain ⟨A, c, rfl⟩ := Kd.R_slice hv
  obtain ⟨_, hc, hC⟩ := Kd.R_reads' hv
  have B6 := Aside0.mk (TR.out B5.out b2)
  have HC := Aside0.mk hC
  clear b2 R0 R1 R3 B5 l0 l1 l3 hv hC
  go_wp2_with fail
  have hb7 : Below w6.heap.size w6 (w6.alloc (.cells #[.int .u64 1, .int .u64 3, .int .u64 7] 47)) := (Below.refl _ w6).alloc (Nat.le_refl _) _
  refine (dovetailkit_Sets.calls 50 A c [1, 3, 7] (some ⟨w6.heap.size, 0, none⟩) 3 [1, 3, 7] true _ (Kd.C_below HC.out hb7) hc (lit3_C _ _ _ 1 3 7 (heap_alloc_new w6 _)) (by simp) HS.out).mono ?_
  rintro e w8 ⟨rfl, b2⟩
  have B8 := Aside0.mk (TR.out (TR.out B6.out hb7) b2.below)
  clear b2 hb7
  go_wp2_with fail
  go_ret
  exact ⟨rfl, B8.out⟩

def dovetaillaw03_awake.f : Option Bool := some true
theorem dovetaillaw03_awake.calls (r : Bool) (w : World) (h : dovetaillaw03_awake.f = some r) :
    Calls Tryd.prog 27 #[] w fun e w' => e = .returned (.bool r) ∧ Below w.heap.size w w' := by
  obtain rfl := Option.some.inj h
  exact Awake_calls w
end Go.Proofs.YteaiejippkikpaaDoor.B
