/- dovetaillaw03.GramAbove at a grammar that may be. -/
import Derived.Test.YteaiejippkikpaaDoorGramAp
set_option linter.unusedVariables false
set_option linter.unusedSimpArgs false
namespace Go.Proofs.YteaiejippkikpaaDoor.B
open Go.RowKit Go.Proofs.YteaiejippkikpaaDoorW.PrintWords Go.Proofs.YteaiejippkikpaaDoorW.PrintLast Go.Proofs.YteaiejippkikpaaDoorW.PrintMore

set_option maxHeartbeats 4000000 in
set_option maxRecDepth 100000 in
theorem GramAbove_ok (K : Nat) (A0 : Option Addr) (c0 : Nat) (l0 : List ByteArray) (A1 : Option Addr) (c1 : Nat) (l1 : List ByteArray) (a2 : Int) (A3 : Option Addr) (c3 : Nat) (l3 : List S35) (w : World) (hr0 : Kd.C Kd.string w A0 l0.length l0) (hc0 : l0.length ≤ c0) (hr1 : Kd.C Kd.string w A1 l1.length l1) (hc1 : l1.length ≤ c1) (hr3 : Kd.C k35 w A3 l3.length l3) (hc3 : l3.length ≤ c3) (ho : okG K l0 l1 a2 l3) :
    Calls Tryd.prog 4 #[.agg #[.slice A0 l0.length c0, .slice A1 l1.length c1, .int .i64 a2, .slice A3 l3.length c3]] w fun e w' => e = .returned (.bool true) ∧ Below w.heap.size w w' := by
  obtain ⟨kA, S, hS, hI⟩ := Above_ev K l0 l1 a2 l3 ho
  obtain ⟨hn0, hn1⟩ := okG_names ho
  have ho' := ho
  obtain ⟨h60, h120, _, _, ha0, ha1, hall⟩ := ho'
  have hlen := hI.len
  obtain ⟨cs, hcs⟩ : ∃ cs : Array Value, cs = #[.slice A0 l0.length c0, .slice A1 l1.length c1, .int .i64 a2, .slice A3 l3.length c3] := ⟨_, rfl⟩
  have kC := Later.of (w := w) (F := 28) (fun W hW => Check_ok K A0 c0 l0 A1 c1 l1 a2 A3 c3 l3 W (Kd.C_below hr0 hW) hc0 (Kd.C_below hr1 hW) hc1 (Kd.C_below hr3 hW) hc3 ho)
  have kW := Later.of (w := w) (F := 27) (fun W hW => Awake_calls W)
  have kA : ∀ W, GW w cs W → Calls Tryd.prog 23 #[.agg #[.slice A0 l0.length c0, .slice A1 l1.length c1, .int .i64 a2, .slice A3 l3.length c3]] W fun e w' => ∃ A c, e = .returned (.slice A l1.length c) ∧ Aside0 (GS w cs l1.length S A w') := by
    intro W hW
    refine (gram_Above.calls kA A0 c0 l0 A1 c1 l1 a2 A3 c3 l3 S W (Kd.C_below hr0 hW.1) hc0 (Kd.C_below hr1 hW.1) hc1 (Kd.C_below hr3 hW.1) hc3 hS).mono ?_
    rintro e w6 ⟨v, rfl, hv, b2⟩
    obtain ⟨A, c, rfl⟩ := Kd.R_slice hv
    obtain ⟨_, hc, hC⟩ := Kd.R_reads' hv
    exact ⟨A, c, by rw [hlen], ⟨hW.more b2, by rw [← hlen]; exact hC⟩⟩
  have kN : ∀ s x, gram_Name.f l0 l1 a2 l3 s = some (x, true) → _ := fun s x h => Later.of (w := w) (F := 18) (fun W hW => gram_Name.calls A0 c0 l0 A1 c1 l1 a2 A3 c3 l3 s x true W (Kd.C_below hr0 hW) hc0 (Kd.C_below hr1 hW) hc1 (Kd.C_below hr3 hW) hc3 h)
  have kT : ∀ x j, gram_Term.f 61 l0 l1 a2 l3 x = some (j, true) → _ := fun x j h => Later.of (w := w) (F := 14) (fun W hW => gram_Term.calls 61 A0 c0 l0 A1 c1 l1 a2 A3 c3 l3 x j true W (Kd.C_below hr0 hW) hc0 (Kd.C_below hr1 hW) hc1 (Kd.C_below hr3 hW) hc3 h)
  have kM : ∀ x j, gram_Nonterm.f 61 l0 l1 a2 l3 x = some (j, true) → _ := fun x j h => Later.of (w := w) (F := 16) (fun W hW => gram_Nonterm.calls 61 A0 c0 l0 A1 c1 l1 a2 A3 c3 l3 x j true W (Kd.C_below hr0 hW) hc0 (Kd.C_below hr1 hW) hc1 (Kd.C_below hr3 hW) hc3 h)
  have kR : ∀ a s, dovetaillaw03_renames.f 121 l0 l1 a2 l3 a s = some true → _ := fun a s h => Later.of (w := w) (F := 29) (fun W hW => dovetaillaw03_renames.calls 121 A0 c0 l0 A1 c1 l1 a2 A3 c3 l3 a s true W (Kd.C_below hr0 hW) hc0 (Kd.C_below hr1 hW) hc1 (Kd.C_below hr3 hW) hc3 h)
  have CE : ∀ W, GW w cs W → W.cell? ⟨w.heap.size, 0, none⟩ = some (.slice A0 l0.length c0) ∧ W.cell? ⟨w.heap.size, 1, none⟩ = some (.slice A1 l1.length c1) ∧ W.cell? ⟨w.heap.size, 2, none⟩ = some (.int .i64 a2) ∧ W.cell? ⟨w.heap.size, 3, none⟩ = some (.slice A3 l3.length c3) := by
    intro W hW; subst hcs; exact hW.cells
  have st : GW w cs (w.alloc (.cells #[.slice A0 l0.length c0, .slice A1 l1.length c1, .int .i64 a2, .slice A3 l3.length c3] 25)) := by subst hcs; exact GW.start w _
  have tN := fun i hi => Name_term l0 l1 a2 l3 i hi
  have tM := fun i hi => Name_nonterm l0 l1 a2 l3 (by omega) i hi
  have tT := fun i hi => Term_at l0 l1 a2 l3 hn0 (by omega) i hi
  have tU := fun i hi => Nonterm_at l0 l1 a2 l3 hn1 (by omega) i hi
  have tR := fun i a hi hai hm => Renames_f l0 l1 a2 l3 l0.length l1.length (by omega) hall h120 S hI i a hi hai hm
  have HR0 := Aside0.mk hr0
  have HR3 := Aside0.mk hr3
  have HI := Aside0.mk hI
  have ALL := Aside0.mk hall
  have ST := Aside0.mk st
  have KC := Aside0.mk kC
  have KW := Aside0.mk kW
  have KA := Aside0.mk kA
  have KN := Aside0.mk kN
  have KT := Aside0.mk kT
  have KM := Aside0.mk kM
  have KR := Aside0.mk kR
  have CE' := Aside0.mk CE
  have TN := Aside0.mk tN
  have TM := Aside0.mk tM
  have TT := Aside0.mk tT
  have TU := Aside0.mk tU
  have TR := Aside0.mk tR
  have HLEN := Lib.hid hlen
  clear hr0 hr1 hr3 hI hall st kC kW kA kN kT kM kR CE tN tM tT tU tR hn0 hn1 hS ho hlen
  have HCS := Lib.hid hcs
  clear hcs
  go_enter Tryd.func4, Tryd.ntmps4
  go_wp2_with (first
    | (go_at_call 28; (with_reducible refine (KC.out _ ST.out.low).mono ?_); rintro e w1 ⟨rfl, b1⟩; have t1 := Aside0.mk (ST.out.more b1.out); clear b1; obtain ⟨f0, f1, f2, f3⟩ := CE'.out _ t1.out)
    | (go_at_call 23; (with_reducible refine (KA.out _ t1.out).mono ?_); rintro e w2 ⟨A, c, rfl, t2⟩; clear f0 f1 f2 f3; obtain ⟨f0, f1, f2, f3⟩ := CE'.out _ t2.out.gw)
    | (go_at_call 27; (with_reducible refine (KW.out _ t2.out.low).mono ?_); rintro e w3 ⟨rfl, b3⟩; have t3 := Aside0.mk (t2.out.more b3.out); clear b3 f0 f1 f2 f3; obtain ⟨f0, f1, f2, f3⟩ := CE'.out _ t3.out.gw))
  go_loopw [5, 6, 7, 8, 9] (fun i _ _ _ _ wr => ∃ k : Nat, k ≤ l0.length ∧ i = .int .i64 k ∧ Aside0 (GS w cs l1.length S A wr)) (fun i _ _ _ _ _ => l0.length - (intOf i).toNat)
  case atStart => exact ⟨0, Nat.zero_le _, rfl, t3⟩
  case round =>
    obtain ⟨k, hk, rfl, tr⟩ := hrel
    clear f0 f1 f2 f3 t3 t2 t1
    obtain ⟨f0, f1, f2, f3⟩ := CE'.out _ tr.out.1
    by_cases hlt : k < l0.length
    · obtain ⟨ad, rfl, _⟩ := Kd.at_string (Kd.C_below HR0.out tr.out.low) (k : Int) (by omega) (by omega)
      have hx : ∀ W, GS w cs l1.length S A W → W.cell? (ad.add k) = some (.string l0[k]) := by
        intro W hW
        obtain ⟨ad', h1, h2⟩ := Kd.at_string (Kd.C_below HR0.out hW.1.1) (k : Int) (by omega) (by omega)
        obtain rfl := Option.some.inj h1
        rwa [Int.toNat_natCast, rdS_D, getD_lt _ _ _ hlt] at h2
      have n1 := KN.out _ _ (TN.out k hlt)
      have n2 := KT.out _ _ (TT.out k hlt)
      generalize l0[k] = x at hx n1 n2
      have N1 := Aside0.mk n1
      have N2 := Aside0.mk n2
      have HX := Aside0.mk hx
      clear n1 n2 hx
      go_wp2_with (first
        | (go_at_call 18; (with_reducible refine (N1.out _ tr.out.low).mono ?_); rintro e w4 ⟨rfl, b4⟩; have t4 := Aside0.mk (tr.out.more b4.out); clear b4 f0 f1 f2 f3; obtain ⟨f0, f1, f2, f3⟩ := CE'.out _ t4.out.1)
        | (go_at_call 14; (with_reducible refine (N2.out _ t4.out.low).mono ?_); rintro e w5 ⟨rfl, b5⟩; have t5 := Aside0.mk (t4.out.more b5.out); clear b5 f0 f1 f2 f3; obtain ⟨f0, f1, f2, f3⟩ := CE'.out _ t5.out.1; have f4 := HX.out _ t5.out))
      go_roundw
      case measure => simp [intOf]; omega
      case rel => exact ⟨k + 1, by omega, rfl, t5⟩
    · have hkn : k = l0.length := by omega
      subst hkn
      go_wp2_with fail
      go_loopw [10, 11, 12, 13, 14, 15] (fun i _ _ _ _ _ wr => ∃ k : Nat, k ≤ l1.length ∧ i = .int .i64 k ∧ Aside0 (GS w cs l1.length S A wr)) (fun i _ _ _ _ _ _ => l1.length - (intOf i).toNat)
      case atStart => exact ⟨0, Nat.zero_le _, rfl, tr⟩
      case round =>
        obtain ⟨i, hi, rfl, tr2⟩ := hrel
        clear f0 f1 f2 f3 tr
        obtain ⟨f0, f1, f2, f3⟩ := CE'.out _ tr2.out.1
        by_cases hlt2 : i < l1.length
        · obtain ⟨ad, rfl⟩ := tr2.out.addr (by omega)
          have hx : ∀ W, GS w cs l1.length S (some ad) W → W.cell? (ad.add i) = some (.int .u64 (S.getD i 0)) := fun W hW => hW.cell ad rfl i hlt2
          have n1 := KN.out _ _ (TM.out i hlt2)
          have n2 := KM.out _ _ (TU.out i hlt2)
          have hui := HI.out.u i hlt2
          have hb1 : (Go.bits .and .u64 (S.getD i 0 / 2 ^ i) 1 != 1) = false := by
            have := bit_at hui i (by omega)
            rw [HI.out.iff i hlt2 i |>.2 (.refl _), if_pos rfl] at this
            unfold shr at this
            rw [show min ((i : Int)).toNat IntKind.u64.bits = i by simp [IntKind.bits]; omega] at this
            rw [this]; rfl
          have hb2 : (S.getD i 0 / 2 ^ l1.length != 0) = false := by
            have := (shr_zero hui l1.length (by omega)).2 (fun j hj => by
              cases hm : mem (S.getD i 0) j with
              | false => rfl
              | true => have := ((HI.out.iff i hlt2 j).1 hm).lt ALL.out hlt2; omega)
            unfold shr at this
            rw [show min ((l1.length : Int)).toNat IntKind.u64.bits = l1.length by simp [IntKind.bits]; omega] at this
            rw [this]; rfl
          have BI := Lib.hid (show S.getD i 0 = S.getD i 0 from rfl)
          generalize hsi : S.getD i 0 = si at hx hb1 hb2 hui
          have HSI := Lib.hid hsi
          clear hsi BI
          generalize l1[i] = x at n1 n2
          have N1 := Aside0.mk n1
          have N2 := Aside0.mk n2
          have HX := Aside0.mk hx
          clear n1 n2 hx
          go_wp2_with (first
            | (go_at_call 18; (with_reducible refine (N1.out _ tr2.out.low).mono ?_); rintro e w4 ⟨rfl, b4⟩; have t4 := Aside0.mk (tr2.out.more b4.out); clear b4 f0 f1 f2 f3; obtain ⟨f0, f1, f2, f3⟩ := CE'.out _ t4.out.1)
            | (go_at_call 16; (with_reducible refine (N2.out _ t4.out.low).mono ?_); rintro e w5 ⟨rfl, b5⟩; have t5 := Aside0.mk (t4.out.more b5.out); clear b5 f0 f1 f2 f3; obtain ⟨f0, f1, f2, f3⟩ := CE'.out _ t5.out.1; have f4 := HX.out _ t5.out))
          clear hb1 hb2
          go_loopw [15] (fun q wq => ∃ k : Nat, k ≤ l1.length ∧ q = .int .i64 k ∧ Aside0 (GS w cs l1.length S (some ad) wq)) (fun q _ => l1.length - (intOf q).toNat)
          case atStart => exact ⟨0, Nat.zero_le _, rfl, t5⟩
          case round =>
            obtain ⟨k, hk, rfl, tq⟩ := hrel
            clear f0 f1 f2 f3 f4 t5 t4
            obtain ⟨f0, f1, f2, f3⟩ := CE'.out _ tq.out.gw
            have f4 := HX.out _ tq.out
            by_cases hlt3 : k < l1.length
            · have hbk := bit_at hui k (by omega)
              unfold shr at hbk
              rw [show min ((k : Int)).toNat IntKind.u64.bits = k by simp [IntKind.bits]; omega] at hbk
              cases hm : mem si k with
              | false =>
                rw [hm, if_neg (by decide)] at hbk
                have hb1 : (Go.bits .and .u64 (si / 2 ^ k) 1 == 1) = false := by rw [hbk]; rfl
                clear hbk hm
                go_wp2_with fail
                go_quiet (fail)
                go_wp2_with fail
                go_roundw
                case measure => simp [intOf]; omega
                case rel => exact ⟨k + 1, by omega, rfl, ⟨tq.out.more (pw_below_drewN (Below.refl _ _) _)⟩⟩
              | true =>
                rw [hm, if_pos rfl] at hbk
                have hb1 : (Go.bits .and .u64 (si / 2 ^ k) 1 == 1) = true := by rw [hbk]; rfl
                have hki : Reach l3 k i := (HI.out.iff i hlt2 k).1 (by rw [HSI.out]; exact hm)
                have hsub : ∀ j, mem (S.getD k 0) j = true → mem si j = true := fun j hj => by
                  rw [← HSI.out]
                  exact (HI.out.iff i hlt2 j).2 (((HI.out.iff k hlt3 j).1 hj).trans hki)
                have hb3 : (Go.bits .andNot .u64 (S.getD k 0) si != 0) = false := by
                  rw [(andNot_zero (HI.out.u k hlt3) hui).2 hsub]; rfl
                have f5 := tq.out.cell ad rfl k hlt3
                clear hbk hki hsub
                by_cases hik : i = k
                · subst hik
                  rw [HSI.out] at hb3 f5
                  clear hm f5
                  go_wp2_with fail
                  go_quiet (fail)
                  go_wp2_with fail
                  go_roundw
                  case measure => simp [intOf]; omega
                  case rel => exact ⟨i + 1, by omega, rfl, ⟨tq.out.more (pw_below_drewN (Below.refl _ _) _)⟩⟩
                · have hb4 : ((i : Int) != (k : Int)) = true := by simp; omega
                  have hc := KR.out _ _ (TR.out i k hlt2 (fun h => hik h.symm) (by rw [HSI.out]; exact hm))
                  rw [HSI.out] at hc
                  generalize S.getD k 0 = sk at hb3 f5
                  have hcall : ∀ W, Below wr.heap.size wr W → Calls Tryd.prog 29 #[.agg #[.slice A0 l0.length c0, .slice A1 l1.length c1, .int .i64 a2, .slice A3 l3.length c3], .int .i64 (k : Int), .int .u64 si] W fun e w' => e = .returned (.bool true) ∧ Aside0 (GS w cs l1.length S (some ad) w') ∧
                      w'.cell? ⟨w.heap.size, 0, none⟩ = some (.slice A0 l0.length c0) ∧ w'.cell? ⟨w.heap.size, 1, none⟩ = some (.slice A1 l1.length c1) ∧ w'.cell? ⟨w.heap.size, 2, none⟩ = some (.int .i64 a2) ∧ w'.cell? ⟨w.heap.size, 3, none⟩ = some (.slice A3 l3.length c3) ∧ w'.cell? (ad.add i) = some (.int .u64 si) ∧ w'.cell? (ad.add k) = some (.int .u64 sk) := by
                    intro W hW
                    have hg := tq.out.more hW
                    refine (hc W hg.low).mono ?_
                    rintro e w' ⟨he, hb⟩
                    have hg' := hg.more hb.out
                    obtain ⟨g0, g1, g2, g3⟩ := CE'.out _ hg'.gw
                    have h5 := (hb.out.cell (World.block_lt_of_cell? W _ ((hW.cell (World.block_lt_of_cell? wr _ f5)).trans f5))).trans ((hW.cell (World.block_lt_of_cell? wr _ f5)).trans f5)
                    exact ⟨he, ⟨hg'⟩, g0, g1, g2, g3, HX.out _ hg', h5⟩
                  have HC := Aside0.mk hcall
                  have HIK := Lib.hid hik
                  have hb1q : Go.bits .and .u64 (si / 2 ^ min (IntKind.u64.wrap (k : Int)).toNat 64) 1 = 1 := by
                    rw [wraps_u64 _ (by omega) (by omega), Int.toNat_natCast, Nat.min_eq_left (by omega)]
                    simpa using hb1
                  have hb3q : Go.bits .andNot .u64 sk si = 0 := by simpa using hb3
                  have hikq : ¬ ((i : Int) = (k : Int)) := by omega
                  clear hcall hc hm hb1 hb3 hb4
                  go_wp2_with fail
                  go_still_tail 31, (by kernel_rfl)
                  change wpList _ _ _ _ _ wr.drew
                  go_wp2_with (go_at_call 29; (with_reducible refine (HC.out _ (Below.refl _ wr).drew).mono ?_); rintro e w6 ⟨rfl, t6, e0, e1, e2, e3, e4, e5⟩)
                  go_roundw
                  case measure => simp [intOf]; omega
                  case rel => exact ⟨k + 1, by omega, rfl, t6⟩
            · have hkn : k = l1.length := by omega
              subst hkn
              go_wp2_with fail
              go_roundw
              case measure => simp [intOf]; omega
              case rel => exact ⟨i + 1, by omega, rfl, tq⟩
        · have hin : i = l1.length := by omega
          subst hin
          obtain ⟨ad, rfl⟩ := tr2.out.addr (by omega)
          go_wp2_with fail
          go_loopw [16, 17, 18] (fun q _ _ wq => ∃ j : Nat, j ≤ l3.length ∧ q = .int .i64 j ∧ Aside0 (GS w cs l1.length S (some ad) wq)) (fun q _ _ _ => l3.length - (intOf q).toNat)
          case atStart => exact ⟨0, Nat.zero_le _, rfl, tr2⟩
          case round =>
            obtain ⟨j, hj, rfl, tq⟩ := hrel
            clear f0 f1 f2 f3 tr2
            obtain ⟨f0, f1, f2, f3⟩ := CE'.out _ tq.out.gw
            by_cases hlt3 : j < l3.length
            · obtain ⟨ad3, A3', c3', rfl, h0, h1, h2, h3⟩ := at_T35 (Kd.C_below HR3.out tq.out.low) (j : Int) (by omega) (by omega)
              have q0 : rd_T35 l3 (j : Int) = l3[j] := by rw [rdR_D, getD_lt _ _ _ hlt3]
              have hok := ALL.out l3[j] (List.getElem_mem hlt3)
              have hmem : l3[j] ∈ l3 := List.getElem_mem hlt3
              rw [Int.toNat_natCast] at h0 h1
              rw [q0] at h0 h1 h2 h3
              generalize l3[j] = x at h0 h1 h2 h3 hok hmem
              obtain ⟨_, hx0, hx1, _⟩ := okR_sides hok
              have hrf := ren_f hok (by omega)
              obtain ⟨a, ha⟩ : ∃ a : Nat, x.f0 = a := ⟨x.f0.toNat, by omega⟩
              have hcall : ∀ r b, gram_Renaming.f x.f0 x.f1 = some (r, b) → ∀ W, Below wr.heap.size wr W → Calls Tryd.prog 21 #[.agg #[.int .i64 x.f0, .slice A3' x.f1.length c3']] W fun e w' => e = .returned (.tuple #[.int .i64 r, .bool b]) ∧ Aside0 (GS w cs l1.length S (some ad) w') ∧ w'.cell? (ad3.add (j * 2)) = some (.int .i64 x.f0) := by
                intro r b hf W hW
                refine (gram_Renaming.calls x.f0 A3' c3' x.f1 r b W (Kd.C_below h3 hW) h2 hf).mono ?_
                rintro e w' ⟨he, hb⟩
                have hW0 := (hW.cell (World.block_lt_of_cell? wr _ h0)).trans h0
                exact ⟨he, ⟨(tq.out.more hW).more hb⟩, (hb.cell (World.block_lt_of_cell? W _ hW0)).trans hW0⟩
              cases hr : ren x with
              | none =>
                rw [hr] at hrf
                have HC := Aside0.mk (hcall 0 false hrf)
                rw [ha] at HC h0
                have HA := Lib.hid ha
                clear hcall hrf hr h3 q0 hmem hok ha
                go_wp2_with (go_at_call 21; (with_reducible refine (HC.out _ (Below.refl _ wr)).mono ?_); rintro e w6 ⟨rfl, t6, e0⟩)
                go_quiet (fail)
                go_wp2_with fail
                go_roundw
                case measure => simp [intOf]; omega
                case rel => exact ⟨j + 1, by omega, rfl, ⟨t6.out.more (pw_below_drewN (Below.refl _ _) _)⟩⟩
              | some m =>
                rw [hr] at hrf
                have hm := ren_lt hok hr
                have hbk := bit_at (HI.out.u m hm) a (by omega)
                unfold shr at hbk
                rw [show min ((a : Int)).toNat IntKind.u64.bits = a by simp [IntKind.bits]; omega, (HI.out.iff m hm a).2 (.step ⟨x, hmem, ha, hr⟩ (.refl _)), if_pos rfl] at hbk
                have HC := Aside0.mk (hcall m true hrf)
                have HS : ∀ W, GS w cs l1.length S (some ad) W → W.cell? (ad.add m) = some (.int .u64 (S.getD m 0)) := fun W hW => hW.cell ad rfl m hm
                generalize S.getD m 0 = sm at hbk HS
                have hb1 : (Go.bits .and .u64 (sm / 2 ^ a) 1 != 1) = false := by rw [hbk]; rfl
                have hb1q : Go.bits .and .u64 (sm / 2 ^ min (IntKind.u64.wrap (a : Int)).toNat 64) 1 = 1 := by
                  rw [wraps_u64 _ (by omega) (by omega), Int.toNat_natCast, Nat.min_eq_left (by omega)]; exact hbk
                have HS' := Aside0.mk HS
                rw [ha] at HC h0
                have HA := Lib.hid ha
                clear hcall hrf hr h3 q0 hmem hok hbk HS ha
                go_wp2_with (go_at_call 21; (with_reducible refine (HC.out _ (Below.refl _ wr)).mono ?_); rintro e w6 ⟨rfl, t6, e0⟩; clear f0 f1 f2 f3; obtain ⟨f0, f1, f2, f3⟩ := CE'.out _ t6.out.gw; have f4 := HS'.out _ t6.out)
                go_quiet (fail)
                clear hb1q
                go_wp2_with fail
                go_ways
                exact ⟨⟨j + 1, by omega, rfl, ⟨t6.out.more (pw_below_drewN (Below.refl _ _) _)⟩⟩, by simp [intOf]; omega⟩
            · have hjn : j = l3.length := by omega
              subst hjn
              go_wp2_with fail
              go_ret
              exact ⟨rfl, tq.out.low⟩
end Go.Proofs.YteaiejippkikpaaDoor.B
