/- dovetaillaw02.known: true. -/
import Derived.Test.YteaiejippkikpaaDoorLineS
import Derived.Test.YteaiejippkikpaaDoorQuote
import Derived.Test.YteaiejippkikpaaDoorWEqStruct
set_option linter.unusedVariables false
set_option linter.unusedSimpArgs false
namespace Go.Proofs.YteaiejippkikpaaDoor.H
open Go.RowKit Go.Proofs.YteaiejippkikpaaDoorW.PrintWords Go.Proofs.YteaiejippkikpaaDoorW.PrintLast Go.Proofs.YteaiejippkikpaaDoorW.PrintMore Go.Proofs.YteaiejippkikpaaDoor.Lw
open Go.Proofs.YteaiejippkikpaaDoor.B (SentsK SentsK.below HandleP HandleP.below Kind_pl Place_pl Box Box.below)

/-- The document's line. -/
def lineA : List P.Wd := [([101], false, 0), ([58], false, 2), ([101], false, 4), ([43], false, 6), ([116], true, 8)]
theorem known_a : lineR ⟨#[101, 32, 58, 32, 101, 32, 43, 32, 34, 116, 34, 32, 35, 32, 110, 111]⟩ = (lineA.map toS, 0, -1) := by
  have h : P.lineL [101, 32, 58, 32, 101, 32, 43, 32, 34, 116, 34, 32, 35, 32, 110, 111] = .inr lineA := by decide +kernel
  unfold lineR
  rw [if_neg (by decide)]
  show lineOf (P.lineL [101, 32, 58, 32, 101, 32, 43, 32, 34, 116, 34, 32, 35, 32, 110, 111]) = _
  rw [h]; rfl
theorem known_b : lineR ⟨#[34, 97, 34, 98]⟩ = ([], 2, 3) := by
  have h : P.lineL [34, 97, 34, 98] = .inl 3 := by decide +kernel
  unfold lineR
  rw [if_neg (by decide)]
  show lineOf (P.lineL [34, 97, 34, 98]) = _
  rw [h]; rfl
theorem known_q : (⟨(P.quoteL [97, 255, 34]).toArray⟩ : ByteArray) = ⟨#[34, 97, 92, 120, 70, 70, 92, 34, 34]⟩ := by
  have : P.quoteL [97, 255, 34] = [34, 97, 92, 120, 70, 70, 92, 34, 34] := by decide +kernel
  rw [this]
theorem eqW (d : Nat) (w : World) (x0 y0 : ByteArray) (x1 y1 : Bool) (x2 y2 : Int) :
    (Op.equalIn (d + 2) 82 (.agg #[.string x0, .bool x1, .int .i64 x2]) (.agg #[.string y0, .bool y1, .int .i64 y2])).run Tryd.prog w = .ok (x0.toList == y0.toList && (x1 == y1 && (x2 == y2))) w := by
  refine eqA_of Tryd.underlying82 (by kernel_rfl) ?_
  refine eqf_cons (by rfl) (by go_simp; rfl) (by go_simp; rfl) (by go_simp) ?_
  refine eqf_cons (by rfl) (by go_simp; rfl) (by go_simp; rfl) (by go_simp) ?_
  exact eqf_last (by rfl) (by go_simp; rfl) (by go_simp; rfl) (by go_simp)
attribute [local go_sem high] eqW

/-- Line of the document's line. -/
theorem known_la (ad : Int → Addr) (w : World) (hs : SentsK ad w) : Calls Tryd.prog 34 #[.string ⟨#[101, 32, 58, 32, 101, 32, 43, 32, 34, 116, 34, 32, 35, 32, 110, 111]⟩] w fun e w' => ∃ a c, e = .returned (.tuple #[.slice (some a) 5 c, .nilIface]) ∧ Aside0 (w'.cell? ⟨a.block, a.off + 12, none⟩ = some (.string ⟨#[116]⟩) ∧ w'.cell? ⟨a.block, a.off + 12 + 1, none⟩ = some (.bool true) ∧ w'.cell? ⟨a.block, a.off + 12 + 2, none⟩ = some (.int .i64 8) ∧ Below w.heap.size w w') := by
  refine (Line_calls ad _ w (SentsK.two hs)).mono ?_
  rintro e w' ⟨v, u, rfl, ⟨r, pe, b⟩⟩
  rw [known_a] at r pe
  obtain ⟨A, c, rfl⟩ := Kd.R_slice r
  obtain rfl : u = .nilIface := by
    rcases pe with h | h | h
    · exact h.2.2
    · exact absurd h.1.1 (by decide)
    · exact absurd h.1.1 (by decide)
  obtain ⟨a, rfl, h0, h1, h2⟩ := at_T82 (Kd.R_reads' r).2.2 (4 : Int) (by omega) (by decide)
  exact ⟨a, c, rfl, ⟨h0, h1, h2, b⟩⟩
theorem known_lb (ad : Int → Addr) (w : World) (hs : SentsK ad w) : Calls Tryd.prog 34 #[.string ⟨#[34, 97, 34, 98]⟩] w fun e w' => ∃ v u, e = .returned (.tuple #[v, u]) ∧ Aside0 (PErrV ad w' u (2, 3) ∧ Below w.heap.size w w') := by
  refine (Line_calls ad _ w (SentsK.two hs)).mono ?_
  rintro e w' ⟨v, u, rfl, ⟨r, pe, b⟩⟩
  rw [known_b] at pe
  exact ⟨v, u, rfl, ⟨pe, b⟩⟩
set_option maxHeartbeats 2000000 in
set_option maxRecDepth 100000 in
theorem known_calls (ad : Int → Addr) (w : World) (hs : SentsK ad w) (hg : HandleP w) :
    Calls Tryd.prog 50 #[] w fun e w' => e = .returned (.bool true) ∧ Below w.heap.size w w' := by
  have HA := Aside0.mk (known_la ad w hs)
  have HB := Aside0.mk (fun W hW => known_lb ad W (hs.below hW))
  have HS := Aside0.mk hs
  have HG := Aside0.mk hg
  have HQ := Aside0.mk (fun W => Quote_calls ⟨#[97, 255, 34]⟩ W (by decide))
  rw [show (⟨#[97, 255, 34]⟩ : ByteArray).data.toList = [97, 255, 34] from rfl, known_q] at HQ
  clear hs hg
  go_enter Tryd.func50, Tryd.ntmps50
  go_wp2_with (first
    | (go_at_call 34; (with_reducible refine HA.out.mono ?_); rintro e w1 ⟨a, c, rfl, T1⟩)
    | (go_at_call 34; go_loud ((with_reducible refine (HB.out _ T1.out.2.2.2).mono ?_); rintro e w2 ⟨v, u, rfl, ⟨pe, b2⟩⟩; have f0 := (b2.cell (World.block_lt_of_cell? w1 _ T1.out.1)).trans T1.out.1; have f1 := (b2.cell (World.block_lt_of_cell? w1 _ T1.out.2.1)).trans T1.out.2.1; have f2 := (b2.cell (World.block_lt_of_cell? w1 _ T1.out.2.2.1)).trans T1.out.2.2.1; have PE2 := Aside0.mk pe; have B2 := Aside0.mk (T1.out.2.2.2.trans (b2.mono (below_size T1.out.2.2.2))); clear pe b2))
    | (go_at_call 32; go_loud ((with_reducible refine (Kind_pl (HS.out.below B2.out) PE2.out).mono ?_); rintro e w3 ⟨rfl, b3⟩; have B3 := Aside0.mk (B2.out.trans (b3.mono (below_size B2.out))); have PE3 := Aside0.mk (PE2.out.below b3); clear b3))
    | (go_at_call 37; go_loud ((with_reducible refine (Place_pl (HG.out.below B3.out) PE3.out).mono ?_); rintro e w4 ⟨rfl, b4⟩; have B4 := Aside0.mk (B3.out.trans (b4.mono (below_size B3.out))); clear b4))
    | (go_at_call 88; go_loud ((with_reducible refine (HQ.out _).mono ?_); rintro e w5 ⟨rfl, b5⟩; have B5 := Aside0.mk (B4.out.trans (b5.mono (below_size B4.out))); clear b5)))
  go_ret
  exact ⟨rfl, B5.out⟩
end Go.Proofs.YteaiejippkikpaaDoor.H
