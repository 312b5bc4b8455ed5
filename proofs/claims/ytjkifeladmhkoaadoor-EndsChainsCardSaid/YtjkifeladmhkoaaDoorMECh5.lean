/- Texts of this claim, one behind the other. -/
import Derived.Test.YtjkifeladmhkoaaDoorMECh4
import Derived.Deep.RegionHeld3
import Derived.ArgAppend
import Derived.OwnWalk
import Derived.Test.YtjkifeladmhkoaaDoorMECh3
import Derived.Test.YtjkifeladmhkoaaDoorMECh2
/- kit.LentGrammar, kit.KeptGrammar. -/
set_option linter.unusedVariables false
set_option linter.unusedSimpArgs false
namespace Go.Proofs.YtjkifeladmhkoaaDoor.B
open Go.RowKit YtjkifeladmhkoaaDoorW.PrintWords YtjkifeladmhkoaaDoorW.PrintLast YtjkifeladmhkoaaDoorW.PrintMore

structure MG (w : World) (A0 : Option Addr) (c0 : Nat) (l0 : List ByteArray) (A1 : Option Addr) (c1 : Nat) (l1 : List ByteArray) (A3 : Option Addr) (c3 : Nat) (l3 : List S41) : Prop where
 h0 : l0.length + 1 ≤ c0
 r0 : Kd.C Kd.string w A0 (l0.length + 1) (l0 ++ [(⟨#[109, 97, 114, 107]⟩ : ByteArray)])
 h1 : l1.length + 1 ≤ c1
 r1 : Kd.C Kd.string w A1 (l1.length + 1) (l1 ++ [(⟨#[109, 97, 114, 107]⟩ : ByteArray)])
 r3 : MR w A3 c3 l3
theorem MG.below {w w' : World} {A0 A1 A3 : Option Addr} {c0 c1 c3 : Nat} {l0 l1 : List ByteArray} {l3 : List S41} (h : MG w A0 c0 l0 A1 c1 l1 A3 c3 l3) (hb : Below w.heap.size w w') : MG w' A0 c0 l0 A1 c1 l1 A3 c3 l3 :=
 ⟨h.h0, Kd.C_below h.r0 hb, h.h1, Kd.C_below h.r1 hb, h.r3.below hb⟩
def GG (w : World) (cs cs' : Array Value) (W : World) : Prop := Below w.heap.size w W ∧ Box w.heap.size cs 32 W ∧ Box (w.heap.size + 1) cs' 32 W
theorem GG.low {w : World} {cs cs' : Array Value} {W : World} (h : GG w cs cs' W) : Below w.heap.size w W := h.1
theorem GG.start (w : World) (cs cs' : Array Value) : GG w cs cs' ((w.alloc (.cells cs 32)).alloc (.cells cs' 32)) :=
 ⟨((Below.refl _ w).alloc (Nat.le_refl _) _).alloc (by simp) _, (Box.new w _ _).alloc _, by have := Box.new (w.alloc (.cells cs 32)) cs' 32; simpa using this⟩
theorem GG.more {w : World} {cs cs' : Array Value} {W W' : World} (h : GG w cs cs' W) (hb : Below W.heap.size W W') : GG w cs cs' W' := ⟨h.1.trans (hb.mono h.1.size), h.2.1.below hb, h.2.2.below hb⟩
theorem GG.two {w : World} {cs cs' : Array Value} {W : World} (h : GG w cs cs' W) : w.heap.size + 2 ≤ W.heap.size := by
 have h2 : W.heap[w.heap.size + 1]? = some (.cells cs' 32 (0, 0)) := h.2.2
 rcases Nat.lt_or_ge (w.heap.size + 1) W.heap.size with h1 | h1
 · exact h1
 · rw [Array.getElem?_eq_none h1] at h2; cases h2
theorem GG.cells {w : World} {v0 v1 v2 v3 u0 u1 u2 u3 : Value} {W : World} (h : GG w #[v0, v1, v2, v3] #[u0, u1, u2, u3] W) : (W.cell? ⟨w.heap.size, 0, none⟩ = some v0 ∧ W.cell? ⟨w.heap.size, 1, none⟩ = some v1 ∧ W.cell? ⟨w.heap.size, 2, none⟩ = some v2 ∧ W.cell? ⟨w.heap.size, 3, none⟩ = some v3) ∧
 W.cell? ⟨w.heap.size + 1, 0, none⟩ = some u0 ∧ W.cell? ⟨w.heap.size + 1, 1, none⟩ = some u1 ∧ W.cell? ⟨w.heap.size + 1, 2, none⟩ = some u2 ∧ W.cell? ⟨w.heap.size + 1, 3, none⟩ = some u3 :=
 ⟨⟨h.2.1.cell 0 _ rfl, h.2.1.cell 1 _ rfl, h.2.1.cell 2 _ rfl, h.2.1.cell 3 _ rfl⟩, h.2.2.cell 0 _ rfl, h.2.2.cell 1 _ rfl, h.2.2.cell 2 _ rfl, h.2.2.cell 3 _ rfl⟩
set_option maxHeartbeats 4000000 in
set_option maxRecDepth 100000 in
theorem KeptGrammar_yes (B0 : Option Addr) (d0 : Nat) (B1 : Option Addr) (d1 : Nat) (B3 : Option Addr) (d3 : Nat) (A0 : Option Addr) (c0 : Nat) (l0 : List ByteArray) (A1 : Option Addr) (c1 : Nat) (l1 : List ByteArray) (a2 : Int) (A3 : Option Addr) (c3 : Nat) (l3 : List S41) (w : World) (hm : MG w B0 d0 l0 B1 d1 l1 B3 d3 l3) (hr0 : Kd.C Kd.string w A0 l0.length l0) (hc0 : l0.length ≤ c0) (hr1 : Kd.C Kd.string w A1 l1.length l1) (hc1 : l1.length ≤ c1) (hr3 : Kd.C k41 w A3 l3.length l3) (hc3 : l3.length ≤ c3) :
 Calls Tryd.prog 29 #[.agg #[.slice B0 l0.length d0, .slice B1 l1.length d1, .int .i64 a2, .slice B3 l3.length d3], .agg #[.slice A0 l0.length c0, .slice A1 l1.length c1, .int .i64 a2, .slice A3 l3.length c3]] w fun e w' => e = .returned (.bool true) ∧ Below w.heap.size w w' := by
 obtain ⟨cs, hcs⟩ : ∃ cs : Array Value, cs = #[.slice B0 l0.length d0, .slice B1 l1.length d1, .int .i64 a2, .slice B3 l3.length d3] := ⟨_, rfl⟩
 obtain ⟨cs', hcs'⟩ : ∃ cs : Array Value, cs = #[.slice A0 l0.length c0, .slice A1 l1.length c1, .int .i64 a2, .slice A3 l3.length c3] := ⟨_, rfl⟩
 have CE : ∀ W, GG w cs cs' W → (W.cell? ⟨w.heap.size, 0, none⟩ = some (.slice B0 l0.length d0) ∧ W.cell? ⟨w.heap.size, 1, none⟩ = some (.slice B1 l1.length d1) ∧ W.cell? ⟨w.heap.size, 2, none⟩ = some (.int .i64 a2) ∧ W.cell? ⟨w.heap.size, 3, none⟩ = some (.slice B3 l3.length d3)) ∧ W.cell? ⟨w.heap.size + 1, 0, none⟩ = some (.slice A0 l0.length c0) ∧ W.cell? ⟨w.heap.size + 1, 1, none⟩ = some (.slice A1 l1.length c1) ∧ W.cell? ⟨w.heap.size + 1, 2, none⟩ = some (.int .i64 a2) ∧ W.cell? ⟨w.heap.size + 1, 3, none⟩ = some (.slice A3 l3.length c3) := by
  intro W hW; subst hcs hcs'; exact hW.cells
 have st : GG w cs cs' ((w.alloc (.cells #[.slice B0 l0.length d0, .slice B1 l1.length d1, .int .i64 a2, .slice B3 l3.length d3] 32)).alloc (.cells #[.slice A0 l0.length c0, .slice A1 l1.length c1, .int .i64 a2, .slice A3 l3.length c3] 32)) := by subst hcs hcs'; exact GG.start w _ _
 have k0 : ∀ W, Below w.heap.size w W → Calls Tryd.prog 68 #[.slice B0 l0.length d0, .slice A0 l0.length c0] W fun e w' => e = .returned (.bool true) ∧ Aside0 (Below W.heap.size W w') := fun W hW => (KeptStrings_yes B0 d0 A0 c0 l0 W hm.h0 (Kd.C_below hm.r0 hW) hc0 (Kd.C_below hr0 hW)).mono fun _ _ h => ⟨h.1, ⟨h.2⟩⟩
 have k1 : ∀ W, Below w.heap.size w W → Calls Tryd.prog 68 #[.slice B1 l1.length d1, .slice A1 l1.length c1] W fun e w' => e = .returned (.bool true) ∧ Aside0 (Below W.heap.size W w') := fun W hW => (KeptStrings_yes B1 d1 A1 c1 l1 W hm.h1 (Kd.C_below hm.r1 hW) hc1 (Kd.C_below hr1 hW)).mono fun _ _ h => ⟨h.1, ⟨h.2⟩⟩
 have k3 : ∀ W, Below w.heap.size w W → Calls Tryd.prog 69 #[.slice B3 l3.length d3, .slice A3 l3.length c3] W fun e w' => e = .returned (.bool true) ∧ Aside0 (Below W.heap.size W w') := fun W hW => (KeptRules_yes B3 d3 A3 c3 l3 W (hm.r3.below hW) hc3 (Kd.C_below hr3 hW)).mono fun _ _ h => ⟨h.1, ⟨h.2⟩⟩
 have CE' := Aside0.mk CE
 have ST := Aside0.mk st
 have K0 := Aside0.mk k0
 have K1 := Aside0.mk k1
 have K3 := Aside0.mk k3
 have HCS := Lib.hid hcs
 have HCS' := Lib.hid hcs'
 clear CE st k0 k1 k3 hm hr0 hr1 hr3 hcs hcs'
 go_enter Tryd.func29, Tryd.ntmps29
 go_wp2_with (first
  | (go_at_call 68; (with_reducible refine (K0.out _ ST.out.low).mono ?_); rintro e w1 ⟨rfl, b1⟩; have t1 := Aside0.mk (ST.out.more b1.out); clear b1; obtain ⟨⟨f0, f1, f2, f3⟩, g0, g1, g2, g3⟩ := CE'.out _ t1.out)
  | (go_at_call 68; (with_reducible refine (K1.out _ t1.out.low).mono ?_); rintro e w2 ⟨rfl, b2⟩; have t2 := Aside0.mk (t1.out.more b2.out); clear b2 f0 f1 f2 f3 g0 g1 g2 g3; obtain ⟨⟨f0, f1, f2, f3⟩, g0, g1, g2, g3⟩ := CE'.out _ t2.out)
  | (go_at_call 69; (with_reducible refine (K3.out _ t2.out.low).mono ?_); rintro e w3 ⟨rfl, b3⟩; have t3 := Aside0.mk (t2.out.more b3.out); clear b3))
 go_ret
 exact ⟨rfl, t3.out.low⟩
set_option maxHeartbeats 8000000 in
set_option maxRecDepth 100000 in
theorem LentGrammar_m (A0 : Option Addr) (c0 : Nat) (l0 : List ByteArray) (A1 : Option Addr) (c1 : Nat) (l1 : List ByteArray) (a2 : Int) (A3 : Option Addr) (c3 : Nat) (l3 : List S41) (w : World) (hr0 : Kd.C Kd.string w A0 l0.length l0) (hr1 : Kd.C Kd.string w A1 l1.length l1) (hr3 : Kd.C k41 w A3 l3.length l3)
 (b0 : l0.length < 8796093022207) (b1 : l1.length < 8796093022207) (b3 : l3.length < 4398046511104) (bx : ∀ x ∈ l3, x.f1.length < 17592186044415) :
 Calls Tryd.prog 26 #[.agg #[.slice A0 l0.length c0, .slice A1 l1.length c1, .int .i64 a2, .slice A3 l3.length c3]] w fun e w' => ∃ B0 d0 B1 d1 B3 d3, e = .returned (.agg #[.slice B0 l0.length d0, .slice B1 l1.length d1, .int .i64 a2, .slice B3 l3.length d3]) ∧ Aside0 (MG w' B0 d0 l0 B1 d1 l1 B3 d3 l3 ∧ Below w.heap.size w w') := by
 obtain ⟨cs, hcs⟩ : ∃ cs : Array Value, cs = #[.slice A0 l0.length c0, .slice A1 l1.length c1, .int .i64 a2, .slice A3 l3.length c3] := ⟨_, rfl⟩
 obtain ⟨cs', hcs'⟩ : ∃ cs : Array Value, cs = #[.slice none 0 0, .slice none 0 0, .int .i64 0, .slice none 0 0] := ⟨_, rfl⟩
 have CE : ∀ W, GG w cs cs' W → W.cell? ⟨w.heap.size, 0, none⟩ = some (.slice A0 l0.length c0) ∧ W.cell? ⟨w.heap.size, 1, none⟩ = some (.slice A1 l1.length c1) ∧ W.cell? ⟨w.heap.size, 2, none⟩ = some (.int .i64 a2) ∧ W.cell? ⟨w.heap.size, 3, none⟩ = some (.slice A3 l3.length c3) ∧ W.heap[w.heap.size + 1]? = some (.cells #[.slice none 0 0, .slice none 0 0, .int .i64 0, .slice none 0 0] 32 (0, 0)) := by
  intro W hW; subst hcs hcs'; obtain ⟨⟨h0, h1, h2, h3⟩, _⟩ := hW.cells; exact ⟨h0, h1, h2, h3, hW.2.2⟩
 have st : GG w cs cs' ((w.alloc (.cells #[.slice A0 l0.length c0, .slice A1 l1.length c1, .int .i64 a2, .slice A3 l3.length c3] 32)).alloc (.cells #[.slice none 0 0, .slice none 0 0, .int .i64 0, .slice none 0 0] 32)) := by subst hcs hcs'; exact GG.start w _ _
 have SF : ∀ W', GG w cs cs' W' → (W'.cell? ⟨w.heap.size, 0, none⟩ = some (.slice A0 l0.length c0) ∧ W'.cell? ⟨w.heap.size, 1, none⟩ = some (.slice A1 l1.length c1) ∧ W'.cell? ⟨w.heap.size, 2, none⟩ = some (.int .i64 a2) ∧ W'.cell? ⟨w.heap.size, 3, none⟩ = some (.slice A3 l3.length c3) ∧ W'.cell? ⟨w.heap.size + 1, 0, none⟩ = some (.slice none 0 0) ∧ W'.cell? ⟨w.heap.size + 1, 1, none⟩ = some (.slice none 0 0) ∧ W'.cell? ⟨w.heap.size + 1, 2, none⟩ = some (.int .i64 0) ∧ W'.cell? ⟨w.heap.size + 1, 3, none⟩ = some (.slice none 0 0) ∧ W'.frozen? ⟨w.heap.size + 1, 0, none⟩ = false ∧ W'.frozen? ⟨w.heap.size + 1, 1, none⟩ = false ∧ W'.frozen? ⟨w.heap.size + 1, 2, none⟩ = false ∧ W'.frozen? ⟨w.heap.size + 1, 3, none⟩ = false) := by
  intro W' hW
  obtain ⟨h0, h1, h2, h3, h4⟩ := CE W' hW
  have hb : Box (w.heap.size + 1) #[.slice none 0 0, .slice none 0 0, .int .i64 0, .slice none 0 0] 32 W' := h4
  have hf : ∀ j, W'.frozen? ⟨w.heap.size + 1, j, none⟩ = false := fun j => by unfold World.frozen?; rw [show W'.heap[(⟨w.heap.size + 1, j, none⟩ : Addr).block]? = _ from h4]; rfl
  exact ⟨h0, h1, h2, h3, hb.cell 0 _ rfl, hb.cell 1 _ rfl, hb.cell 2 _ rfl, hb.cell 3 _ rfl, hf 0, hf 1, hf 2, hf 3⟩
 have k0 : ∀ W, GG w cs cs' W → Calls Tryd.prog 63 #[.slice A0 l0.length c0] W fun e W' => (∃ B d, e = .returned (.slice B l0.length d) ∧ Aside0 (Kd.R Kd.string 9 W' w.heap.size (fun k => w.heap.size + 2 ≤ k) (.slice B (l0.length + 1) d) (l0 ++ [(⟨#[109, 97, 114, 107]⟩ : ByteArray)]) ∧ GG w cs cs' W' ∧ Below W.heap.size W W')) ∧ (W'.cell? ⟨w.heap.size, 0, none⟩ = some (.slice A0 l0.length c0) ∧ W'.cell? ⟨w.heap.size, 1, none⟩ = some (.slice A1 l1.length c1) ∧ W'.cell? ⟨w.heap.size, 2, none⟩ = some (.int .i64 a2) ∧ W'.cell? ⟨w.heap.size, 3, none⟩ = some (.slice A3 l3.length c3) ∧ W'.cell? ⟨w.heap.size + 1, 0, none⟩ = some (.slice none 0 0) ∧ W'.cell? ⟨w.heap.size + 1, 1, none⟩ = some (.slice none 0 0) ∧ W'.cell? ⟨w.heap.size + 1, 2, none⟩ = some (.int .i64 0) ∧ W'.cell? ⟨w.heap.size + 1, 3, none⟩ = some (.slice none 0 0) ∧ W'.frozen? ⟨w.heap.size + 1, 0, none⟩ = false ∧ W'.frozen? ⟨w.heap.size + 1, 1, none⟩ = false ∧ W'.frozen? ⟨w.heap.size + 1, 2, none⟩ = false ∧ W'.frozen? ⟨w.heap.size + 1, 3, none⟩ = false) := by
  intro W hW
  refine (LentStrings_m A0 c0 l0 W (Kd.C_below hr0 hW.low) b0).mono ?_
  rintro e w' ⟨B, d, rfl, h⟩
  exact ⟨⟨B, d, rfl, ⟨Kd.R_lower (Kd.R_mono (Kd.R_bound h.out.1) (fun k hk => Nat.le_trans hW.two hk.2.1)) (Nat.le_trans (by omega) hW.two), hW.more h.out.2, h.out.2⟩⟩, SF _ (hW.more h.out.2)⟩
 have k1 : ∀ W, GG w cs cs' W → Calls Tryd.prog 63 #[.slice A1 l1.length c1] W fun e W' => (∃ B d, e = .returned (.slice B l1.length d) ∧ Aside0 (Kd.R Kd.string 9 W' w.heap.size (fun k => w.heap.size + 2 ≤ k) (.slice B (l1.length + 1) d) (l1 ++ [(⟨#[109, 97, 114, 107]⟩ : ByteArray)]) ∧ GG w cs cs' W' ∧ Below W.heap.size W W')) ∧ (W'.cell? ⟨w.heap.size, 0, none⟩ = some (.slice A0 l0.length c0) ∧ W'.cell? ⟨w.heap.size, 1, none⟩ = some (.slice A1 l1.length c1) ∧ W'.cell? ⟨w.heap.size, 2, none⟩ = some (.int .i64 a2) ∧ W'.cell? ⟨w.heap.size, 3, none⟩ = some (.slice A3 l3.length c3) ∧ W'.cell? ⟨w.heap.size + 1, 0, none⟩ = some (.slice none 0 0) ∧ W'.cell? ⟨w.heap.size + 1, 1, none⟩ = some (.slice none 0 0) ∧ W'.cell? ⟨w.heap.size + 1, 2, none⟩ = some (.int .i64 0) ∧ W'.cell? ⟨w.heap.size + 1, 3, none⟩ = some (.slice none 0 0) ∧ W'.frozen? ⟨w.heap.size + 1, 0, none⟩ = false ∧ W'.frozen? ⟨w.heap.size + 1, 1, none⟩ = false ∧ W'.frozen? ⟨w.heap.size + 1, 2, none⟩ = false ∧ W'.frozen? ⟨w.heap.size + 1, 3, none⟩ = false) := by
  intro W hW
  refine (LentStrings_m A1 c1 l1 W (Kd.C_below hr1 hW.low) b1).mono ?_
  rintro e w' ⟨B, d, rfl, h⟩
  exact ⟨⟨B, d, rfl, ⟨Kd.R_lower (Kd.R_mono (Kd.R_bound h.out.1) (fun k hk => Nat.le_trans hW.two hk.2.1)) (Nat.le_trans (by omega) hW.two), hW.more h.out.2, h.out.2⟩⟩, SF _ (hW.more h.out.2)⟩
 have k3 : ∀ W, GG w cs cs' W → Calls Tryd.prog 64 #[.slice A3 l3.length c3] W fun e W' => (∃ B d, e = .returned (.slice B l3.length d) ∧ Aside0 (Kd.R kRx 41 W' w.heap.size (fun k => w.heap.size + 2 ≤ k) (.slice B (l3.length + 1) d) (mk1 l3 ++ [((⟨-7171, []⟩ : S41), false)]) ∧ GG w cs cs' W' ∧ Below W.heap.size W W')) ∧ (W'.cell? ⟨w.heap.size, 0, none⟩ = some (.slice A0 l0.length c0) ∧ W'.cell? ⟨w.heap.size, 1, none⟩ = some (.slice A1 l1.length c1) ∧ W'.cell? ⟨w.heap.size, 2, none⟩ = some (.int .i64 a2) ∧ W'.cell? ⟨w.heap.size, 3, none⟩ = some (.slice A3 l3.length c3) ∧ W'.cell? ⟨w.heap.size + 1, 0, none⟩ = some (.slice none 0 0) ∧ W'.cell? ⟨w.heap.size + 1, 1, none⟩ = some (.slice none 0 0) ∧ W'.cell? ⟨w.heap.size + 1, 2, none⟩ = some (.int .i64 0) ∧ W'.cell? ⟨w.heap.size + 1, 3, none⟩ = some (.slice none 0 0) ∧ W'.frozen? ⟨w.heap.size + 1, 0, none⟩ = false ∧ W'.frozen? ⟨w.heap.size + 1, 1, none⟩ = false ∧ W'.frozen? ⟨w.heap.size + 1, 2, none⟩ = false ∧ W'.frozen? ⟨w.heap.size + 1, 3, none⟩ = false) := by
  intro W hW
  refine (LentRules_m A3 c3 l3 W (Kd.C_below hr3 hW.low) b3 bx).mono ?_
  rintro e w' ⟨B, d, rfl, h⟩
  exact ⟨⟨B, d, rfl, ⟨Kd.R_lower (Kd.R_mono (Kd.R_bound h.out.1) (fun k hk => Nat.le_trans hW.two hk.2.1)) (Nat.le_trans (by omega) hW.two), hW.more h.out.2, h.out.2⟩⟩, SF _ (hW.more h.out.2)⟩
 obtain ⟨f0, f1, f2, f3, f4, f5, f6, f7, f8, f9, f10, f11⟩ := SF _ st
 have ST := Aside0.mk st
 have HCS := Lib.hid hcs
 have HCS' := Lib.hid hcs'
 have K0 := Aside0.mk k0
 have K1 := Aside0.mk k1
 have K3 := Aside0.mk k3
 clear CE st k0 k1 k3 hr0 hr1 hr3 hcs hcs' SF bx
 go_enter Tryd.func26, Tryd.ntmps26
 go_wp2_with fail
 go_region_held3 (fun W' => W'.cell? ⟨w.heap.size, 0, none⟩ = some (.slice A0 l0.length c0) ∧ W'.cell? ⟨w.heap.size, 1, none⟩ = some (.slice A1 l1.length c1) ∧ W'.cell? ⟨w.heap.size, 2, none⟩ = some (.int .i64 a2) ∧ W'.cell? ⟨w.heap.size, 3, none⟩ = some (.slice A3 l3.length c3))
  (go_keep)
  ((first
   | (go_at_call 63; (with_reducible refine (K0.out _ ?_).mono ?_); exact (by first | exact ST.out | exact ST.out.more (Below.refl _ _).drew); rintro e w1 ⟨⟨B0, d0, rfl, t1⟩, g0, g1, g2, g3, g4, g5, g6, g7, g8, g9, g10, g11⟩)
   | (go_at_call 63; (with_reducible refine (K1.out _ t1.out.2.1).mono ?_); rintro e w2 ⟨⟨B1, d1, rfl, t2⟩, g0, g1, g2, g3, g4, g5, g6, g7, g8, g9, g10, g11⟩)
   | (go_at_call 64; (with_reducible refine (K3.out _ t2.out.2.1).mono ?_); rintro e w3 ⟨⟨B3, d3, rfl, t3⟩, g0, g1, g2, g3, g4, g5, g6, g7, g8, g9, g10, g11⟩)))
 go_wp2_with fail
 refine bodyPost_ret (v := .agg #[.slice B0 l0.length d0, .slice B1 l1.length d1, .int .i64 a2, .slice B3 l3.length d3]) (by simp [results, Tryd.results26, go_sem, g4, g5, g6, g7]) rfl ⟨B0, d0, B1, d1, B3, d3, rfl, ⟨?_, ?_⟩⟩
 · have e0 := Kd.R_reads' (Kd.R_far (Kd.R_far (Kd.R_far (Kd.R_far (Kd.R_below (Kd.R_below t1.out.1 t2.out.2.2) t3.out.2.2) (p := ⟨w.heap.size + 1, 0, none⟩) (fun k hk => by dsimp only; omega) (.slice B0 l0.length d0)) (p := ⟨w.heap.size + 1, 1, none⟩) (fun k hk => by dsimp only; omega) (.slice B1 l1.length d1)) (p := ⟨w.heap.size + 1, 2, none⟩) (fun k hk => by dsimp only; omega) (.int .i64 a2)) (p := ⟨w.heap.size + 1, 3, none⟩) (fun k hk => by dsimp only; omega) (.slice B3 l3.length d3))
   have e1 := Kd.R_reads' (Kd.R_far (Kd.R_far (Kd.R_far (Kd.R_far (Kd.R_below t2.out.1 t3.out.2.2) (p := ⟨w.heap.size + 1, 0, none⟩) (fun k hk => by dsimp only; omega) (.slice B0 l0.length d0)) (p := ⟨w.heap.size + 1, 1, none⟩) (fun k hk => by dsimp only; omega) (.slice B1 l1.length d1)) (p := ⟨w.heap.size + 1, 2, none⟩) (fun k hk => by dsimp only; omega) (.int .i64 a2)) (p := ⟨w.heap.size + 1, 3, none⟩) (fun k hk => by dsimp only; omega) (.slice B3 l3.length d3))
   have e3 := MR.of (Kd.R_far (Kd.R_far (Kd.R_far (Kd.R_far t3.out.1 (p := ⟨w.heap.size + 1, 0, none⟩) (fun k hk => by dsimp only; omega) (.slice B0 l0.length d0)) (p := ⟨w.heap.size + 1, 1, none⟩) (fun k hk => by dsimp only; omega) (.slice B1 l1.length d1)) (p := ⟨w.heap.size + 1, 2, none⟩) (fun k hk => by dsimp only; omega) (.int .i64 a2)) (p := ⟨w.heap.size + 1, 3, none⟩) (fun k hk => by dsimp only; omega) (.slice B3 l3.length d3))
   rw [← e0.1] at e0
   rw [← e1.1] at e1
   exact ⟨e0.2.1, e0.2.2, e1.2.1, e1.2.2, e3⟩
 · have hb := t3.out.2.1.low
   exact (((hb.setCell (p := ⟨w.heap.size + 1, 0, none⟩) (by dsimp only; omega) _).setCell (p := ⟨w.heap.size + 1, 1, none⟩) (by dsimp only; omega) _).setCell (p := ⟨w.heap.size + 1, 2, none⟩) (by dsimp only; omega) _).setCell (p := ⟨w.heap.size + 1, 3, none⟩) (by dsimp only; omega) _
end Go.Proofs.YtjkifeladmhkoaaDoor.B
/- Lists that own their memory, written full and gone on with: the states of both loops, one append. -/
namespace Go.Proofs.YtjkifeladmhkoaaDoor.AP
open Go.RowKit YtjkifeladmhkoaaDoorW.PrintWords YtjkifeladmhkoaaDoorW.PrintLast YtjkifeladmhkoaaDoorW.PrintMore
open B (getD_lt getD_set C_pre)

section
variable {IK : IntKind} {E base : Nat} {vs : List OneV} {W W' w wo wq : World} {A : Option Addr} {n : Nat → Nat}

def mark (p q : Nat) : Int := 1000 * (p : Int) + (q : Int)
def mark2 (p q : Nat) : Int := 500000 + 1000 * (p : Int) + (q : Int)
def S1 (IK : IntKind) (E base : Nat) (w : World) (A : Option Addr) (vs : List OneV) (n : Nat → Nat) (i k : Nat) (W : World) : Prop :=
 (∃ Xs : List (List Int), Xs.length = vs.length ∧ (∀ p, p < vs.length → (Xs.getD p []).length = n p) ∧ (∀ p q, p < vs.length → q < n p → (p < i ∨ p = i ∧ q < k) → (Xs.getD p []).getD q 0 = mark p q) ∧ Own IK E base vs Xs W) ∧ All A vs W ∧ Below base w W
theorem S1.start {Xs : List (List Int)} (h : Own IK E base vs Xs w) (hl : Xs.length = vs.length) (hA : All A vs w) : S1 IK E base w A vs (fun p => (Xs.getD p []).length) 0 0 w :=
 ⟨⟨Xs, hl, fun _ _ => rfl, fun p q _ _ hh => by omega, h⟩, hA, Below.refl _ _⟩
theorem S1.next {i k : Nat} (h : S1 IK E base w A vs n i k W) (hk : n i ≤ k) : S1 IK E base w A vs n (i + 1) 0 W := by
 obtain ⟨⟨Xs, h1, h2, h3, h4⟩, h5, h6⟩ := h
 refine ⟨⟨Xs, h1, h2, fun p q hp hq hh => h3 p q hp hq ?_, h4⟩, h5, h6⟩
 rcases hh with hh | hh
 · by_cases e : p = i
   · subst e; exact .inr ⟨rfl, by omega⟩
   · exact .inl (by omega)
 · omega
theorem S1.sl {i k : Nat} (h : S1 IK E base w A vs n i k W) (hi : i < vs.length) : ∃ A' c, vd vs i = .slice A' (n i) c := by
 obtain ⟨⟨Xs, h1, h2, h3, h4⟩, h5, h6⟩ := h
 obtain ⟨A', c, e, _⟩ := RC.reads (h4 i hi)
 exact ⟨A', c, by rw [e, h2 i hi]⟩
theorem S1.step {i k : Nat} (h : S1 IK E base w A vs n i k W) (hi : i < vs.length) (hk : k < n i) (hb : ∀ ad, A = some ad → ∀ j, j < vs.length → (vd vs j).ownBlock ≠ some ad.block) :
 ∃ g c y, vd vs i = .slice (some ⟨g, 0, none⟩) (n i) c ∧ W.cell? ⟨g, k, none⟩ = some (.int IK y) ∧ W.frozen? ⟨g, k, none⟩ = false ∧ S1 IK E base w A vs n i (k + 1) (W.setCell ⟨g, k, none⟩ (.int IK (mark i k))) := by
 obtain ⟨⟨Xs, h1, h2, h3, h4⟩, h5, h6⟩ := h
 obtain ⟨g, c, e, hbg⟩ := RC.form (h4 i hi) (by rw [h2 i hi]; omega)
 rw [h2 i hi] at e
 have hR := h4 i hi
 rw [e] at hR
 obtain ⟨hc, hf⟩ := hR.cell k hk
 refine ⟨g, c, _, e, hc, hf, ⟨Xs.set i ((Xs.getD i []).set k (mark i k)), by rw [List.length_set]; exact h1, fun p hp => ?_, fun p q hp hq hh => ?_, h4.store h1 i hi g (n i) c e k _⟩, ?_, h6.setCell hbg _⟩
 · rw [getD_set]
   by_cases hpi : i = p
   · subst hpi; rw [if_pos ⟨rfl, by omega⟩, List.length_set]; exact h2 i hi
   · rw [if_neg (fun hh => hpi hh.1)]; exact h2 p hp
 · rw [getD_set]
   by_cases hpi : i = p
   · subst hpi
     rw [if_pos ⟨rfl, by omega⟩, getD_set]
     by_cases hkq : k = q
     · subst hkq; rw [if_pos ⟨rfl, by rw [h2 i hi]; omega⟩]
     · rw [if_neg (fun hh => hkq hh.1)]
       exact h3 i q hi hq (by omega)
   · rw [if_neg (fun hh => hpi hh.1)]
     exact h3 p q hp hq (by omega)
 · refine h5.move fun ad ha _ => Below.heap_setCell _ _ _ _ ?_
   intro e2
   have := hb ad ha i hi
   rw [e] at this
   exact this (by simp [Value.ownBlock]; exact e2.symm)

theorem Rds.blk {v : Value} {X : List Int} (h : Rds IK W v X) (hm : ∀ k, k < W.heap.size → v.ownBlock = some k → W'.heap[k]? = W.heap[k]?) : Rds IK W' v X := by
 refine h.cells (fun ad n c hv q hq => ?_)
 obtain ⟨ad', c', hv', hcl⟩ := h.cell (by omega)
 have : some ad = some ad' := by rw [hv] at hv'; injection hv'
 obtain rfl := Option.some.inj this
 have hlt := World.block_lt_of_cell? W _ (hcl q hq)
 rw [add_block] at hlt
 exact World.cell?_of_block (by rw [add_block]; exact hm ad.block hlt (by rw [hv]; rfl))
structure J (IK : IntKind) (E base : Nat) (wo : World) (v : Value) (X : List Int) (T : Nat → Int) (q : Nat) (l : Value) (wq : World) : Prop where
 own : wq.ownsRow base E 1 l (X.length + q) ((X ++ (List.range q).map T).map (Value.int IK)) ∨ (q = 0 ∧ l = v ∧ (∃ g, l = .slice (some ⟨g, 0, none⟩) X.length X.length ∧ base ≤ g))
 rds : Rds IK wq v X
 form : X = [] ∨ ∃ g c, v = .slice (some ⟨g, 0, none⟩) X.length c
 blk : ∀ k, l.ownBlock = some k → some k = v.ownBlock ∨ wo.heap.size ≤ k
 old : ∀ k, k < wo.heap.size → some k ≠ v.ownBlock → wq.heap[k]? = wo.heap[k]?
 low : Below base wo wq
theorem J.start {ok : Nat → Prop} {v : Value} {X : List Int} {T : Nat → Int} (h : RC IK E wo base ok v X) : J IK E base wo v X T 0 v wo := by
 obtain ⟨A', c, hv, hc, hr⟩ := h.reads
 refine ⟨?_, ⟨A', c, hv, hc, hr⟩, ?_, fun k hk => .inl hk.symm, fun _ _ _ => rfl, Below.refl _ _⟩
 · rcases h with h | ⟨g, cur, e, _, h2, _⟩
   · have := Kd.own_of_R (enc := Value.int IK) (h1 := fun _ => rfl) h
     exact .inl (by simpa [encs] using this)
   · exact .inr ⟨rfl, rfl, g, e, h2⟩
 · cases hX : X with
   | nil => exact .inl rfl
   | cons y r =>
    obtain ⟨g, c', e, _⟩ := h.form (by rw [hX]; simp)
    rw [hX] at e
    exact .inr ⟨g, c', e⟩
theorem J.alloc {v l : Value} {X : List Int} {T : Nat → Int} {q : Nat} (h : J IK E base wo v X T q l wq) (hbase : base ≤ wo.heap.size) (o : Obj) : J IK E base wo v X T q l (wq.alloc o) := by
 have hsz := h.low.size
 refine ⟨h.own.imp (fun h => h.alloc o) id, h.rds.blk (fun k hk _ => Below.heap_alloc wq o k hk), h.form, h.blk, fun k hk hne => ?_, h.low.alloc (by omega) o⟩
 rw [Below.heap_alloc wq o k (by omega)]
 exact h.old k hk hne
theorem J.room {v : Value} {X : List Int} {T : Nat → Int} {q g cap : Nat} (h : J IK E base wo v X T q (.slice (some ⟨g, 0, none⟩) (X.length + q) cap) wq) (hbase : base ≤ wo.heap.size) (ho : W'.ownsRow base E 1 (.slice (some ⟨g, 0, none⟩) (X.length + q + 1) cap) (X.length + q + 1) ((X ++ (List.range (q + 1)).map T).map (Value.int IK))) (hg : wq.grownBy W' (some g)) :
 J IK E base wo v X T (q + 1) (.slice (some ⟨g, 0, none⟩) (X.length + q + 1) cap) W' := by
 have hsz := h.low.size
 have hgb := h.blk g rfl
 have hbg := own_base ho g rfl
 refine ⟨.inl ho, ?_, h.form, fun k hk => ?_, fun k hk hne => ?_, h.low.grown hg (by omega) (fun k hk => by injection hk with hk; omega)⟩
 · by_cases hgv : some g = v.ownBlock
   · refine h.rds.cells (fun ad n c hv j hj => ?_)
     obtain ⟨ad', c', hv', hcl⟩ := h.rds.cell (by omega)
     have e1 : some ad = some ad' := by rw [hv] at hv'; injection hv'
     obtain rfl := Option.some.inj e1
     rw [hcl j hj]
     rcases h.form with hX | ⟨gv, cv, hf⟩
     · rw [hX] at hj; simp at hj
     · have e2 : some ad = some ⟨gv, 0, none⟩ := by rw [hv] at hf; injection hf
       obtain rfl := Option.some.inj e2
       have e3 : g = gv := by rw [hv] at hgv; simpa [Value.ownBlock] using hgv
       subst e3
       have := ho.cellAt j (by omega)
       have e4 : (⟨g, 0, none⟩ : Addr).add j = ⟨g, j, none⟩ := by simp [Addr.add]; omega
       rw [e4, this, List.getElem?_map, List.getElem?_append_left hj, List.getElem?_eq_getElem hj, List.getD_eq_getElem?_getD, List.getElem?_eq_getElem hj]
       rfl
   · exact h.rds.blk (fun k hk hkv => hg.block k hk (by rw [← hkv]; exact fun e => hgv e.symm))
 · have : g = k := by simpa [Value.ownBlock] using hk
   rw [← this]; exact hgb
 · rw [hg.block k (by omega) (fun e => by
    injection e with e
    subst e
    rcases hgb with h1 | h1
    · exact hne h1
    · omega)]
   exact h.old k hk hne
theorem J.grow {v l l' : Value} {X : List Int} {T : Nat → Int} {q : Nat} (h : J IK E base wo v X T q l wq) (hbase : base ≤ wo.heap.size) (ho : W'.ownsRow wq.heap.size E 1 l' (X.length + q + 1) ((X ++ (List.range (q + 1)).map T).map (Value.int IK))) (hg : wq.grownBy W' none) :
 J IK E base wo v X T (q + 1) l' W' := by
 have hsz := h.low.size
 refine ⟨.inl (ho.mono (by omega)), h.rds.blk (fun k hk _ => hg.block k hk (by simp)), h.form, fun k hk => ?_, fun k hk hne => ?_, h.low.grown hg (by omega) (fun k hk => by cases hk)⟩
 · right
   have := own_base ho k hk
   omega
 · rw [hg.block k (by omega) (by simp)]
   exact h.old k hk hne
theorem wp_J {ops : Array Oper} {rest : List Oper} {o : Oper} {a : Act} {Q : Exit → Act → World → Prop} (hgd : o.guard = none) (s x : Operand) (t : TypeId) (hop : o.op = .call { callee := .builtin .append, args := #[s, x], argTypes := #[t, t] })
 (ht : Tryd.prog.underlying t = some (.slice E)) (i : TypeInfo) (z : Value) (hi : Tryd.prog.info? E = some i) (hi1 : i.zero = some z) (hi2 : i.size = 1) (hi3 : i.bytes = 8) (hz : z.cells.size = 1)
 {v l : Value} {X : List Int} {T : Nat → Int} {q : Nat} (h : J IK E base wo v X T q l wq) (hbase : base ≤ wo.heap.size) (hs : a.eval s = l) (hx : a.eval x = .slice (some ⟨wq.heap.size, 0, none⟩) 1 1) (hb : X.length + q + 1 ≤ 1000000000)
 (K : ∀ l' w', J IK E base wo v X T (q + 1) l' w' → wpList Tryd.prog ops Q rest (a.put o.dst l') w') : wpList Tryd.prog ops Q (o :: rest) a (wq.alloc (.cells #[.int IK (T q)] E)) := by
 have h1 := h.alloc hbase (.cells #[.int IK (T q)] E)
 have hnews : ∀ j u, [Value.int IK (T q)][j]? = some u → (wq.alloc (.cells #[.int IK (T q)] E)).cell? ((⟨wq.heap.size, 0, none⟩ : Addr).add j) = some u := by
  intro j u hj
  have : j = 0 := by have := (List.getElem?_eq_some_iff.1 hj).1; simpa using this
  subst this
  have : u = .int IK (T q) := by simpa using hj.symm
  subst this
  show (wq.alloc (.cells #[.int IK (T q)] E)).cell? ⟨wq.heap.size, 0, none⟩ = _
  go_simp
 have hlist : (X ++ (List.range q).map T).map (Value.int IK) ++ [.int IK (T q)] = (X ++ (List.range (q + 1)).map T).map (Value.int IK) := by simp [List.range_succ]
 have hlen : ((X ++ (List.range q).map T).map (Value.int IK)).length = X.length + q := by simp
 have hone : ∀ u ∈ [Value.int IK (T q)], u.oneCell' = true := fun u hu => by rw [List.mem_singleton.1 hu]; rfl
 rcases id h1.own with hown0 | ⟨rfl, hlv, g, hlg, hbg⟩
 rcases id hown0 with ⟨_, ⟨rfl, h0⟩ | ⟨g, cap, cur, rfl, _, _, hn, hcap, _⟩⟩
 · refine wpList_append_grows _ hgd s x t hop E i z 1 8 ht hi hi1 hi2 hi3 hz (by decide) none 0 0 [] hs (fun _ => ⟨rfl, rfl⟩) rfl (fun b hb => by cases hb) ⟨wq.heap.size, 0, none⟩ 1 1 [.int IK (T q)] hx rfl hnews hone (by decide) (by decide) (by decide) fun l' w' ho hg => ?_
   refine K l' w' (h1.grow hbase ?_ hg)
   have e0 : (X ++ (List.range q).map T).map (Value.int IK) = [] := List.eq_nil_of_length_eq_zero (by rw [hlen]; exact h0)
   rw [← hlist, e0, h0]
   exact ho
 · by_cases hr : X.length + q + 1 ≤ cap
   · refine wpList_append_fits _ hgd s x t hop base E i 1 ht hi hi2 g (X.length + q) cap _ hs hown0 ⟨wq.heap.size, 0, none⟩ 1 1 [.int IK (T q)] hx rfl hnews hone hr fun w' ho hg => ?_
     rw [hlist] at ho
     exact K _ w' (h1.room hbase ho hg)
   · have hown := hown0
     refine wpList_append_grows _ hgd s x t hop E i z 1 8 ht hi hi1 hi2 hi3 hz (by decide) (some ⟨g, 0, none⟩) (X.length + q) cap _ hs (fun e => by cases e) (by rw [hlen]; omega) (fun b hb j u hj => ?_) ⟨wq.heap.size, 0, none⟩ 1 1 [.int IK (T q)] hx rfl hnews hone (by omega) (by unfold maxLen; omega) (by omega) fun l' w' ho hg => ?_
     · obtain rfl := Option.some.inj hb
       have hj' := (List.getElem?_eq_some_iff.1 hj).1
       rw [hlen] at hj'
       have := hown.cellAt j (by omega)
       rw [hj] at this
       have e4 : (⟨g, 0, none⟩ : Addr).add j = ⟨g, j, none⟩ := by simp [Addr.add]; omega
       rw [e4]; exact this
     · rw [hlist] at ho
       exact K l' w' (h1.grow hbase ho hg)
 · subst hlg
   refine wpList_append_grows _ hgd s x t hop E i z 1 8 ht hi hi1 hi2 hi3 hz (by decide) (some ⟨g, 0, none⟩) X.length X.length (X.map (Value.int IK)) hs (fun e => by cases e) (by simp) (fun b hb j u hj => ?_) ⟨wq.heap.size, 0, none⟩ 1 1 [.int IK (T 0)] hx rfl hnews hone (by omega) (by unfold maxLen; omega) (by omega) fun l' w' ho hg => ?_
   · obtain rfl := Option.some.inj hb
     have hj' := (List.getElem?_eq_some_iff.1 hj).1
     rw [List.length_map] at hj'
     obtain ⟨ad', c', hv', hcl⟩ := h1.rds.cell (by omega)
     have e1 : (some ⟨g, 0, none⟩ : Option Addr) = some ad' := by
      have := congrArg (fun u : Value => match u with | .slice A _ _ => A | _ => none) (hlv.trans hv')
      exact this
     obtain rfl := Option.some.inj e1
     rw [hcl j hj']
     rw [List.getElem?_map, List.getElem?_eq_getElem hj'] at hj
     rw [← hj, List.getD_eq_getElem?_getD, List.getElem?_eq_getElem hj']; rfl
   · have e0 : X.map (Value.int IK) ++ [.int IK (T 0)] = (X ++ (List.range (0 + 1)).map T).map (Value.int IK) := by simp [List.range_succ]
     rw [e0] at ho
     exact K l' w' (h1.grow (l' := l') hbase ho hg)
end
theorem J.sl {IK : IntKind} {E base : Nat} {wo wq : World} {v l : Value} {X : List Int} {T : Nat → Int} {q : Nat} (h : J IK E base wo v X T q l wq) : ∃ A c, l = .slice A (X.length + q) c := by
 rcases h.own with ho | ⟨rfl, _, g, e, _⟩
 · rcases ho.2 with ⟨rfl, h0⟩ | ⟨g, cap, cur, rfl, _⟩
   · rw [h0]; exact ⟨_, _, rfl⟩
   · exact ⟨_, _, rfl⟩
 · exact ⟨_, _, e⟩
end Go.Proofs.YtjkifeladmhkoaaDoor.AP
/- Lists that own their memory, gone on with one by one: the state of the loop, one step. -/
namespace Go.Proofs.YtjkifeladmhkoaaDoor.AP
open Go.RowKit YtjkifeladmhkoaaDoorW.PrintWords YtjkifeladmhkoaaDoorW.PrintLast YtjkifeladmhkoaaDoorW.PrintMore
open B (getD_lt getD_set C_pre)

section
variable {IK : IntKind} {E ES base : Nat} {vs : List OneV} {Xs : List (List Int)} {W W' w wo wq : World} {A : Option Addr}

def Dis (vs : List OneV) : Prop := ∀ p j, p < vs.length → j < vs.length → j ≠ p → ∀ k, (vd vs p).ownBlock = some k → some k ≠ (vd vs j).ownBlock
theorem Own.dis (h : Own IK E base vs Xs W) : Dis vs := fun p j hp hj hne k hk => (RC.lo (h p hp) k hk).1 j hj hne
def S3 (IK : IntKind) (E ES base : Nat) (w : World) (A : Option Addr) (vs : List OneV) (Xs : List (List Int)) (i : Nat) (mv : Value) (W : World) : Prop :=
 (∃ us : List OneV, us.length = i ∧ Kd.R kV ES W base (fun _ => True) mv us ∧ (∀ p, p < i → Rds IK W (vd us p) (Xs.getD p [] ++ (List.range 30).map (mark2 p))) ∧ (∀ p, p < i → ∀ k, (vd us p).ownBlock = some k → k < W.heap.size ∧ (∀ j, i ≤ j → j < vs.length → some k ≠ (vd vs j).ownBlock) ∧ mv.ownBlock ≠ some k)) ∧
 (∀ p, i ≤ p → p < vs.length → RC IK E W base (okO vs p) (vd vs p) (Xs.getD p [])) ∧ (∀ p, p < vs.length → Rds IK W (vd vs p) (Xs.getD p [])) ∧
 (∀ p, p < vs.length → ∀ k, (vd vs p).ownBlock = some k → k < W.heap.size ∧ mv.ownBlock ≠ some k) ∧ (∀ ad, A = some ad → 0 < vs.length → ad.block < W.heap.size ∧ mv.ownBlock ≠ some ad.block) ∧ All A vs W ∧ Below base w W
theorem S3.start (h : Own IK E base vs Xs W) (hA : All A vs W) (hB : Below base w W) : S3 IK E ES base w A vs Xs 0 (.slice none 0 0) W :=
 ⟨⟨[], rfl, Kd.R_nil _ _ _ _ _, fun p hp => by omega, fun p hp => by omega⟩, fun p _ hp => h p hp, fun p hp => h.reads p hp, fun p hp k hk => ⟨(h.lo p hp k hk).2, by simp [Value.ownBlock]⟩, fun ad ha hp => ⟨hA.lt ad ha hp, by simp [Value.ownBlock]⟩, hA, hB⟩
theorem S3.goes {i : Nat} {mv : Value} (h : S3 IK E ES base w A vs Xs i mv wo) (hi : i < vs.length) : J IK E base wo (vd vs i) (Xs.getD i []) (mark2 i) 0 (vd vs i) wo := J.start (h.2.1 i (Nat.le_refl _) hi)
theorem vd_left (us : List OneV) (x : OneV) (p : Nat) (hp : p < us.length) : vd (us ++ [x]) p = vd us p := by
 unfold vd
 rw [getD_lt _ _ _ (by rw [List.length_append]; omega), getD_lt _ _ _ hp, List.getElem_append_left hp]
theorem vd_last (us : List OneV) (x : OneV) : vd (us ++ [x]) us.length = x.1 := by
 unfold vd
 rw [getD_lt _ _ _ (by rw [List.length_append]; simp), List.getElem_append_right (Nat.le_refl _)]
 simp
theorem wp_more {ops : Array Oper} {rest : List Oper} {o : Oper} {a : Act} {Q : Exit → Act → World → Prop} (hgd : o.guard = none) (s x : Operand) (t : TypeId) (hop : o.op = .call { callee := .builtin .append, args := #[s, x], argTypes := #[t, t] })
 (ht : Tryd.prog.underlying t = some (.slice ES)) (hinfo : (Tryd.prog.info? ES).map (fun i => (i.zero, i.size, i.bytes)) = some (some (.slice none 0 0), 1, 24)) (hbase : base ≤ w.heap.size) (hm : vs.length ≤ 1000000)
 (hb : ∀ ad, A = some ad → ∀ j, j < vs.length → (vd vs j).ownBlock ≠ some ad.block) (hdis : Dis vs)
 {i : Nat} {mv l : Value} (h : S3 IK E ES base w A vs Xs i mv wo) (hi : i < vs.length) (hJ : J IK E base wo (vd vs i) (Xs.getD i []) (mark2 i) 30 l wq) (hs : a.eval s = mv) (hx : a.eval x = .slice (some ⟨wq.heap.size, 0, none⟩) 1 1)
 (K : ∀ mv' w', S3 IK E ES base w A vs Xs (i + 1) mv' w' → wpList Tryd.prog ops Q rest (a.put o.dst mv') w') : wpList Tryd.prog ops Q (o :: rest) a (wq.alloc (.cells #[l] ES)) := by
 obtain ⟨⟨us, hul, hR, hU, hUb⟩, hrow, hrd, hvb, hAb, hAll, hlow⟩ := h
 have hJown := hJ.own.resolve_right (fun e => by have := e.1; omega)
 have hone : l.oneCell' = true := by
  rcases hJown.2 with ⟨rfl, _⟩ | ⟨g, cap, cur, rfl, _⟩ <;> rfl
 have hq := hJ.low.size
 have hmvlt : ∀ k, mv.ownBlock = some k → k < wo.heap.size := fun k hk => Kd.R_lt hR k hk
 have hRt : Kd.R kV ES wo base (fun k => mv.ownBlock = some k) mv us := Kd.R_of_own (Kd.own_of_R hR) (fun k hk => hk)
 have hRq : Kd.R kV ES wq base (fun _ => True) mv us := Kd.R_mono (Kd.R_step hRt (fun k hk hlt => hJ.old k hlt (fun e => (hvb i hi k e.symm).2 hk))) (fun _ _ => trivial)
 have hwb := hlow.size
 refine Kd.R_append kV (w0 := w) base hgd s x t ES (.slice none 0 0) 24 hop ht hinfo rfl (by decide) (by decide) mv us ⟨l, hone⟩ [l] (fun _ => True) (fun _ => False) hs hx rfl (fun _ hk => hk.elim) (fun _ _ => trivial) hRq (hlow.trans hJ.low) (by omega) (by omega) fun mv' w' hR' hB' hg hat => K mv' w' ?_
 have hgs := hg.size
 have tr : ∀ k, k < wo.heap.size → some k ≠ (vd vs i).ownBlock → mv.ownBlock ≠ some k → w'.heap[k]? = wo.heap[k]? := fun k h1 h2 h3 => by
  rw [hg.block k (by omega) (fun e => h3 e.symm)]
  exact hJ.old k h1 h2
 have hmv' : ∀ k, k < wq.heap.size → mv.ownBlock ≠ some k → mv'.ownBlock ≠ some k := fun k h1 h2 e => by
  rcases hat with h3 | ⟨b, h3, h4⟩
  · exact h2 (h3 ▸ e)
  · rw [h3] at e
    injection e with e
    omega
 have hlr : Rds IK wq l (Xs.getD i [] ++ (List.range 30).map (mark2 i)) := by
  have ho := hJown
  have hlen : ((Xs.getD i [] ++ (List.range 30).map (mark2 i))).length = (Xs.getD i []).length + 30 := by simp
  have : Kd.R (Kd.int IK) E wq base (fun _ => True) l (Xs.getD i [] ++ (List.range 30).map (mark2 i)) := Kd.R_of_own (enc := Value.int IK) (h1 := fun _ => rfl) (by rw [hlen]; exact ho) (fun _ _ => trivial)
  obtain ⟨A', c, hv, hc, hr⟩ := Kd.R_reads this
  exact ⟨A', c, hv, hc, hr⟩
 have hlb : ∀ k, l.ownBlock = some k → k < wq.heap.size ∧ mv.ownBlock ≠ some k ∧ ∀ j, i + 1 ≤ j → j < vs.length → some k ≠ (vd vs j).ownBlock := fun k hk => by
  refine ⟨own_lt hJown k hk, fun e => ?_, fun j hj1 hj2 e => ?_⟩
  · have := hmvlt k e
    rcases hJ.blk k hk with h1 | h1
    · exact (hvb i hi k h1.symm).2 e
    · omega
  · rcases hJ.blk k hk with h1 | h1
    · exact hdis i j hi hj2 (by omega) k h1.symm e
    · have := (hvb j hj2 k e.symm).1
      omega
 have hvr : ∀ p, p < vs.length → Rds IK w' (vd vs p) (Xs.getD p []) := fun p hp => by
  by_cases e : p = i
  · subst e
    exact hJ.rds.blk (fun k hk hkv => hg.block k hk (fun e => (hvb p hp k hkv).2 e.symm))
  · exact (hrd p hp).blk (fun k hk hkv => tr k hk (hdis p i hp hi (fun e' => e e'.symm) k hkv) (hvb p hp k hkv).2)
 refine ⟨⟨us ++ [⟨l, hone⟩], by rw [List.length_append, hul]; rfl, hR', fun p hp => ?_, fun p hp k hk => ?_⟩, fun p hp1 hp2 => ?_, hvr, fun p hp k hk => ?_, fun ad ha hp => ?_, ?_, hB'⟩
 · by_cases e : p = i
   · subst e
     rw [← hul, vd_last, hul]
     exact hlr.blk (fun k hk hkv => hg.block k hk (fun e => (hlb k hkv).2.1 e.symm))
   · rw [vd_left us _ p (by omega)]
     exact (hU p (by omega)).blk (fun k hk hkv => by
      obtain ⟨h1, h2, h3⟩ := hUb p (by omega) k hkv
      exact tr k h1 (h2 i (Nat.le_refl _) hi) h3)
 · by_cases e : p = i
   · subst e
     rw [← hul, vd_last] at hk
     obtain ⟨h1, h2, h3⟩ := hlb k hk
     exact ⟨by omega, h3, hmv' k h1 h2⟩
   · rw [vd_left us _ p (by omega)] at hk
     obtain ⟨h1, h2, h3⟩ := hUb p (by omega) k hk
     exact ⟨by omega, fun j hj1 hj2 => h2 j (by omega) hj2, hmv' k (by omega) h3⟩
 · have h0 := hrow p (by omega) hp2
   have h1 : RC IK E wo base (fun k => (vd vs p).ownBlock = some k) (vd vs p) (Xs.getD p []) := h0.weak (fun k hk => hk)
   have h2 := h1.step (W' := w') (fun k hk hlt => tr k hlt (hdis p i hp2 hi (by omega) k hk) (hvb p hp2 k hk).2)
   exact h2.weak (fun k hk => (h0.lo k hk).1)
 · obtain ⟨h1, h2⟩ := hvb p hp k hk
   exact ⟨by omega, hmv' k (by omega) h2⟩
 · obtain ⟨h1, h2⟩ := hAb ad ha hp
   exact ⟨by omega, hmv' _ (by omega) h2⟩
 · refine hAll.move fun ad ha hp => ?_
   obtain ⟨h1, h2⟩ := hAb ad ha hp
   exact tr _ h1 (fun e => hb ad ha i hi e.symm) h2
end
end Go.Proofs.YtjkifeladmhkoaaDoor.AP
/- kit.ApartSets: lists that own their memory, none sharing with another: true. -/
namespace Go.Proofs.YtjkifeladmhkoaaDoor.AP
open Go.RowKit YtjkifeladmhkoaaDoorW.PrintWords YtjkifeladmhkoaaDoorW.PrintLast YtjkifeladmhkoaaDoorW.PrintMore
open B (getD_lt getD_set C_pre)

end Go.Proofs.YtjkifeladmhkoaaDoor.AP
/- Where two grammars' boxes lie; rows of sets that calls have made, pairwise apart. -/
namespace Go.Proofs.YtjkifeladmhkoaaDoor.St
open Go.RowKit YtjkifeladmhkoaaDoorW.PrintWords YtjkifeladmhkoaaDoorW.PrintLast YtjkifeladmhkoaaDoorW.PrintMore
open B AP E8 F Es Er

def GW (w : World) (cs : Array Value) (W : World) : Prop := Below w.heap.size w W ∧ Box w.heap.size cs 32 W
theorem GW.start (w : World) (cs : Array Value) : GW w cs (w.alloc (.cells cs 32)) := ⟨(Below.refl _ w).alloc (Nat.le_refl _) _, Box.new w _ _⟩
theorem GW.low {w : World} {cs : Array Value} {W : World} (h : GW w cs W) : Below w.heap.size w W := h.1
theorem GW.more {w : World} {cs : Array Value} {W W' : World} (h : GW w cs W) (hb : Below W.heap.size W W') : GW w cs W' := ⟨h.1.trans (hb.mono h.1.size), h.2.below hb⟩
def TN (w w1 : World) (cs bs : Array Value) (W : World) : Prop := Below w.heap.size w W ∧ Below w1.heap.size w1 W ∧ Box w.heap.size cs 32 W ∧ Box w1.heap.size bs 32 W
theorem TN.low {w w1 : World} {cs bs : Array Value} {W : World} (h : TN w w1 cs bs W) : Below w.heap.size w W := h.1
theorem TN.low1 {w w1 : World} {cs bs : Array Value} {W : World} (h : TN w w1 cs bs W) : Below w1.heap.size w1 W := h.2.1
theorem Box.in_ {b : Nat} {cs : Array Value} {t : TypeId} {W : World} (h : Box b cs t W) : b < W.heap.size := by
 have h2 : W.heap[b]? = some (.cells cs t (0, 0)) := h
 rcases Nat.lt_or_ge b W.heap.size with h1 | h1
 · exact h1
 · rw [Array.getElem?_eq_none h1] at h2; cases h2
theorem TN.base {w w1 : World} {cs bs : Array Value} {W W' : World} (h : TN w w1 cs bs W) (base : Nat) (hb : Below base W W') (h0 : w.heap.size < base) (h1 : w1.heap.size < base) (hbW : base ≤ W.heap.size) : TN w w1 cs bs W' :=
 ⟨h.1.trans (hb.mono (by omega)), h.2.1.trans (hb.mono (by omega)), (hb.block _ h0).trans h.2.2.1, (hb.block _ h1).trans h.2.2.2⟩
theorem TN.more {w w1 : World} {cs bs : Array Value} {W W' : World} (h : TN w w1 cs bs W) (hb : Below W.heap.size W W') : TN w w1 cs bs W' := h.base W.heap.size hb (Box.in_ h.2.2.1) (Box.in_ h.2.2.2) (Nat.le_refl _)
theorem TN.cells {w w1 : World} {v0 v1 v2 v3 u0 u1 u2 u3 : Value} {W : World} (h : TN w w1 #[v0, v1, v2, v3] #[u0, u1, u2, u3] W) : (W.cell? ⟨w.heap.size, 0, none⟩ = some v0 ∧ W.cell? ⟨w.heap.size, 1, none⟩ = some v1 ∧ W.cell? ⟨w.heap.size, 2, none⟩ = some v2 ∧ W.cell? ⟨w.heap.size, 3, none⟩ = some v3) ∧
 W.cell? ⟨w1.heap.size, 0, none⟩ = some u0 ∧ W.cell? ⟨w1.heap.size, 1, none⟩ = some u1 ∧ W.cell? ⟨w1.heap.size, 2, none⟩ = some u2 ∧ W.cell? ⟨w1.heap.size, 3, none⟩ = some u3 :=
 ⟨⟨h.2.2.1.cell 0 _ rfl, h.2.2.1.cell 1 _ rfl, h.2.2.1.cell 2 _ rfl, h.2.2.1.cell 3 _ rfl⟩, h.2.2.2.cell 0 _ rfl, h.2.2.2.cell 1 _ rfl, h.2.2.2.cell 2 _ rfl, h.2.2.2.cell 3 _ rfl⟩
abbrev LaterT (w w1 : World) (cs bs : Array Value) (F : Nat) (args : Array Value) (v : Value) : Prop := ∀ (W : World), TN w w1 cs bs W → Calls Tryd.prog F args W fun e w' => e = .returned v ∧ Aside0 (TN w w1 cs bs w')
theorem LaterT.of {w w1 : World} {cs bs : Array Value} {F : Nat} {args : Array Value} {v : Value} (h : ∀ (W : World), TN w w1 cs bs W → Calls Tryd.prog F args W fun e w' => e = .returned v ∧ Below W.heap.size W w') : LaterT w w1 cs bs F args v :=
 fun W hW => (h W hW).mono fun _ _ ⟨he, hb⟩ => ⟨he, ⟨hW.more hb⟩⟩

def Pair (lo hi : Nat) (u v : OneV) (X Y : List Int) (W : World) : Prop :=
 Kd.R (Kd.int .u64) 45 W lo (fun k => (lo ≤ k ∧ k < hi) ∧ some k ≠ v.1.ownBlock) u.1 X ∧ Kd.R (Kd.int .u64) 45 W lo (fun k => (lo ≤ k ∧ k < hi) ∧ some k ≠ u.1.ownBlock) v.1 Y
theorem Pair.below {lo hi : Nat} {u v : OneV} {X Y : List Int} {W W' : World} (h : Pair lo hi u v X Y W) (hb : Below W.heap.size W W') : Pair lo hi u v X Y W' := ⟨Kd.R_below h.1 hb, Kd.R_below h.2 hb⟩
end Go.Proofs.YtjkifeladmhkoaaDoor.St
/- ends.Chain beside the document's Chain, whatever the grammar; its list stands in a block of its own. -/
namespace Go.Proofs.YtjkifeladmhkoaaDoor.Cx
open Go.RowKit YtjkifeladmhkoaaDoorW.PrintWords YtjkifeladmhkoaaDoorW.PrintLast YtjkifeladmhkoaaDoorW.PrintMore
open B AP E8 F Es Er St

def Mid3 (lo hi : Nat) (v : Value) (X : List Int) (W : World) : Prop := RC .i64 3 W lo (fun k => lo ≤ k ∧ k < hi) v X
theorem Mid3.below {lo hi : Nat} {v : Value} {X : List Int} {W W' : World} (h : Mid3 lo hi v X W) (hb : Below W.heap.size W W') : Mid3 lo hi v X W' := RC.below h hb
theorem Mid3.nil (lo hi : Nat) (W : World) : Mid3 lo hi (.slice none 0 0) [] W := .inl (Kd.R_nil _ _ _ _ _)
theorem chain_len {l0 l1 : List ByteArray} {a2 : Int} {R : List S41} {i tm : Int} {r : Bool} : (chainG l0 l1 a2 R i tm r).1.length ≤ 60 := by
 unfold chainG
 by_cases hp : (chkG l0 l1 a2 R).1 = 0
 · rw [if_pos hp]
   obtain ⟨q1, q2, q3, q4, q5, q6, q7⟩ := chk_ok hp
   by_cases ho : i < 0 ∨ (l1.length : Int) ≤ i ∨ tm < 0 ∨ (l0.length : Int) ≤ tm
   · rw [if_pos ho]; simp
   · rw [if_neg ho]
     by_cases hz : (farF r tm.toNat l1.length R).getD i.toNat 0 = 0
     · rw [if_pos hz]; simp
     · rw [if_neg hz]
       dsimp only
       have hF := (farF_far (r := r) (tm := tm.toNat) q7).rng i.toNat (by omega)
       have hW := (walkC_ch (farF_far (r := r) (tm := tm.toNat) q7) q7 (((farF r tm.toNat l1.length R).getD i.toNat 0).toNat - 1) i.toNat (by omega) (by omega)).2
       rw [show ((farF r tm.toNat l1.length R).getD i.toNat 0).toNat - 1 + 1 = ((farF r tm.toNat l1.length R).getD i.toNat 0).toNat from by omega] at hW
       omega
 · rw [if_neg hp]; simp
theorem Chain_x (ad : Int → Addr) (l0 l1 : List ByteArray) (a2 : Int) (l3 : List S41) (i tm : Int) (r : Bool) (A0 : Option Addr) (c0 : Nat) (A1 : Option Addr) (c1 : Nat) (A3 : Option Addr) (c3 : Nat) (w : World) (hs : SentsK ad w) (hr0 : Kd.C Kd.string w A0 l0.length l0) (hc0 : l0.length ≤ c0) (hr1 : Kd.C Kd.string w A1 l1.length l1) (hc1 : l1.length ≤ c1) (hr3 : Kd.C k41 w A3 l3.length l3) (hc3 : l3.length ≤ c3) :
 Calls Tryd.prog 15 #[.agg #[.slice A0 l0.length c0, .slice A1 l1.length c1, .int .i64 a2, .slice A3 l3.length c3], .int .i64 i, .int .i64 tm, .bool r] w fun e w' => ∃ L C E, e = .returned (.tuple #[.slice L (chainG l0 l1 a2 l3 i tm r).1.length C, E]) ∧ Aside0 (Mid3 w.heap.size w'.heap.size (.slice L (chainG l0 l1 a2 l3 i tm r).1.length C) (chainG l0 l1 a2 l3 i tm r).1 w' ∧ ErrW ad w' E (chainP l0 l1 a2 l3 i tm r) ∧ Below w.heap.size w w') := by
 have kC := fun W (hb : Below w.heap.size w W) => Check_any ad A0 c0 l0 A1 c1 l1 a2 A3 c3 l3 W (hs.below hb) (Kd.C_below hr0 hb) hc0 (Kd.C_below hr1 hb) hc1 (Kd.C_below hr3 hb) hc3
 have hlen := chain_len (l0 := l0) (l1 := l1) (a2 := a2) (R := l3) (i := i) (tm := tm) (r := r)
 unfold chainG chainP
 unfold chainG at hlen
 by_cases hp : (chkG l0 l1 a2 l3).1 = 0
 · rw [if_pos hp, if_pos hp]
   rw [if_pos hp] at hlen
   obtain ⟨q1, q2, q3, q4, q5, q6, q7⟩ := chk_ok hp
   have kC0 : ∀ W, Below w.heap.size w W → Calls Tryd.prog 52 #[.agg #[.slice A0 l0.length c0, .slice A1 l1.length c1, .int .i64 a2, .slice A3 l3.length c3]] W fun e w' => e = .returned .nilIface ∧ Below W.heap.size W w' := fun W hb => (kC W hb).mono fun e w' ⟨⟨v, he, hv⟩, hb'⟩ => ⟨by rw [he, hv.nil hp], hb'⟩
   by_cases ho : i < 0 ∨ (l1.length : Int) ≤ i ∨ tm < 0 ∨ (l0.length : Int) ≤ tm
   · rw [if_pos ho, if_pos ho]
     refine (Chain_arg _ A0 l0.length c0 A1 l1.length c1 a2 A3 l3.length c3 i tm r w (SentsK.arg hs) (by omega) (by omega) kC0 ho).mono ?_
     rintro e w' ⟨rfl, hb⟩
     exact ⟨none, 0, .iface 190 (.pointer (some (ad 1))), rfl, ⟨Mid3.nil _ _ _, ErrW.sent (by decide) (by decide), hb⟩⟩
   · rw [if_neg ho, if_neg ho]
     rw [if_neg ho] at hlen
     obtain ⟨i, rfl⟩ : ∃ n : Nat, i = n := ⟨i.toNat, by omega⟩
     obtain ⟨tm, rfl⟩ : ∃ n : Nat, tm = n := ⟨tm.toNat, by omega⟩
     rw [Int.toNat_natCast, Int.toNat_natCast] at hlen ⊢
     refine (Chain_ok _ A0 c0 l0 A1 c1 l1 a2 A3 c3 l3 r i tm w hr3 hc3 (SentsK.none_ hs) kC0 q7 (by omega) (by omega) q2 (by omega) (by omega)).mono ?_
     rintro e w' ⟨hb, ⟨hz, rfl⟩ | ⟨hz, g, n, cur, rfl, rfl, hg, hh, ht⟩⟩
     · rw [if_pos hz, if_pos hz]
       exact ⟨none, 0, .iface 190 (.pointer (some (ad 15))), rfl, ⟨Mid3.nil _ _ _, ErrW.sent (by decide) (by decide), hb⟩⟩
     · rw [if_neg hz] at hlen
       rw [if_neg hz, if_neg hz]
       dsimp only at hlen ⊢
       exact ⟨_, _, .nilIface, rfl, ⟨.inr ⟨g, cur, rfl, ⟨hg, (Array.getElem?_eq_some_iff.1 hh).1⟩, hg, hh, by omega, ht⟩, .inl ⟨rfl, rfl, rfl⟩, hb⟩⟩
 · rw [if_neg hp, if_neg hp]
   refine (Chain_bad ad (chkG l0 l1 a2 l3) hp A0 l0.length c0 A1 l1.length c1 a2 A3 l3.length c3 i tm r w (fun W hb => (kC W hb).mono fun e w' ⟨⟨v, he, hv⟩, hb'⟩ => ⟨⟨v, he, ErrW.of hv⟩, hb'⟩)).mono ?_
   rintro e w' ⟨t, u, rfl, hE, hb⟩
   exact ⟨none, 0, .iface t u, rfl, ⟨Mid3.nil _ _ _, hE, hb⟩⟩
end Go.Proofs.YtjkifeladmhkoaaDoor.Cx
/- kit.ApartInts: lists that own their memory, none sharing with another: true. -/
namespace Go.Proofs.YtjkifeladmhkoaaDoor.AP
open Go.RowKit YtjkifeladmhkoaaDoorW.PrintWords YtjkifeladmhkoaaDoorW.PrintLast YtjkifeladmhkoaaDoorW.PrintMore
open B (getD_lt getD_set C_pre)

theorem infoEI : (Tryd.prog.info? 3).map (fun i => (i.zero, i.size, i.bytes)) = some (some (.int .i64 0), 1, 8) := by kernel_rfl
theorem infoSI : (Tryd.prog.info? 24).map (fun i => (i.zero, i.size, i.bytes)) = some (some (.slice none 0 0), 1, 24) := by kernel_rfl
set_option maxHeartbeats 4000000 in
set_option maxRecDepth 100000 in
theorem ApartInts_yes (base : Nat) (vs : List OneV) (Xs : List (List Int)) (A : Option Addr) (cA : Nat) (w : World) (hm : vs.length ≤ 1000) (hcA : vs.length ≤ cA) (hA : All A vs w) (hb : ∀ ad, A = some ad → ∀ j, j < vs.length → (vd vs j).ownBlock ≠ some ad.block) (ho : Own .i64 3 base vs Xs w) (hl : Xs.length = vs.length) (hn : ∀ p, p < vs.length → (Xs.getD p []).length ≤ 1000000) (hbase : base ≤ w.heap.size) :
 Calls Tryd.prog 32 #[.slice A vs.length cA] w fun e w' => e = .returned (.bool true) ∧ Below base w w' := by
 obtain ⟨n, hnn⟩ : ∃ n : Nat → Nat, n = fun p => (Xs.getD p []).length := ⟨_, rfl⟩
 have st := S1.start ho hl hA
 rw [← hnn] at st
 have hn' : ∀ p, p < vs.length → n p ≤ 1000000 := by rw [hnn]; exact hn
 have hdis := ho.dis
 obtain ⟨i0, hi0, hz0, hs0, hb0⟩ := info_parts infoEI
 have ST := Aside0.mk st
 have HB := Aside0.mk hb
 have HN := Aside0.mk hn'
 have HD := Aside0.mk hdis
 have HI := Aside0.mk hi0
 have HZ := Aside0.mk hz0
 have HS := Aside0.mk hs0
 have HBY := Aside0.mk hb0
 have HBASE := Aside0.mk hbase
 clear st hb hn' hdis hi0 hz0 hs0 hb0 ho hl hn hnn hA hbase
 go_enter Tryd.func32, Tryd.ntmps32
 go_wp2_with fail
 go_loopw [3, 4] (fun i _ wr => ∃ p : Nat, p ≤ vs.length ∧ i = .int .i64 p ∧ Aside0 (S1 .i64 3 base w A vs n p 0 wr)) (fun i _ _ => vs.length - (intOf i).toNat)
 case atStart => exact ⟨0, Nat.zero_le _, rfl, ST⟩
 case round =>
  clear ST
  obtain ⟨p, hp, rfl, tr⟩ := hrel
  by_cases hlt : p < vs.length
  · have hnp := HN.out p hlt
    go_wp2_with fail
    go_loopw [4] (fun k wq => ∃ q : Nat, q ≤ n p ∧ k = .int .i64 q ∧ Aside0 (S1 .i64 3 base w A vs n p q wq)) (fun k _ => n p - (intOf k).toNat)
    case atStart => exact ⟨0, Nat.zero_le _, rfl, tr⟩
    case round =>
     clear tr
     obtain ⟨q, hq, rfl, tq⟩ := hrel
     obtain ⟨ad, rfl⟩ := tq.out.2.1.addr (by omega)
     have f0 := tq.out.2.1.cell ad rfl p hlt
     by_cases hlt2 : q < n p
     · obtain ⟨g, c, y, hv, hc, hf, hs⟩ := tq.out.step hlt hlt2 HB.out
       rw [hv] at f0
       unfold mark at hs
       have HSS := Aside0.mk hs
       clear hs hv
       go_wp2_with fail
       go_roundw
       case measure => simp [intOf]; omega
       case rel => exact ⟨q + 1, by omega, rfl, HSS⟩
     · obtain ⟨A', c, hv⟩ := tq.out.sl hlt
       rw [hv] at f0
       have HSS := Aside0.mk (tq.out.next (by omega))
       clear hv
       go_wp2_with fail
       go_roundw
       case measure => simp [intOf]; omega
       case rel => exact ⟨p + 1, by omega, rfl, HSS⟩
  · have hpm : p = vs.length := by omega
    subst hpm
    obtain ⟨⟨Ys, y1, y2, y3, y4⟩, y5, y6⟩ := tr.out
    have S0 := Aside0.mk (S3.start (ES := 24) y4 y5 y6)
    have Y2 := Aside0.mk y2
    have Y3 := Aside0.mk y3
    clear y1 y2 y3 y4 y5 y6 tr
    go_wp2_with fail
    go_loopw [5, 6, 7, 8] (fun mv i _ _ wr => ∃ p : Nat, p ≤ vs.length ∧ i = .int .i64 p ∧ Aside0 (S3 .i64 3 24 base w A vs Ys p mv wr)) (fun _ i _ _ _ => vs.length - (intOf i).toNat)
    case atStart => exact ⟨0, Nat.zero_le _, rfl, S0⟩
    case round =>
     clear S0
     obtain ⟨p, hp, rfl, tr⟩ := hrel
     by_cases hlt : p < vs.length
     · have hnp := HN.out p hlt
       have hyl := Y2.out p hlt
       obtain ⟨ad, rfl⟩ := tr.out.2.2.2.2.2.1.addr (by omega)
       have f0 := tr.out.2.2.2.2.2.1.cell ad rfl p hlt
       have g0 := tr.out.goes hlt
       obtain ⟨Yp, hYp⟩ : ∃ Y : List Int, Y = Ys.getD p [] := ⟨_, rfl⟩
       rw [← hYp] at hyl g0
       have G0 := Aside0.mk g0
       have HYP := Aside0.mk hYp
       have HYL := Aside0.mk (show ∀ j, j < 30 → Yp.length + j + 1 ≤ 1000000000 by omega)
       clear g0 hYp
       obtain ⟨wo, rfl⟩ : ∃ wo : World, wo = wr := ⟨_, rfl⟩
       obtain ⟨mo, rfl⟩ : ∃ mo : Value, mo = u5 := ⟨_, rfl⟩
       clear hyl
       go_wp2_with fail
       go_loopw [7, 8] (fun l k wq => ∃ q : Nat, q ≤ 30 ∧ k = .int .i64 q ∧ Aside0 (J .i64 3 base wo (vd vs p) Yp (mark2 p) q l wq)) (fun _ k _ => 30 - (intOf k).toNat)
       case atStart => exact ⟨0, by omega, rfl, G0⟩
       case round =>
        clear G0 f0
        obtain ⟨q, hq, rfl, tq⟩ := hrel
        by_cases hlt2 : q < 30
        · go_wp2_with ((with_reducible refine gate_builtin (b := .append) (xs := #[.tmp 52, .tmp 58]) rfl ?_); at_builtin; go_loud (refine wp_J (v := vd vs p) (X := Yp) (T := mark2 p) (q := q) rfl (.tmp 52) (.tmp 58) 24 rfl Tryd.underlying24 i0 (.int .i64 0) HI.out HZ.out HS.out HBY.out rfl tq.out (Nat.le_trans HBASE.out tr.out.2.2.2.2.2.2.size) rfl rfl (HYL.out q hlt2) ?_); rintro l' w' hJ'; have T2 := Aside0.mk hJ'; clear hJ')
          go_roundw
          case measure => simp [intOf]; omega
          case rel => exact ⟨q + 1, by omega, rfl, T2⟩
        · have hq30 : q = 30 := by omega
          subst hq30
          obtain ⟨Al, cl, hal⟩ := tq.out.sl
          subst hal
          have TQ := Aside0.mk (show J .i64 3 base wo (vd vs p) (Ys.getD p []) (mark2 p) 30 (.slice Al (Yp.length + 30) cl) wr by rw [← HYP.out]; exact tq.out)
          go_wp2_with ((with_reducible refine gate_builtin (b := .append) (xs := #[.tmp 60, .tmp 62]) rfl ?_); at_builtin; go_loud (refine wp_more rfl (.tmp 60) (.tmp 62) 67 rfl Tryd.underlying67 infoSI HBASE.out (by omega) HB.out HD.out tr.out hlt TQ.out rfl rfl ?_); rintro mv' w' h3; have T3 := Aside0.mk h3; clear h3)
          go_roundw
          case measure => simp [intOf]; omega
          case rel => exact ⟨p + 1, by omega, rfl, T3⟩
     · have hpm : p = vs.length := by omega
       subst hpm
       obtain ⟨⟨us, hul, hR, hU, _⟩, _, hV, _, _, hAll, hlow⟩ := tr.out
       obtain ⟨Am, cm, hmv⟩ := Kd.R_slice hR
       subst hmv
       obtain ⟨_, hcm, hCm⟩ := Kd.R_reads' hR
       rw [hul] at hcm hCm
       have hus : All Am us wr := by unfold All; rw [hul]; exact hCm
       have HUS := Aside0.mk hus
       have HU := Aside0.mk hU
       have HV := Aside0.mk hV
       have HALL := Aside0.mk hAll
       have HLOW := Aside0.mk hlow
       have HUL := Aside0.mk hul
       clear hR hU hV hAll hlow hus hCm
       rw [hul]
       clear hul tr
       go_wp2_with fail
       go_loop [9, 10, 11, 12] (fun i _ _ _ => ∃ p : Nat, p ≤ vs.length ∧ i = .int .i64 p) (fun i _ _ _ => vs.length - (intOf i).toNat)
       case atStart => exact ⟨0, Nat.zero_le _, rfl⟩
       case round =>
        obtain ⟨p, hp, rfl⟩ := hrel
        by_cases hlt : p < vs.length
        · have hnp := HN.out p hlt
          have hyl := Y2.out p hlt
          obtain ⟨ad, rfl⟩ := HALL.out.addr (by omega)
          obtain ⟨am, rfl⟩ := HUS.out.addr (by have := HUL.out; omega)
          have f0 := HALL.out.cell ad rfl p hlt
          have f1 := HUS.out.cell am rfl p (by have := HUL.out; omega)
          have hv := HV.out p hlt
          have hu := HU.out p hlt
          obtain ⟨au, cu, eu, hcu⟩ := hu.cell (by simp)
          have hul2 : (Ys.getD p [] ++ (List.range 30).map (mark2 p)).length = n p + 30 := by rw [List.length_append, hyl, List.length_map, List.length_range]
          rw [hul2] at eu hcu
          have hlenu : n p + 30 ≤ cu ∨ True := .inr trivial
          have fu : ∀ q, q < n p → wr.cell? (au.add q) = some (.int .i64 (1000 * (p : Int) + (q : Int))) := fun q hq => by
           rw [hcu q (by omega), getD_lt _ _ _ (by rw [hul2]; omega), List.getElem_append_left (by rw [hyl]; exact hq)]
           have := Y3.out p q hlt hq (.inl hlt)
           rw [getD_lt _ _ _ (by rw [hyl]; exact hq)] at this
           rw [this]; rfl
          have ft : ∀ q, q < 30 → wr.cell? (au.add (n p + q)) = some (.int .i64 (500000 + 1000 * (p : Int) + (q : Int))) := fun q hq => by
           rw [hcu (n p + q) (by omega), getD_lt _ _ _ (by rw [hul2]; omega), List.getElem_append_right (by rw [hyl]; omega)]
           rw [List.getElem_map, List.getElem_range]
           have : n p + q - (Ys.getD p []).length = q := by omega
           rw [this]; rfl
          obtain ⟨Av, cv, ev, hcv, _⟩ := hv
          rw [hyl] at ev
          have fv : ∀ q, q < n p → ∃ av, Av = some av ∧ wr.cell? (av.add q) = some (.int .i64 (1000 * (p : Int) + (q : Int))) := fun q hq => by
           obtain ⟨av, c', e', hx⟩ := (HV.out p hlt).cell (by rw [hyl]; omega)
           have e2 : Av = some av := by rw [ev] at e'; injection e'
           refine ⟨av, e2, ?_⟩
           rw [hx q (by rw [hyl]; exact hq)]
           have := Y3.out p q hlt hq (.inl hlt)
           rw [this]; rfl
          rw [ev] at f0
          rw [eu] at f1
          have FU := Aside0.mk fu
          have FT := Aside0.mk ft
          have FV := Aside0.mk fv
          clear fu ft fv hu hcu eu ev hul2 hyl hcv hlenu
          go_wp2_with fail
          go_loop [11] (fun k => ∃ q : Nat, q ≤ n p ∧ k = .int .i64 q) (fun k => n p - (intOf k).toNat)
          case atStart => exact ⟨0, Nat.zero_le _, rfl⟩
          case round =>
           obtain ⟨q, hq, rfl⟩ := hrel
           by_cases hlt2 : q < n p
           · obtain ⟨av, rfl, g1⟩ := FV.out q hlt2
             have g2 := FU.out q hlt2
             have b0 : (0 : Int) ≤ 1000 * (p : Int) + (q : Int) := by omega
             have b1 : 1000 * (p : Int) + (q : Int) ≤ 100000000 := by omega
             go_wp2_with fail
             go_round
             case measure => simp [intOf]; omega
             case rel => exact ⟨q + 1, by omega, rfl⟩
           · have hqn : q = n p := by omega
             subst hqn
             go_wp2_with fail
             go_loop [12] (fun k => ∃ q : Nat, q ≤ 30 ∧ k = .int .i64 q) (fun k => 30 - (intOf k).toNat)
             case atStart => exact ⟨0, by omega, rfl⟩
             case round =>
              obtain ⟨q, hq, rfl⟩ := hrel
              by_cases hlt3 : q < 30
              · have g1 := FT.out q hlt3
                have b0 : (0 : Int) ≤ 500000 + 1000 * (p : Int) + (q : Int) := by omega
                have b1 : 500000 + 1000 * (p : Int) + (q : Int) ≤ 100000000 := by omega
                go_wp2_with fail
                go_round
                case measure => simp [intOf]; omega
                case rel => exact ⟨q + 1, by omega, rfl⟩
              · go_wp2_with fail
                go_round
                case measure => simp [intOf]; omega
                case rel => exact ⟨p + 1, by omega, rfl⟩
        · go_wp2_with fail
          go_ret
          exact ⟨rfl, HLOW.out⟩
end Go.Proofs.YtjkifeladmhkoaaDoor.AP
/- dovetaillaw08.awake, dovetaillaw08.chain: walked. -/
namespace Go.Proofs.YtjkifeladmhkoaaDoor.E8
open Go.RowKit YtjkifeladmhkoaaDoorW.PrintWords YtjkifeladmhkoaaDoorW.PrintLast YtjkifeladmhkoaaDoorW.PrintMore
open B Es F

theorem lit_C (k : IntKind) (W : World) (b : Nat) (t : TypeId) (xs : List Int) (hm : xs.length ≤ 9223372036854775807) (h : W.heap[b]? = some (.cells (nums k xs).toArray t (0, 0))) : Kd.C (Kd.int k) W (some ⟨b, 0, none⟩) xs.length xs :=
 (Kq.R_reads' (Kq.R_clip k t W 0 b xs.length _ xs (Nat.le_refl _) hm (Nat.zero_le _) h (by rw [List.take_of_length_le (by simp [nums])]))).2.2
theorem given_C (r1 r2 : List ByteArray) (r3 : Int) (r4 : List S41) (w : World) (h : dovetaillaw08_given.f = some (r1, r2, r3, r4)) :
 Calls Tryd.prog 16 #[] w fun e w' => ∃ A0 c0 A1 c1 A3 c3, e = .returned (.agg #[.slice A0 r1.length c0, .slice A1 r2.length c1, .int .i64 r3, .slice A3 r4.length c3]) ∧ Kd.C Kd.string w' A0 r1.length r1 ∧ r1.length ≤ c0 ∧ Kd.C Kd.string w' A1 r2.length r2 ∧ r2.length ≤ c1 ∧ Kd.C k41 w' A3 r4.length r4 ∧ r4.length ≤ c3 ∧ Below w.heap.size w w' := by
 refine (dovetaillaw08_given.calls r1 r2 r3 r4 w h).mono ?_
 rintro e w' ⟨v0, v1, v3, rfl, h0, h1, h3, hb⟩
 obtain ⟨A0, c0, rfl⟩ := Kd.R_slice h0
 obtain ⟨A1, c1, rfl⟩ := Kd.R_slice h1
 obtain ⟨A3, c3, rfl⟩ := Kd.N_slice h3
 exact ⟨A0, c0, A1, c1, A3, c3, rfl, (Kd.R_reads' h0).2.2, (Kd.R_reads' h0).2.1, (Kd.R_reads' h1).2.2, (Kd.R_reads' h1).2.1, (Kd.N_reads' h3).2.2, (Kd.N_reads' h3).2.1, hb⟩

def dovetaillaw08_awake.ok : Bool :=
 match dovetaillaw08_given.f with
 | some (g0, g1, g2, g3) =>
  decide ((chkG g0 g1 g2 g3).1 = 0) && decide (ends_sets.f 50 g0 g1 g2 g3 0 = some [23, 22, 20]) && decide (ends_sets.f 50 g0 g1 g2 g3 1 = some [27, 26, 24]) && decide (dovetailkit_Sets.f 50 [23, 22, 20] [23, 22, 20] = some true) && decide (dovetailkit_Sets.f 50 [27, 26, 24] [27, 26, 24] = some true)
 | _ => false
theorem dovetaillaw08_awake.ok_true : dovetaillaw08_awake.ok = true := by kernel_rfl
set_option maxHeartbeats 2000000 in
set_option maxRecDepth 100000 in
theorem Awake_calls (ad : Int → Addr) (w : World) (hs : SentsK ad w) : Calls Tryd.prog 13 #[] w fun e w' => e = .returned (.bool true) ∧ Below w.heap.size w w' := by
 obtain ⟨g0, g1, g2, g3, hgv, hof, hs1, hs2⟩ : ∃ g0 g1 g2 g3, dovetaillaw08_given.f = some (g0, g1, g2, g3) ∧ ends_Of.f g0 g1 g2 g3 = some ([23, 22, 20], [27, 26, 24], none) ∧ dovetailkit_Sets.f 50 [23, 22, 20] [23, 22, 20] = some true ∧ dovetailkit_Sets.f 50 [27, 26, 24] [27, 26, 24] = some true := by
  have h := dovetaillaw08_awake.ok_true
  unfold dovetaillaw08_awake.ok at h
  split at h
  · rename_i g0 g1 g2 g3 hg
    simp only [Bool.and_eq_true, decide_eq_true_eq] at h
    refine ⟨g0, g1, g2, g3, hg, ?_, h.1.2, h.2⟩
    unfold ends_Of.f
    rw [if_pos h.1.1.1.1, endsS_is h.1.1.1.2, endsS_is h.1.1.2]
  · cases h
 have HG := Aside0.mk hgv
 have HO := Aside0.mk hof
 have H1 := Aside0.mk hs1
 have H2 := Aside0.mk hs2
 have HSK := Aside0.mk hs
 have TR : Aside0 (∀ {W W' : World}, Below w.heap.size w W → Below W.heap.size W W' → Below w.heap.size w W') := ⟨fun h1 h2 => h1.trans (h2.mono h1.size)⟩
 clear hgv hof hs1 hs2 hs
 go_enter Tryd.func13, Tryd.ntmps13
 go_wp2_with (go_at_call 16; (with_reducible refine (given_C g0 g1 g2 g3 _ HG.out).mono ?_); rintro e w1 ⟨A0, c0, A1, c1, A3, c3, rfl, r0, l0, r1, l1, r3, l3, b1⟩; have R0 := Aside0.mk r0; have R1 := Aside0.mk r1; have R3 := Aside0.mk r3; have B1 := Aside0.mk b1; clear r0 r1 r3 b1)
 refine (ends_Of.calls ad A0 c0 g0 A1 c1 g1 g2 A3 c3 g3 _ _ none w1 (HSK.out.below B1.out) R0.out l0 R1.out l1 R3.out l3 HO.out).mono ?_
 rintro e w2 ⟨v0, v1, tx, rfl, q0, q1, _, b2⟩
 obtain ⟨L, C, e0⟩ : ∃ L C, v0 = .slice L 3 C := Kq.R_slice q0
 obtain ⟨M, D, e1⟩ : ∃ M D, v1 = .slice M 3 D := Kq.R_slice q1
 subst e0 e1
 obtain ⟨_, hC, hL⟩ := Kq.R_reads' q0
 obtain ⟨_, hD, hM⟩ := Kq.R_reads' q1
 have B2 := Aside0.mk (TR.out B1.out b2)
 have QL := Aside0.mk hL
 have QM := Aside0.mk hM
 clear b2 q0 q1 hL hM R0 R1 R3 B1 l0 l1 l3
 simp only [errV_none]
 have hb3 : Below w2.heap.size w2 (w2.alloc (.cells #[.slice L 3 C, .slice M 3 D] 36)) := (Below.refl _ w2).alloc (Nat.le_refl _) _
 have hx3 := Box.new w2 #[.slice L 3 C, .slice M 3 D] 36
 have B3 := Aside0.mk hb3
 have X3 := Aside0.mk hx3
 clear hb3 hx3
 have K1 : Aside0 (∀ W, Below w2.heap.size w2 W → Box w2.heap.size #[.slice L 3 C, .slice M 3 D] 36 W → W.cell? ⟨w2.heap.size, 0, none⟩ = some (.slice L 3 C) ∧ W.cell? ⟨w2.heap.size, 1, none⟩ = some (.slice M 3 D)) := ⟨fun W _ hx => ⟨hx.cell 0 _ rfl, hx.cell 1 _ rfl⟩⟩
 have KS1 : Aside0 (∀ (W : World) (q : Nat), q = W.heap.size → Below w2.heap.size w2 W → Calls Tryd.prog 19 #[.slice L 3 C, .slice (some ⟨q, 0, none⟩) 3 3] (W.alloc (.cells #[.int .u64 23, .int .u64 22, .int .u64 20] 45)) fun e w' => e = .returned (.bool true) ∧ Below W.heap.size W w') := ⟨fun W q hq hb => by
  subst hq
  have hb' : Below W.heap.size W (W.alloc (.cells #[.int .u64 23, .int .u64 22, .int .u64 20] 45)) := (Below.refl _ W).alloc (Nat.le_refl _) _
  exact (dovetailkit_Sets.calls 50 L C [23, 22, 20] (some ⟨W.heap.size, 0, none⟩) 3 [23, 22, 20] true _ (Kd.C_below (Kd.C_below QL.out hb) hb') hC (lit_C .u64 _ _ _ [23, 22, 20] (by simp) (heap_alloc_new W _)) (by simp) H1.out).mono fun _ _ ⟨he, hd⟩ => ⟨he, hb'.trans (hd.below.mono hb'.size)⟩⟩
 have KS2 : Aside0 (∀ (W : World) (q : Nat), q = W.heap.size → Below w2.heap.size w2 W → Calls Tryd.prog 19 #[.slice M 3 D, .slice (some ⟨q, 0, none⟩) 3 3] (W.alloc (.cells #[.int .u64 27, .int .u64 26, .int .u64 24] 45)) fun e w' => e = .returned (.bool true) ∧ Below W.heap.size W w') := ⟨fun W q hq hb => by
  subst hq
  have hb' : Below W.heap.size W (W.alloc (.cells #[.int .u64 27, .int .u64 26, .int .u64 24] 45)) := (Below.refl _ W).alloc (Nat.le_refl _) _
  exact (dovetailkit_Sets.calls 50 M D [27, 26, 24] (some ⟨W.heap.size, 0, none⟩) 3 [27, 26, 24] true _ (Kd.C_below (Kd.C_below QM.out hb) hb') hD (lit_C .u64 _ _ _ [27, 26, 24] (by simp) (heap_alloc_new W _)) (by simp) H2.out).mono fun _ _ ⟨he, hd⟩ => ⟨he, hb'.trans (hd.below.mono hb'.size)⟩⟩
 obtain ⟨f0, f1⟩ := K1.out _ B3.out X3.out
 go_wp2_with (first
  | (go_at_call 19; ((with_reducible refine (KS1.out _ _ ?hq B3.out).mono ?_); (case hq => simp); clear f0 f1; rintro e w4 ⟨rfl, b4⟩; have B4 := Aside0.mk (B3.out.trans (b4.mono B3.out.size)); have X4 := Aside0.mk (X3.out.below b4); clear b4; obtain ⟨f0, f1⟩ := K1.out _ B4.out X4.out))
  | (go_at_call 19; ((with_reducible refine (KS2.out _ _ ?hq B4.out).mono ?_); (case hq => simp); clear f0 f1; rintro e w5 ⟨rfl, b5⟩; have B5 := Aside0.mk (B4.out.trans (b5.mono B4.out.size)); clear b5)))
 go_ret
 exact ⟨rfl, B2.out.trans (B5.out.mono B2.out.size)⟩
def dovetaillaw08_awake.f : Option Bool := some true
theorem dovetaillaw08_awake.calls (ad : Int → Addr) (r : Bool) (w : World) (hs : SentsK ad w) (h : dovetaillaw08_awake.f = some r) :
 Calls Tryd.prog 13 #[] w fun e w' => e = .returned (.bool r) ∧ Below w.heap.size w w' := by
 obtain rfl := Option.some.inj h
 exact Awake_calls ad w hs
end Go.Proofs.YtjkifeladmhkoaaDoor.E8
