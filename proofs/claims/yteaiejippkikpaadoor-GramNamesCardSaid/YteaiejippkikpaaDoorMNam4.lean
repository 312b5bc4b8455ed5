/-
 dovetaillaw03.GramNames: whatever is handed in, the call answers true, and each argument reads as it did.
 Conditions: those of the given statement GramNamesCardSaid alone.
-/
import Derived.Test.YteaiejippkikpaaDoorMNam3
import Derived.Test.YteaiejippkikpaaDoorMNam2
import Derived.Test.YteaiejippkikpaaDoorMNam1
import Derived.Test.YteaiejippkikpaaDoorCards
import Derived.Test.YteaiejippkikpaaDoorTie
import Derived.LaidLaws
import Derived.LaidHandle
import Derived.Lib.LaidTab
import Derived.Lib.LaidIn
import Derived.SevenTiedAt
import Derived.WideShapes
import Derived.JoinedCond
import Derived.ChangeMaps5
import Derived.SizedLaws
import Derived.Deep.DeepHandedRow
import Derived.Deep.DeepWitnessRowRef
/- dovetaillaw03.GramAbove: what its callees answer at a grammar that may be. -/
set_option linter.unusedVariables false
set_option linter.unusedSimpArgs false
namespace Go.Proofs.YteaiejippkikpaaDoor.B
open Go.RowKit Go.Proofs.YteaiejippkikpaaDoorW.PrintWords Go.Proofs.YteaiejippkikpaaDoorW.PrintLast Go.Proofs.YteaiejippkikpaaDoorW.PrintMore

/-- A grammar's box lies, and nothing elder has changed. -/
def GW (w : World) (cs : Array Value) (W : World) : Prop := Below w.heap.size w W ∧ Box w.heap.size cs 25 W
theorem GW.start (w : World) (cs : Array Value) : GW w cs (w.alloc (.cells cs 25)) := ⟨(Below.refl _ w).alloc (Nat.le_refl _) _, Box.new w _ _⟩
theorem GW.low {w : World} {cs : Array Value} {W : World} (h : GW w cs W) : Below w.heap.size w W := h.1
theorem GW.more {w : World} {cs : Array Value} {W W' : World} (h : GW w cs W) (hb : Below W.heap.size W W') : GW w cs W' := ⟨h.1.trans (hb.mono h.1.size), h.2.below hb⟩
theorem GW.cells {w : World} {v0 v1 v2 v3 : Value} {W : World} (h : GW w #[v0, v1, v2, v3] W) : W.cell? ⟨w.heap.size, 0, none⟩ = some v0 ∧ W.cell? ⟨w.heap.size, 1, none⟩ = some v1 ∧ W.cell? ⟨w.heap.size, 2, none⟩ = some v2 ∧ W.cell? ⟨w.heap.size, 3, none⟩ = some v3 :=
  ⟨h.2.cell 0 _ rfl, h.2.cell 1 _ rfl, h.2.cell 2 _ rfl, h.2.cell 3 _ rfl⟩
/-- A contract, said of every later world. -/
abbrev Later (w : World) (F : Nat) (args : Array Value) (v : Value) : Prop := ∀ (W : World), Below w.heap.size w W → Calls Tryd.prog F args W fun e w' => e = .returned v ∧ Aside0 (Below W.heap.size W w')
theorem Later.of {w : World} {F : Nat} {args : Array Value} {v : Value} (h : ∀ (W : World), Below w.heap.size w W → Calls Tryd.prog F args W fun e w' => e = .returned v ∧ Below W.heap.size W w') : Later w F args v :=
  fun W hW => (h W hW).mono fun _ _ ⟨he, hb⟩ => ⟨he, ⟨hb⟩⟩
/-- Besides, a row of sets lies. -/
def GS (w : World) (cs : Array Value) (n : Nat) (S : List Int) (A : Option Addr) (W : World) : Prop := GW w cs W ∧ Kd.C (Kd.int .u64) W A n S
theorem GS.low {w : World} {cs : Array Value} {n : Nat} {S : List Int} {A : Option Addr} {W : World} (h : GS w cs n S A W) : Below w.heap.size w W := h.1.1
theorem GS.more {w : World} {cs : Array Value} {n : Nat} {S : List Int} {A : Option Addr} {W W' : World} (h : GS w cs n S A W) (hb : Below W.heap.size W W') : GS w cs n S A W' := ⟨h.1.more hb, Kd.C_below h.2 hb⟩
theorem GS.cell {w : World} {cs : Array Value} {n : Nat} {S : List Int} {A : Option Addr} {W : World} (h : GS w cs n S A W) (ad : Addr) (hA : A = some ad) (i : Nat) (hi : i < n) : W.cell? (ad.add i) = some (.int .u64 (S.getD i 0)) := by
  obtain ⟨ad', h1, h2⟩ := Kd.at_int h.2 (i : Int) (by omega) (by omega)
  obtain rfl := Option.some.inj (hA.symm.trans h1)
  rwa [Int.toNat_natCast, rd_D] at h2
theorem GS.addr {w : World} {cs : Array Value} {n : Nat} {S : List Int} {A : Option Addr} {W : World} (h : GS w cs n S A W) (hn : 0 < n) : ∃ ad, A = some ad := by
  obtain ⟨ad', h1, _⟩ := Kd.at_int h.2 0 (by omega) (by omega)
  exact ⟨ad', h1⟩
end Go.Proofs.YteaiejippkikpaaDoor.B
/- dovetaillaw03.GramNames: the walk. -/
set_option linter.unusedVariables false
set_option linter.unusedSimpArgs false
namespace Go.Proofs.YteaiejippkikpaaDoor.GNa
open Go.RowKit Go.Proofs.YteaiejippkikpaaDoorW.PrintWords Go.Proofs.YteaiejippkikpaaDoorW.PrintLast Go.Proofs.YteaiejippkikpaaDoorW.PrintMore
open Go.Proofs.YteaiejippkikpaaDoor.B Go.Proofs.YteaiejippkikpaaDoor.AP

/-- The two grammars' boxes lie. -/
def TN (w w1 : World) (cs bs : Array Value) (W : World) : Prop := Below w.heap.size w W ∧ Below w1.heap.size w1 W ∧ Box w.heap.size cs 25 W ∧ Box w1.heap.size bs 25 W
theorem TN.low {w w1 : World} {cs bs : Array Value} {W : World} (h : TN w w1 cs bs W) : Below w.heap.size w W := h.1
theorem TN.low1 {w w1 : World} {cs bs : Array Value} {W : World} (h : TN w w1 cs bs W) : Below w1.heap.size w1 W := h.2.1
theorem Box.in_ {b : Nat} {cs : Array Value} {t : TypeId} {W : World} (h : Box b cs t W) : b < W.heap.size := by
  have h2 : W.heap[b]? = some (.cells cs t (0, 0)) := h
  rcases Nat.lt_or_ge b W.heap.size with h1 | h1
  · exact h1
  · rw [Array.getElem?_eq_none h1] at h2; cases h2
theorem TN.base {w w1 : World} {cs bs : Array Value} {W W' : World} (h : TN w w1 cs bs W) (base : Nat) (hb : Below base W W') (h0 : w.heap.size < base) (h1 : w1.heap.size < base) (hbW : base ≤ W.heap.size) : TN w w1 cs bs W' :=
  ⟨h.1.trans (hb.mono (by omega)), h.2.1.trans (hb.mono (by omega)), (hb.block _ h0).trans h.2.2.1, (hb.block _ h1).trans h.2.2.2⟩
theorem TN.more {w w1 : World} {cs bs : Array Value} {W W' : World} (h : TN w w1 cs bs W) (hb : Below W.heap.size W W') : TN w w1 cs bs W' := h.base W.heap.size hb (Box.in_ h.2.2.1) (Box.in_ h.2.2.2) (Nat.le_refl _)
theorem TN.cells {w w1 : World} {v0 v1 v2 v3 u0 u1 u2 u3 : Value} {W : World} (h : TN w w1 #[v0, v1, v2, v3] #[u0, u1, u2, u3] W) : (W.cell? ⟨w.heap.size, 0, none⟩ = some v0 ∧ W.cell? ⟨w.heap.size, 1, none⟩ = some v1 ∧ W.cell? ⟨w.heap.size, 2, none⟩ = some v2 ∧ W.cell? ⟨w.heap.size, 3, none⟩ = some v3) ∧
    W.cell? ⟨w1.heap.size, 0, none⟩ = some u0 ∧ W.cell? ⟨w1.heap.size, 1, none⟩ = some u1 ∧ W.cell? ⟨w1.heap.size, 2, none⟩ = some u2 ∧ W.cell? ⟨w1.heap.size, 3, none⟩ = some u3 :=
  ⟨⟨h.2.2.1.cell 0 _ rfl, h.2.2.1.cell 1 _ rfl, h.2.2.1.cell 2 _ rfl, h.2.2.1.cell 3 _ rfl⟩, h.2.2.2.cell 0 _ rfl, h.2.2.2.cell 1 _ rfl, h.2.2.2.cell 2 _ rfl, h.2.2.2.cell 3 _ rfl⟩
/-- A call's contract, said of every world in which the boxes lie. -/
abbrev LaterT (w w1 : World) (cs bs : Array Value) (F : Nat) (args : Array Value) (v : Value) : Prop := ∀ (W : World), TN w w1 cs bs W → Calls Tryd.prog F args W fun e w' => e = .returned v ∧ Aside0 (TN w w1 cs bs w')
theorem LaterT.of {w w1 : World} {cs bs : Array Value} {F : Nat} {args : Array Value} {v : Value} (h : ∀ (W : World), TN w w1 cs bs W → Calls Tryd.prog F args W fun e w' => e = .returned v ∧ Below W.heap.size W w') : LaterT w w1 cs bs F args v :=
  fun W hW => (h W hW).mono fun _ _ ⟨he, hb⟩ => ⟨he, ⟨hW.more hb⟩⟩
/-- A row of sets that was made in a call: it owns its memory, between the two standings. -/
abbrev Mine (W : World) (lo hi : Nat) (v : Value) (X : List Int) : Prop := Kd.R (Kd.int .u64) 47 W lo (fun k => lo ≤ k ∧ k < hi) v X
theorem Mine.of {W w' : World} {v : Value} {X : List Int} {ok : Nat → Prop} (h : Kd.R (Kd.int .u64) 47 w' W.heap.size ok v X) : Mine w' W.heap.size w'.heap.size v X := Kd.R_mono (Kd.R_bound h) fun _ h => ⟨h.2.1, h.2.2.1⟩
theorem Mine.below {W W' : World} {lo hi : Nat} {v : Value} {X : List Int} (h : Mine W lo hi v X) (hb : Below W.heap.size W W') : Mine W' lo hi v X := Kd.R_below h hb
theorem Mine.own2 {W : World} {lo mid hi : Nat} {v1 v2 : OneV} {X1 X2 : List Int} (h1 : Mine W lo mid v1.1 X1) (h2 : Mine W mid hi v2.1 X2) (hle : lo ≤ mid) : Own .u64 47 lo [v1, v2] [X1, X2] W := by
  intro i hi
  match i, hi with
  | 0, _ =>
    refine Kd.R_mono (ok := fun k => lo ≤ k ∧ k < mid) h1 fun k hk j hj hne e => ?_
    obtain rfl : j = 1 := by simp at hj; omega
    have := (h2.1 k e.symm).1
    omega
  | 1, _ =>
    refine Kd.R_mono (Kd.R_lower h2 hle) fun k hk j hj hne e => ?_
    obtain rfl : j = 0 := by simp at hj; omega
    have := (h1.1 k e.symm).2
    omega
theorem lit2_All (W : World) (b : Nat) (t : TypeId) (x y : OneV) (h : W.heap[b]? = some (.cells #[x.1, y.1] t (0, 0))) : All (some ⟨b, 0, none⟩) [x, y] W := by
  have h0 : Box b #[x.1, y.1] t W := h
  refine ⟨rfl, by simp, fun _ => ⟨⟨b, 0, none⟩, rfl, fun j p hj => ⟨[p.1], rfl, rfl, fun i u hi => ?_⟩⟩⟩
  obtain rfl : i = 0 := by
    rcases i with _ | i
    · rfl
    · simp at hi
  simp at hi
  subst hi
  rw [Addr.add_lit]
  match j, hj with
  | 0, hj => simp at hj; subst hj; exact h0.cell 0 _ rfl
  | 1, hj => simp at hj; subst hj; exact h0.cell 1 _ rfl
  | j + 2, hj => simp at hj

/-- Besides, two rows of sets that were made, each its own memory's, and one that is read. -/
structure T3 (w w1 : World) (cs bs : Array Value) (lo mid hi : Nat) (L : Option Addr) (C : Nat) (M : Option Addr) (D : Nat) (N : Option Addr) (G : Nat) (S : List Int) (W : World) : Prop where
  tn : TN w w1 cs bs W
  l : Mine W lo mid (.slice L S.length C) S
  m : Mine W mid hi (.slice M S.length D) S
  n : Kd.C (Kd.int .u64) W N S.length S
  g : S.length ≤ G
  h0 : w.heap.size < lo
  h1 : w1.heap.size < lo
  h2 : lo ≤ mid
  h3 : mid ≤ W.heap.size
theorem T3.more {w w1 : World} {cs bs : Array Value} {lo mid hi : Nat} {L : Option Addr} {C : Nat} {M : Option Addr} {D : Nat} {N : Option Addr} {G : Nat} {S : List Int} {W W' : World} (h : T3 w w1 cs bs lo mid hi L C M D N G S W) (hb : Below W.heap.size W W') : T3 w w1 cs bs lo mid hi L C M D N G S W' :=
  ⟨h.tn.more hb, h.l.below hb, h.m.below hb, Kd.C_below h.n hb, h.g, h.h0, h.h1, h.h2, Nat.le_trans h.h3 hb.size⟩
theorem T3.sets {w w1 : World} {cs bs : Array Value} {lo mid hi : Nat} {L : Option Addr} {C : Nat} {M : Option Addr} {D : Nat} {N : Option Addr} {G : Nat} {S : List Int} {W : World} (h : T3 w w1 cs bs lo mid hi L C M D N G S W) (hS : S.length ≤ 60) :
    Calls Tryd.prog 25 #[.slice L S.length C, .slice N S.length G] W fun e w' => e = .returned (.bool true) ∧ Aside0 (T3 w w1 cs bs lo mid hi L C M D N G S w') :=
  (dovetailkit_Sets.calls 61 L C S N G S true W (Kd.R_reads' h.l).2.2 (Kd.R_reads' h.l).2.1 h.n h.g (KSets_f S (by omega) 61 (by omega))).mono fun _ _ ⟨he, hd⟩ => ⟨he, ⟨h.more hd.below⟩⟩
theorem T3.sets' {w w1 : World} {cs bs : Array Value} {lo mid hi : Nat} {L : Option Addr} {C : Nat} {M : Option Addr} {D : Nat} {N : Option Addr} {G : Nat} {S : List Int} {W : World} (h : T3 w w1 cs bs lo mid hi L C M D N G S W) (hS : S.length ≤ 60) :
    Calls Tryd.prog 25 #[.slice M S.length D, .slice N S.length G] W fun e w' => e = .returned (.bool true) ∧ Aside0 (T3 w w1 cs bs lo mid hi L C M D N G S w') :=
  (dovetailkit_Sets.calls 61 M D S N G S true W (Kd.R_reads' h.m).2.2 (Kd.R_reads' h.m).2.1 h.n h.g (KSets_f S (by omega) 61 (by omega))).mono fun _ _ ⟨he, hd⟩ => ⟨he, ⟨h.more hd.below⟩⟩
theorem T3.apart {w w1 : World} {cs bs : Array Value} {lo mid hi : Nat} {L : Option Addr} {C : Nat} {M : Option Addr} {D : Nat} {N : Option Addr} {G : Nat} {S : List Int} {W : World} (h : T3 w w1 cs bs lo mid hi L C M D N G S W) (hS : S.length ≤ 60) (t : TypeId) :
    Calls Tryd.prog 26 #[.slice (some ⟨W.heap.size, 0, none⟩) 2 2] (W.alloc (.cells #[.slice L S.length C, .slice M S.length D] t)) fun e w' => e = .returned (.bool true) ∧ Aside0 (TN w w1 cs bs w') := by
  have hb := (Below.refl W.heap.size W).alloc (Nat.le_refl _) (.cells #[.slice L S.length C, .slice M S.length D] t)
  have h' := h.more hb
  have hA : All (some ⟨W.heap.size, 0, none⟩) [⟨.slice L S.length C, rfl⟩, ⟨.slice M S.length D, rfl⟩] (W.alloc (.cells #[.slice L S.length C, .slice M S.length D] t)) := lit2_All _ _ t ⟨.slice L S.length C, rfl⟩ ⟨.slice M S.length D, rfl⟩ (Box.new W _ _)
  have hO : Own .u64 47 lo [⟨.slice L S.length C, rfl⟩, ⟨.slice M S.length D, rfl⟩] [S, S] W := Mine.own2 (v1 := ⟨.slice L S.length C, rfl⟩) (v2 := ⟨.slice M S.length D, rfl⟩) h.l h.m h.h2
  have hO' : Own .u64 47 lo [⟨.slice L S.length C, rfl⟩, ⟨.slice M S.length D, rfl⟩] [S, S] (W.alloc (.cells #[.slice L S.length C, .slice M S.length D] t)) := Mine.own2 (v1 := ⟨.slice L S.length C, rfl⟩) (v2 := ⟨.slice M S.length D, rfl⟩) h'.l h'.m h'.h2
  refine (ApartSets_yes lo _ [S, S] (some ⟨W.heap.size, 0, none⟩) 2 _ (by simp) (by simp) hA ?_ hO' rfl ?_ (by have := h'.h2; have := h'.h3; omega)).mono fun e w' ⟨he, hb'⟩ => ⟨he, ⟨h'.tn.base lo hb' h.h0 h.h1 (by have := h'.h2; have := h'.h3; omega)⟩⟩
  · intro ad ha j hj e
    obtain rfl := Option.some.inj ha
    have := (hO.lo j hj _ e).2
    dsimp only at this
    omega
  · intro p hp
    match p, hp with
    | 0, _ => show S.length ≤ _; omega
    | 1, _ => show S.length ≤ _; omega

set_option maxHeartbeats 4000000 in
set_option maxRecDepth 100000 in
theorem GramNames_calls (ad : Int → Addr) (A0 : Option Addr) (c0 : Nat) (l0 : List ByteArray) (A1 : Option Addr) (c1 : Nat) (l1 : List ByteArray) (a2 : Int) (A3 : Option Addr) (c3 : Nat) (l3 : List S35) (x : ByteArray) (y : Int) (w : World) (hs : Sents ad w) (hr0 : Kd.C Kd.string w A0 l0.length l0) (hc0 : l0.length ≤ c0) (hr1 : Kd.C Kd.string w A1 l1.length l1) (hc1 : l1.length ≤ c1) (hr3 : Kd.C k35 w A3 l3.length l3) (hc3 : l3.length ≤ c3)
    (b0 : l0.length < 8796093022207) (b1 : l1.length < 8796093022207) (b3 : l3.length < 4398046511104) (bx : ∀ x ∈ l3, x.f1.length < 17592186044415) (y0 : -9223372036854775808 ≤ y) (y1 : y < 9223372036854775808) :
    Calls Tryd.prog 3 #[.agg #[.slice A0 l0.length c0, .slice A1 l1.length c1, .int .i64 a2, .slice A3 l3.length c3], .string x, .int .i64 y] w fun e w' => e = .returned (.bool true) ∧ Below w.heap.size w w' := by
  obtain ⟨cs, hcs⟩ : ∃ cs : Array Value, cs = #[.slice A0 l0.length c0, .slice A1 l1.length c1, .int .i64 a2, .slice A3 l3.length c3] := ⟨_, rfl⟩
  have st : GW w cs (w.alloc (.cells #[.slice A0 l0.length c0, .slice A1 l1.length c1, .int .i64 a2, .slice A3 l3.length c3] 25)) := by subst hcs; exact GW.start w _
  have kL : ∀ W, GW w cs W → Calls Tryd.prog 13 #[.agg #[.slice A0 l0.length c0, .slice A1 l1.length c1, .int .i64 a2, .slice A3 l3.length c3]] W fun e w' => ∃ B0 d0 B1 d1 B3 d3, e = .returned (.agg #[.slice B0 l0.length d0, .slice B1 l1.length d1, .int .i64 a2, .slice B3 l3.length d3]) ∧ Aside0 (MG w' B0 d0 l0 B1 d1 l1 B3 d3 l3 ∧ GW w cs w') :=
    fun W hW => (LentGrammar_m A0 c0 l0 A1 c1 l1 a2 A3 c3 l3 W (Kd.C_below hr0 hW.low) (Kd.C_below hr1 hW.low) (Kd.C_below hr3 hW.low) b0 b1 b3 bx).mono fun e w' ⟨B0, d0, B1, d1, B3, d3, he, hm⟩ => ⟨B0, d0, B1, d1, B3, d3, he, ⟨hm.out.1, hW.more hm.out.2⟩⟩
  have ST := Aside0.mk st
  have KL := Aside0.mk kL
  have HS := Aside0.mk hs
  have HR0 := Aside0.mk hr0
  have HR1 := Aside0.mk hr1
  have HR3 := Aside0.mk hr3
  have HCS := Lib.hid hcs
  clear hs hr0 hr1 hr3 st kL hcs
  go_enter Tryd.func3, Tryd.ntmps3
  go_wp2_with (first
    | (go_at_call 13; (with_reducible refine (KL.out _ ST.out).mono ?_); rintro e w1 ⟨B0, d0, B1, d1, B3, d3, rfl, hm⟩)
    | (go_at_call 14; refine Aside0.out ?_))
  refine Aside0.mk ?_
  have hr0 := HR0.out
  have hr1 := HR1.out
  have hr3 := HR3.out
  have hs := HS.out
  obtain ⟨hmg, hgw⟩ := hm.out
  have m0 := C_max hr0
  have m1 := C_max hr1
  obtain ⟨bs, hbs⟩ : ∃ bs : Array Value, bs = #[.slice B0 l0.length d0, .slice B1 l1.length d1, .int .i64 a2, .slice B3 l3.length d3] := ⟨_, rfl⟩
  have t1 : TN w w1 cs bs (w1.alloc (.cells #[.slice B0 l0.length d0, .slice B1 l1.length d1, .int .i64 a2, .slice B3 l3.length d3] 25)) := by
    subst hbs
    have hb := (Below.refl w1.heap.size w1).alloc (Nat.le_refl _) (.cells #[.slice B0 l0.length d0, .slice B1 l1.length d1, .int .i64 a2, .slice B3 l3.length d3] 25)
    exact ⟨hgw.low.trans (hb.mono hgw.low.size), hb, hgw.2.below hb, Box.new w1 _ _⟩
  have CE : ∀ W, TN w w1 cs bs W → (W.cell? ⟨w.heap.size, 0, none⟩ = some (.slice A0 l0.length c0) ∧ W.cell? ⟨w.heap.size, 1, none⟩ = some (.slice A1 l1.length c1) ∧ W.cell? ⟨w.heap.size, 2, none⟩ = some (.int .i64 a2) ∧ W.cell? ⟨w.heap.size, 3, none⟩ = some (.slice A3 l3.length c3)) ∧ W.cell? ⟨w1.heap.size, 0, none⟩ = some (.slice B0 l0.length d0) ∧ W.cell? ⟨w1.heap.size, 1, none⟩ = some (.slice B1 l1.length d1) ∧ W.cell? ⟨w1.heap.size, 2, none⟩ = some (.int .i64 a2) ∧ W.cell? ⟨w1.heap.size, 3, none⟩ = some (.slice B3 l3.length d3) := by
    intro W hW; have hcs := HCS.out; subst hcs hbs; exact hW.cells
  have e0 := hmg.h0
  have e1 := hmg.h1
  have e3 := hmg.r3.1
  have q0 : ∀ W, TN w w1 cs bs W → Kd.C Kd.string W A0 l0.length l0 := fun W hW => Kd.C_below hr0 hW.low
  have q1 : ∀ W, TN w w1 cs bs W → Kd.C Kd.string W A1 l1.length l1 := fun W hW => Kd.C_below hr1 hW.low
  have q3 : ∀ W, TN w w1 cs bs W → Kd.C k35 W A3 l3.length l3 := fun W hW => Kd.C_below hr3 hW.low
  have p0 : ∀ W, TN w w1 cs bs W → Kd.C Kd.string W B0 l0.length l0 := fun W hW => Kd.C_below (C_pre hmg.r0) hW.low1
  have p1 : ∀ W, TN w w1 cs bs W → Kd.C Kd.string W B1 l1.length l1 := fun W hW => Kd.C_below (C_pre hmg.r1) hW.low1
  have p3 : ∀ W, TN w w1 cs bs W → Kd.C k35 W B3 l3.length l3 := fun W hW => Kd.C_below hmg.r3.reads hW.low1
  have kK : LaterT w w1 cs bs 20 #[.agg #[.slice B0 l0.length d0, .slice B1 l1.length d1, .int .i64 a2, .slice B3 l3.length d3], .agg #[.slice A0 l0.length c0, .slice A1 l1.length c1, .int .i64 a2, .slice A3 l3.length c3]] (.bool true) :=
    LaterT.of fun W hW => KeptGrammar_yes B0 d0 B1 d1 B3 d3 A0 c0 l0 A1 c1 l1 a2 A3 c3 l3 W (hmg.below hW.low1) (q0 W hW) hc0 (q1 W hW) hc1 (q3 W hW) hc3
  obtain ⟨a, ok, kT, kT'⟩ : ∃ a ok, LaterT w w1 cs bs 14 #[.agg #[.slice B0 l0.length d0, .slice B1 l1.length d1, .int .i64 a2, .slice B3 l3.length d3], .string x] (.tuple #[.int .i64 a, .bool ok]) ∧ LaterT w w1 cs bs 15 #[.agg #[.slice A0 l0.length c0, .slice A1 l1.length c1, .int .i64 a2, .slice A3 l3.length c3], .string x] (.tuple #[.int .i64 a, .bool ok]) :=
    ⟨_, _, LaterT.of fun W hW => gram_Term.calls (l0.length + 1) B0 d0 l0 B1 d1 l1 a2 B3 d3 l3 x _ _ W (p0 W hW) (by omega) (p1 W hW) (by omega) (p3 W hW) (by omega) (by unfold gram_Term.f; rw [Find_f l0 x _ m0 (by omega)]; rfl),
      LaterT.of fun W hW => dovetailref03_Term.calls (l0.length + 1) A0 c0 l0 A1 c1 l1 a2 A3 c3 l3 x _ _ W (q0 W hW) hc0 (q1 W hW) hc1 (q3 W hW) hc3 (by unfold dovetailref03_Term.f; rw [refFind_f l0 x _ m0 (by omega)]; rfl)⟩
  obtain ⟨b, also, kM, kM'⟩ : ∃ a ok, LaterT w w1 cs bs 16 #[.agg #[.slice B0 l0.length d0, .slice B1 l1.length d1, .int .i64 a2, .slice B3 l3.length d3], .string x] (.tuple #[.int .i64 a, .bool ok]) ∧ LaterT w w1 cs bs 17 #[.agg #[.slice A0 l0.length c0, .slice A1 l1.length c1, .int .i64 a2, .slice A3 l3.length c3], .string x] (.tuple #[.int .i64 a, .bool ok]) :=
    ⟨_, _, LaterT.of fun W hW => gram_Nonterm.calls (l1.length + 1) B0 d0 l0 B1 d1 l1 a2 B3 d3 l3 x _ _ W (p0 W hW) (by omega) (p1 W hW) (by omega) (p3 W hW) (by omega) (by unfold gram_Nonterm.f; rw [Find_f l1 x _ m1 (by omega)]; rfl),
      LaterT.of fun W hW => dovetailref03_Nonterm.calls (l1.length + 1) A0 c0 l0 A1 c1 l1 a2 A3 c3 l3 x _ _ W (q0 W hW) hc0 (q1 W hW) hc1 (q3 W hW) hc3 (by unfold dovetailref03_Nonterm.f; rw [refFind_f l1 x _ m1 (by omega)]; rfl)⟩
  obtain ⟨s, has, kN, kN'⟩ : ∃ s ok, LaterT w w1 cs bs 18 #[.agg #[.slice B0 l0.length d0, .slice B1 l1.length d1, .int .i64 a2, .slice B3 l3.length d3], .int .i64 y] (.tuple #[.string s, .bool ok]) ∧ LaterT w w1 cs bs 19 #[.agg #[.slice A0 l0.length c0, .slice A1 l1.length c1, .int .i64 a2, .slice A3 l3.length c3], .int .i64 y] (.tuple #[.string s, .bool ok]) := by
    obtain ⟨s, has, hn⟩ : ∃ s has, nameOf l0 l1 y = (s, has) := ⟨_, _, rfl⟩
    exact ⟨s, has, LaterT.of fun W hW => gram_Name.calls B0 d0 l0 B1 d1 l1 a2 B3 d3 l3 y _ _ W (p0 W hW) (by omega) (p1 W hW) (by omega) (p3 W hW) (by omega) (by rw [Name_f l0 l1 a2 l3 y y0 y1, hn]),
      LaterT.of fun W hW => dovetailref03_Name.calls (l1.length + 1) A0 c0 l0 A1 c1 l1 a2 A3 c3 l3 y _ _ W (q0 W hW) hc0 (q1 W hW) hc1 (q3 W hW) hc3 (by rw [refName_f l0 l1 a2 l3 y m1 _ (by omega), hn])⟩
  have kR : ∀ x : S35, ∃ r b, gram_Renaming.f x.f0 x.f1 = some (r, b) ∧ dovetailref03_Renaming.f x.f0 x.f1 = some (r, b) := fun x => ren_two x.f0 x.f1
  obtain ⟨S, hS60, kA, kA'⟩ : ∃ S : List Int, S.length ≤ 60 ∧ (∀ W, TN w w1 cs bs W → Calls Tryd.prog 23 #[.agg #[.slice B0 l0.length d0, .slice B1 l1.length d1, .int .i64 a2, .slice B3 l3.length d3]] W fun e w' => ∃ L C, e = .returned (.slice L S.length C) ∧ Aside0 (S.length ≤ C ∧ Mine w' W.heap.size w'.heap.size (.slice L S.length C) S ∧ Below W.heap.size W w')) ∧
      (∀ W, TN w w1 cs bs W → Calls Tryd.prog 24 #[.agg #[.slice A0 l0.length c0, .slice A1 l1.length c1, .int .i64 a2, .slice A3 l3.length c3]] W fun e w' => ∃ L C, e = .returned (.slice L S.length C) ∧ Aside0 (S.length ≤ C ∧ Kd.C (Kd.int .u64) w' L S.length S ∧ Below W.heap.size W w')) := by
    have hn0 := Names_f l0 (l0.length + l0.length + l1.length + l1.length + 2) m0 (by omega)
    have hn1 := Names_f l1 (l0.length + l0.length + l1.length + l1.length + 2) m1 (by omega)
    have rA : ∀ (S : List Int) (k : Nat), dovetailref03_Above.f k l0 l1 a2 l3 = some S → (∀ W, TN w w1 cs bs W → Calls Tryd.prog 24 #[.agg #[.slice A0 l0.length c0, .slice A1 l1.length c1, .int .i64 a2, .slice A3 l3.length c3]] W fun e w' => ∃ L C, e = .returned (.slice L S.length C) ∧ Aside0 (S.length ≤ C ∧ Kd.C (Kd.int .u64) w' L S.length S ∧ Below W.heap.size W w')) := by
      intro S k hf W hW
      refine (dovetailref03_Above.calls k A0 c0 l0 A1 c1 l1 a2 A3 c3 l3 S W (q0 W hW) hc0 (q1 W hW) hc1 (q3 W hW) hc3 hf).mono ?_
      rintro e w6 ⟨v, rfl, hv, b2⟩
      obtain ⟨A, c, rfl⟩ := Kd.R_slice hv
      obtain ⟨_, hc, hC⟩ := Kd.R_reads' hv
      exact ⟨A, c, rfl, ⟨hc, hC, b2⟩⟩
    by_cases h0 : (chk (namesOK l0) (namesOK l1) l0.length l1.length a2 l3).1 = 0
    · obtain ⟨r1, r2, r3, r4, r5, r6, r7⟩ := chk_ok h0
      have hn0' := hn0
      have hn1' := hn1
      rw [r3] at hn0'
      rw [r4] at hn1'
      obtain ⟨kk, S, hS, hI⟩ := Above_ev _ l0 l1 a2 l3 ⟨r1, r2, hn0', hn1', r5, r6, r7⟩
      have hlen := hI.len
      refine ⟨S, by omega, fun W hW => ?_, rA S 600000 (refAbove_ok l0 l1 a2 l3 m0 m1 h0 S hI 600000 (by omega))⟩
      refine (gram_Above.calls kk B0 d0 l0 B1 d1 l1 a2 B3 d3 l3 S W (p0 W hW) (by omega) (p1 W hW) (by omega) (p3 W hW) (by omega) hS).mono ?_
      rintro e w6 ⟨v, rfl, hv, b2⟩
      obtain ⟨A, c, rfl⟩ := Kd.R_slice hv
      exact ⟨A, c, rfl, ⟨(Kd.R_reads' hv).2.1, Mine.of hv, b2⟩⟩
    · refine ⟨[], by simp, fun W hW => ?_, rA [] 20000 (refAbove_no l0 l1 a2 l3 m0 m1 h0 20000 (by omega))⟩
      refine (Above_bad B0 l0.length d0 B1 l1.length d1 a2 B3 l3.length d3 W fun W' hW' => ?_).mono ?_
      · have hT := hW.more hW'
        refine (Check_full ad _ B0 d0 l0 B1 d1 l1 a2 B3 d3 l3 _ _ W' (hs.below hT.low) (p0 W' hT) (by omega) (p1 W' hT) (by omega) (p3 W' hT) (by omega) hn0 hn1).mono ?_
        rintro e w' ⟨⟨v, rfl, hv⟩, hb⟩
        obtain ⟨t, u, rfl⟩ := hv.some h0
        exact ⟨⟨t, u, rfl⟩, hb⟩
      · rintro e w6 ⟨rfl, b2⟩
        exact ⟨none, 0, rfl, ⟨Nat.le_refl _, Kd.R_nil _ _ _ _ _, b2⟩⟩
  have kW : LaterT w w1 cs bs 27 #[] (.bool true) := LaterT.of fun W hW => Awake_calls W
  have T1 := Aside0.mk t1
  have CE' := Aside0.mk CE
  have KK := Aside0.mk kK
  have KT := Aside0.mk kT
  have KT' := Aside0.mk kT'
  have KM := Aside0.mk kM
  have KM' := Aside0.mk kM'
  have KN := Aside0.mk kN
  have KN' := Aside0.mk kN'
  have KR := Aside0.mk kR
  have KA := Aside0.mk kA
  have KA' := Aside0.mk kA'
  have KW := Aside0.mk kW
  have P3 := Aside0.mk p3
  have Q3 := Aside0.mk q3
  have HBS := Lib.hid hbs
  clear hr0 hr1 hr3 hs hmg hgw HR0 HR1 HR3 HS KL ST hm t1 CE q0 q1 q3 p0 p1 p3 kK kT kT' kM kM' kN kN' kR kA kA' kW hbs bx
  (with_reducible refine (KT.out _ T1.out).mono ?_); rintro e w2 ⟨rfl, t2⟩
  obtain ⟨⟨f0, f1, f2, f3⟩, g0, g1, g2, g3⟩ := CE'.out _ t2.out
  go_wp2_with (first
    | (go_at_call 15; (with_reducible refine (KT'.out _ t2.out).mono ?_); clear f0 f1 f2 f3 g0 g1 g2 g3; rintro e w3 ⟨rfl, t3⟩; obtain ⟨⟨f0, f1, f2, f3⟩, g0, g1, g2, g3⟩ := CE'.out _ t3.out)
    | (go_at_call 16; (with_reducible refine (KM.out _ t3.out).mono ?_); clear f0 f1 f2 f3 g0 g1 g2 g3; rintro e w4 ⟨rfl, t4⟩; obtain ⟨⟨f0, f1, f2, f3⟩, g0, g1, g2, g3⟩ := CE'.out _ t4.out)
    | (go_at_call 17; (with_reducible refine (KM'.out _ t4.out).mono ?_); clear f0 f1 f2 f3 g0 g1 g2 g3; rintro e w5 ⟨rfl, t5⟩; obtain ⟨⟨f0, f1, f2, f3⟩, g0, g1, g2, g3⟩ := CE'.out _ t5.out)
    | (go_at_call 18; (with_reducible refine (KN.out _ t5.out).mono ?_); clear f0 f1 f2 f3 g0 g1 g2 g3; rintro e w6 ⟨rfl, t6⟩; obtain ⟨⟨f0, f1, f2, f3⟩, g0, g1, g2, g3⟩ := CE'.out _ t6.out)
    | (go_at_call 19; (with_reducible refine (KN'.out _ t6.out).mono ?_); clear f0 f1 f2 f3 g0 g1 g2 g3; rintro e w7 ⟨rfl, t7⟩; obtain ⟨⟨f0, f1, f2, f3⟩, g0, g1, g2, g3⟩ := CE'.out _ t7.out)
    | (go_at_call 20; (with_reducible refine (KK.out _ t7.out).mono ?_); clear f0 f1 f2 f3 g0 g1 g2 g3; rintro e w8 ⟨rfl, t8⟩; obtain ⟨⟨f0, f1, f2, f3⟩, g0, g1, g2, g3⟩ := CE'.out _ t8.out))
  go_loopw [20, 21, 22, 23, 24] (fun i _ _ _ _ wr => ∃ k : Nat, k ≤ l3.length ∧ i = .int .i64 k ∧ Aside0 (TN w w1 cs bs wr)) (fun i _ _ _ _ _ => l3.length - (intOf i).toNat)
  case atStart => exact ⟨0, Nat.zero_le _, rfl, t8⟩
  case round =>
    obtain ⟨k, hk, rfl, tr⟩ := hrel
    clear f0 f1 f2 f3 g0 g1 g2 g3 t8 t7 t6 t5 t4 t3 t2
    obtain ⟨⟨f0, f1, f2, f3⟩, g0, g1, g2, g3⟩ := CE'.out _ tr.out
    by_cases hlt : k < l3.length ∧ k < 130
    · obtain ⟨hlt, h130⟩ := hlt
      obtain ⟨x, hx⟩ : ∃ x, l3[k] = x := ⟨_, rfl⟩
      have q0 : rd_T35 l3 (k : Int) = x := by rw [rdR_D, getD_lt _ _ _ hlt, hx]
      have AT : ∀ (A : Option Addr) W, Kd.C k35 W A l3.length l3 → ∃ ad3 A3' c3', A = some ad3 ∧ W.cell? (ad3.add (k * 2)) = some (.int .i64 x.f0) ∧ W.cell? ⟨(ad3.add (k * 2)).block, (ad3.add (k * 2)).off + 1, none⟩ = some (.slice A3' x.f1.length c3') ∧ x.f1.length ≤ c3' ∧ Kd.C (Kd.int .i64) W A3' x.f1.length x.f1 := by
        intro A W hC
        obtain ⟨ad3, A3', c3', e, h0, h1, h2, h3⟩ := at_T35 hC (k : Int) (by omega) (by omega)
        rw [Int.toNat_natCast] at h0 h1
        rw [q0] at h0 h1 h2 h3
        exact ⟨ad3, A3', c3', e, h0, h1, h2, h3⟩
      obtain ⟨r, bb, hf1, hf2⟩ := KR.out x
      obtain ⟨adB, B3', d3', rfl, i0, i1, i2, i3⟩ := AT B3 wr (P3.out _ tr.out)
      obtain ⟨adA, _, _, rfl, _⟩ := AT A3 wr (Q3.out _ tr.out)
      have KF := Aside0.mk (show Calls Tryd.prog 21 #[.agg #[.int .i64 x.f0, .slice B3' x.f1.length d3']] wr fun e w' => e = .returned (.tuple #[.int .i64 r, .bool bb]) ∧ Aside0 (TN w w1 cs bs w') from (gram_Renaming.calls x.f0 B3' d3' x.f1 r bb wr i3 i2 hf1).mono fun _ _ ⟨he, hb⟩ => ⟨he, ⟨tr.out.more hb⟩⟩)
      have KG := Aside0.mk (show ∀ W, TN w w1 cs bs W → ∃ A3' c3', (W.cell? (adA.add (k * 2)) = some (.int .i64 x.f0) ∧ W.cell? ⟨(adA.add (k * 2)).block, (adA.add (k * 2)).off + 1, none⟩ = some (.slice A3' x.f1.length c3')) ∧ Aside0 (Calls Tryd.prog 22 #[.agg #[.int .i64 x.f0, .slice A3' x.f1.length c3']] W fun e w' => e = .returned (.tuple #[.int .i64 r, .bool bb]) ∧ Aside0 (TN w w1 cs bs w')) from by
        intro W hW
        obtain ⟨ad3, A3', c3', e, h0, h1, h2, h3⟩ := AT _ W (Q3.out _ hW)
        obtain rfl := Option.some.inj e
        exact ⟨A3', c3', ⟨h0, h1⟩, ⟨(dovetailref03_Renaming.calls x.f0 A3' c3' x.f1 r bb W h3 h2 hf2).mono fun _ _ ⟨he, hb⟩ => ⟨he, ⟨hW.more hb⟩⟩⟩⟩)
      clear AT i3 i2 hf1 hf2 q0 hx
      go_wp2_with (first
        | (go_at_call 21; (with_reducible refine KF.out.mono ?_); clear f0 f1 f2 f3 g0 g1 g2 g3; rintro e w2 ⟨rfl, t2⟩; obtain ⟨⟨f0, f1, f2, f3⟩, g0, g1, g2, g3⟩ := CE'.out _ t2.out; obtain ⟨A3', c3', ⟨j0, j1⟩, KH⟩ := KG.out _ t2.out)
        | (go_at_call 22; (with_reducible refine KH.out.mono ?_); clear f0 f1 f2 f3 g0 g1 g2 g3; rintro e w3 ⟨rfl, t3⟩; obtain ⟨⟨f0, f1, f2, f3⟩, g0, g1, g2, g3⟩ := CE'.out _ t3.out))
      go_roundw
      case measure => simp [intOf]; omega
      case rel => exact ⟨k + 1, by omega, rfl, t3⟩
    · have hex : (k < l3.length ∧ ¬ k < 130) ∨ ¬ (k < l3.length) := by omega
      clear hlt
      rcases hex with ⟨h1, h2⟩ | h1
      all_goals
        go_wp2_with (first
          | (go_at_call 23; (with_reducible refine (KA.out _ z1.out).mono ?_); clear f0 f1 f2 f3 g0 g1 g2 g3; rintro e v2 ⟨M, D, rfl, u2⟩; have z2 := Aside0.mk (z1.out.more u2.out.2.2); obtain ⟨⟨f0, f1, f2, f3⟩, g0, g1, g2, g3⟩ := CE'.out _ z2.out)
          | (go_at_call 23; (with_reducible refine (KA.out _ tr.out).mono ?_); clear f0 f1 f2 f3 g0 g1 g2 g3; rintro e v1 ⟨L, C, rfl, u1⟩; have z1 := Aside0.mk (tr.out.more u1.out.2.2); obtain ⟨⟨f0, f1, f2, f3⟩, g0, g1, g2, g3⟩ := CE'.out _ z1.out)
          | (go_at_call 24; (with_reducible refine (KA'.out _ z2.out).mono ?_); clear f0 f1 f2 f3 g0 g1 g2 g3; rintro e v3 ⟨N, G, rfl, u3⟩; have z3 : Aside0 (T3 w w1 cs bs wr.heap.size v1.heap.size v2.heap.size L C M D N G S v3) := ⟨z2.out.more u3.out.2.2, (u1.out.2.1.below u2.out.2.2).below u3.out.2.2, u2.out.2.1.below u3.out.2.2, u3.out.2.1, u3.out.1, Box.in_ tr.out.2.2.1, Box.in_ tr.out.2.2.2, u1.out.2.2.size, Nat.le_trans u2.out.2.2.size u3.out.2.2.size⟩; obtain ⟨⟨f0, f1, f2, f3⟩, g0, g1, g2, g3⟩ := CE'.out _ z3.out.tn)
          | (go_at_call 25; (with_reducible refine (z4.out.sets' hS60).mono ?_); clear f0 f1 f2 f3 g0 g1 g2 g3; rintro e v5 ⟨rfl, z5⟩; obtain ⟨⟨f0, f1, f2, f3⟩, g0, g1, g2, g3⟩ := CE'.out _ z5.out.tn)
          | (go_at_call 25; (with_reducible refine (z3.out.sets hS60).mono ?_); clear f0 f1 f2 f3 g0 g1 g2 g3; rintro e v4 ⟨rfl, z4⟩; obtain ⟨⟨f0, f1, f2, f3⟩, g0, g1, g2, g3⟩ := CE'.out _ z4.out.tn)
          | (go_at_call 26; refine Aside0.out ?_))
        refine Aside0.mk ?_
        (with_reducible refine (z5.out.apart hS60 _).mono ?_); clear f0 f1 f2 f3 g0 g1 g2 g3; rintro e v6 ⟨rfl, z6⟩
        obtain ⟨⟨f0, f1, f2, f3⟩, g0, g1, g2, g3⟩ := CE'.out _ z6.out
        go_wp2_with (first
          | (go_at_call 20; (with_reducible refine (KK.out _ z6.out).mono ?_); clear f0 f1 f2 f3 g0 g1 g2 g3; rintro e v7 ⟨rfl, z7⟩; obtain ⟨⟨f0, f1, f2, f3⟩, g0, g1, g2, g3⟩ := CE'.out _ z7.out)
          | (go_at_call 27; (with_reducible refine (KW.out _ z7.out).mono ?_); clear f0 f1 f2 f3 g0 g1 g2 g3; rintro e v8 ⟨rfl, z8⟩))
        go_ret
        exact ⟨rfl, z8.out.low⟩
end Go.Proofs.YteaiejippkikpaaDoor.GNa
set_option linter.unusedVariables false
namespace Go.Proofs.YteaiejippkikpaaDoor.gramNames
open Go.ChangeShapes Go.WideShapes Go.ChangeAt Go.RowKit Go.Proofs.YteaiejippkikpaaDoorW.PrintWords Go.Proofs.YteaiejippkikpaaDoor.H Go.Proofs.YteaiejippkikpaaDoor.B

theorem own : ownKnob Tryd.prog.godebug = none := by kernel_rfl
theorem laidOut : laidOutB Tryd.prog = true := by kernel_rfl
theorem bounds_i {n : Int} (h : (Lit.int .i64 n).wf = true) : -9223372036854775808 ≤ n ∧ n < 9223372036854775808 := by
  have h1 : IntKind.i64.min = -9223372036854775808 := by decide
  have h2 : IntKind.i64.max = 9223372036854775807 := by decide
  have h3 : (decide (IntKind.i64.min ≤ n) && decide (n ≤ IntKind.i64.max)) = true := h
  rw [h1, h2] at h3
  simp only [Bool.and_eq_true, decide_eq_true_eq] at h3
  omega

set_option maxRecDepth 100000 in
theorem contract (H : Type) (enc : TypeId × Value → H) (W : World) (base : Nat) (args : Array Value) (ds gs : List (DataW H)) (before : List MemPlace)
    (hval : ∀ (j : Nat) t v, Tryd.f3.params[j]? = some t → args[j]? = some v → Value.okWide Tryd.prog W .any base t v)
    (ad : Int → Addr) (hs : Sents ad W)
    (hz : (DataW.weightsEach Tryd.prog (Tryd.f3.params.toList ++ (OpenSpec.ofChange Rows.gramNamesSpec).bare.plain.varTypes Tryd.prog) (ds ++ gs)).all (· ≤ reachBytes) = true)
    (hW : DataW.Whole enc Tryd.prog Tryd.f3.params.toList Rows.gramNamesSpec.vars false W args.toList ds gs before) :
    Calls Tryd.prog 3 args W fun e W' => ∃ v, e = .returned v ∧ Rows.gramNamesSpec.post enc Tryd.prog Tryd.f3 false true false false W args v W' := by
  have hW' := hW
  obtain ⟨p, q, hA0, hV, rfl, hfz, hnd⟩ := hW
  have hA : DataW.TrodAll enc Tryd.prog W 0 (fun _ => true) true Tryd.f3.params.toList args.toList ds p := hA0
  rw [Tryd.params3] at hA hval
  obtain ⟨v0, vs0, d0, ds0, p0, q0, hargs, rfl, rfl, h0, r0⟩ := trodAll_cons hA
  obtain ⟨v1, vs1, d1, ds1, p1, q1, rfl, rfl, rfl, h1, r1⟩ := trodAll_cons r0
  obtain ⟨v2, vs2, d2, ds2, p2, q2, rfl, rfl, rfl, h2, r2⟩ := trodAll_cons r1
  obtain ⟨rfl, rfl, rfl⟩ := trodAll_nil r2
  obtain rfl : args = #[v0, v1, v2] := by cases args; simp_all
  obtain ⟨rfl, rfl⟩ := trodVars_none hV
  obtain ⟨g0, A00, c00, A01, c01, A03, c03, rfl, l00, k00, l01, k01, l03, k03, z00, z01, z03, zx0⟩ := OG.open_gz (hval 0 25 v0 rfl rfl) h0 (fun n hn => by simpa using List.all_eq_true.1 hz n (DataW.weights_mem_each (j := 0) (by kernel_rfl) rfl n hn))
  obtain ⟨s1, rfl, rfl, _, m1⟩ := Go.ChangeMaps.open_string Tryd.underlying9 (hval 1 9 v1 rfl rfl) h1
  have e2 := h2
  obtain ⟨n2, rfl, rfl, rfl, w2⟩ := open_int Tryd.underlying3 (hval 2 3 v2 rfl rfl) e2
  refine (GNa.GramNames_calls ad A00 c00 g0.f0 A01 c01 g0.f1 g0.f2 A03 c03 g0.f3 s1 n2 W hs k00 l00 k01 l01 k03 l03 z00 z01 z03 zx0 (bounds_i w2).1 (bounds_i w2).2).mono fun e W' ⟨he, bel⟩ => ?_
  subst he
  simp only [List.append_nil] at hW'
  exact ⟨_, rfl, _, _, _, [], _, [], hW', trodAll_mk1 (shut_bool Tryd.underlying4 _), (trodAll_cons_mk (Below.trod laidOut (by kernel_rfl) (of_decide_eq_true (by kernel_rfl)) h0 bel (trod_below h0)) (trodAll_cons_mk (Below.trod laidOut (by kernel_rfl) (of_decide_eq_true (by kernel_rfl)) h1 bel (trod_below h1)) (trodAll_cons_mk (Below.trod laidOut (by kernel_rfl) (of_decide_eq_true (by kernel_rfl)) h2 bel (trod_below h2)) trodAll_mk0))), rfl, bel.frame _, fun h => by cases h⟩

theorem laid_met (os : Os) (args : Array Value) : laidMetH Tryd.prog Rows.gramNamesRow.laid ((L3.laidWorld os).forCall (fun _ _ => 0) ⟨#[], args, []⟩).memory := L3.laid_met os args
theorem sents {W : World} (h : laidMetH Tryd.prog Rows.gramNamesRow.laid W) : ∃ ad, Sents ad W := L3.sents h
theorem reads (os : Os) {H : Type} (enc : TypeId × Value → H) : ∃ places, DataW.whole enc Tryd.prog ((L3.laidWorld os).forCall (fun _ _ => 0) ⟨#[], #[Value.agg #[.slice none 0 0, .slice none 0 0, .int .i64 0, .slice none 0 0], Value.string ⟨#[]⟩, Value.int .i64 0], []⟩).memory Tryd.f3.params.toList Rows.gramNamesSpec.vars false (#[Value.agg #[.slice none 0 0, .slice none 0 0, .int .i64 0, .slice none 0 0], Value.string ⟨#[]⟩, Value.int .i64 0] : Array Value).toList 8 = some ([.agg [.nil, .nil, .lit (.int .i64 0), .nil], .lit (.string []), .lit (.int .i64 0)], [], places) :=
  ⟨[], by kernel_rfl⟩

set_option maxRecDepth 100000 in
theorem lifted (os : Os) (started : os.Started) (H : Type) (enc : TypeId × Value → H) (F : Stop.Interp) :
    ReturnsInHanded {} Tryd.checked os 3 .any ((OpenSpec.ofChange Rows.gramNamesSpec).preRow enc Tryd.prog Tryd.f3 Rows.gramNamesRow.domain false Rows.gramNamesRow.laid) (((OpenSpec.ofChange Rows.gramNamesSpec).at F).post enc Tryd.prog Tryd.f3 false true false false) := by
  obtain ⟨places, hx⟩ := reads os enc
  refine returnsInHanded_of_row (C := Tryd.checked) (s := OpenSpec.ofChange Rows.gramNamesSpec) own started (by kernel_rfl) Tryd.func3
    (witness_row_atRef (enc := enc) (C := Tryd.checked) false (L3.laidWorld os) #[Value.agg #[.slice none 0 0, .slice none 0 0, .int .i64 0, .slice none 0 0], Value.string ⟨#[]⟩, Value.int .i64 0] rfl (by kernel_rfl) (by kernel_rfl) (by kernel_rfl)
      (OpenSpec.preRow_of_cond 8 hx (by kernel_rfl) (fun k hk => by cases hk) (by kernel_rfl) (laid_met os _))) ?_
  intro W base args ds gs before hval hW _ hcond hz hL _ _
  obtain ⟨ad, hs⟩ := sents hL
  exact contract H enc W base args ds gs before hval ad hs hz hW

theorem said : Rows.GramNamesSaid :=
  OpenClaim.holds_of_cond 3 Tryd.f3 rfl rfl rfl rfl rfl rfl rfl ⟨rfl, rfl, rfl, rfl, rfl⟩ rfl rfl rfl rfl rfl (by kernel_rfl) Tryd.func3 (by kernel_rfl)
    (of_decide_eq_true (by kernel_rfl)) (by unfold Func.isWrapper; first | (rw [if_pos (by decide +kernel)]; kernel_rfl) | (rw [if_neg (by decide +kernel)]; exact ⟨rfl, rfl⟩))
    (fun os started H enc _ F => by rw [OpenClaim.pre_eq_preRow]; exact lifted os started H enc F)

theorem plain (f : FuncId) (fn : Func) (hf : Tryd.pinned.checked.prog.funcNamed "dovetail/dovetaillaw03.GramNames" = some f) (hfn : Tryd.pinned.checked.prog.funcs[f]? = some fn) :
    true = Tryd.pinned.checked.prog.looks [] ∧ ∀ (j : Nat) t, fn.params[j]? = some t → Tryd.pinned.checked.prog.wantsStandIn t = false := by
  obtain rfl : f = 3 := Option.some.inj ((show Tryd.prog.funcNamed "dovetail/dovetaillaw03.GramNames" = some 3 by kernel_rfl).symm.trans hf) |>.symm
  obtain rfl : fn = Tryd.f3 := (Option.some.inj (Tryd.func3.symm.trans hfn)).symm
  refine ⟨by kernel_rfl, fun j t ht => ?_⟩
  rw [Tryd.params3] at ht
  have hm : t = 25 ∨ t = 9 ∨ t = 3 := by simpa using Array.mem_of_getElem? ht
  rcases hm with rfl | rfl | rfl
  · exact (show Tryd.prog.wantsStandIn 25 = false by kernel_rfl)
  · exact (show Tryd.prog.wantsStandIn 9 = false by kernel_rfl)
  · exact (show Tryd.prog.wantsStandIn 3 = false by kernel_rfl)

theorem proved : Rows.GramNamesCardSaid :=
  Claim7.holds_tied_plain_at .later [] _ _ _ _ said (fun _ h => by cases h) (by kernel_rfl) (fun _ h => by cases h) gramNames_row_tie rfl ⟨rfl, rfl⟩ (by kernel_rfl) rfl plain (by kernel_rfl)
#print axioms proved
end Go.Proofs.YteaiejippkikpaaDoor.gramNames
