/-
 dovetaillaw08.EndsChains: whatever is handed in, the call answers true, and each argument reads as it did.
 Conditions: those of the given statement EndsChainsCardSaid alone.
-/
import Derived.Test.YtjkifeladmhkoaaDoorMECh4
import Derived.Test.YtjkifeladmhkoaaDoorMECh5
import Derived.Test.YtjkifeladmhkoaaDoorMECh1
import Derived.Test.YtjkifeladmhkoaaDoorCards
import Derived.Test.YtjkifeladmhkoaaDoorTie
import Derived.LaidLaws
import Derived.LaidHandle
import Derived.Lib.LaidTab
import Derived.Lib.LaidIn
import Derived.SevenTiedAt
import Derived.WideShapes
import Derived.JoinedCond
import Derived.ChangeMaps5
import Derived.SizedLaws
import Derived.Deep.DeepHandedRow
import Derived.Deep.DeepWitnessRowRef
/- dovetaillaw08.EndsChains: the walk. -/
set_option linter.unusedVariables false
set_option linter.unusedSimpArgs false
namespace Go.Proofs.YtjkifeladmhkoaaDoor.Cw
open Go.RowKit YtjkifeladmhkoaaDoorW.PrintWords YtjkifeladmhkoaaDoorW.PrintLast YtjkifeladmhkoaaDoorW.PrintMore
open B AP E8 F Es Er St Cx

abbrev sl (A : Option Addr) (n c : Nat) : OneV := ⟨.slice A n c, rfl⟩
theorem lit3_All (W : World) (b : Nat) (t : TypeId) (x y z : OneV) (h : W.heap[b]? = some (.cells #[x.1, y.1, z.1] t (0, 0))) : All (some ⟨b, 0, none⟩) [x, y, z] W := by
 have h0 : Box b #[x.1, y.1, z.1] t W := h
 refine ⟨rfl, by simp, fun _ => ⟨⟨b, 0, none⟩, rfl, fun j p hj => ⟨[p.1], rfl, rfl, fun i v hi => ?_⟩⟩⟩
 obtain rfl : i = 0 := by
  rcases i with _ | i
  · rfl
  · simp at hi
 simp at hi
 subst hi
 rw [Addr.add_lit]
 match j, hj with
 | 0, hj => simp at hj; subst hj; exact h0.cell 0 _ rfl
 | 1, hj => simp at hj; subst hj; exact h0.cell 1 _ rfl
 | 2, hj => simp at hj; subst hj; exact h0.cell 2 _ rfl
 | j + 3, hj => simp at hj
theorem own3 {lo1 hi1 lo2 hi2 lo3 hi3 : Nat} {u v z : OneV} {X Y Z : List Int} {W : World} (h1 : Mid3 lo1 hi1 u.1 X W) (h2 : Mid3 lo2 hi2 v.1 Y W) (h3 : Mid3 lo3 hi3 z.1 Z W) (a0 : lo1 ≤ hi1) (a1 : hi1 ≤ lo2) (a2 : lo2 ≤ hi2) (a3 : hi2 ≤ lo3) : Own .i64 3 lo1 [u, v, z] [X, Y, Z] W := by
 intro i hi
 match i, hi with
 | 0, _ =>
  refine RC.weak h1 fun k hk j hj hne e => ?_
  have g1 := (RC.lo h1 k hk).1
  match j, hj with
  | 0, _ => exact hne rfl
  | 1, _ => have := (RC.lo h2 k e.symm).1; omega
  | 2, _ => have := (RC.lo h3 k e.symm).1; omega
  | j + 3, hj => exact absurd hj (by simp)
 | 1, _ =>
  refine RC.weak (RC.lower h2 (show lo1 ≤ lo2 by omega)) fun k hk j hj hne e => ?_
  have g1 := (RC.lo h2 k hk).1
  match j, hj with
  | 0, _ => have := (RC.lo h1 k e.symm).1; omega
  | 1, _ => exact hne rfl
  | 2, _ => have := (RC.lo h3 k e.symm).1; omega
  | j + 3, hj => exact absurd hj (by simp)
 | 2, _ =>
  refine RC.weak (RC.lower h3 (show lo1 ≤ lo3 by omega)) fun k hk j hj hne e => ?_
  have g1 := (RC.lo h3 k hk).1
  match j, hj with
  | 0, _ => have := (RC.lo h1 k e.symm).1; omega
  | 1, _ => have := (RC.lo h2 k e.symm).1; omega
  | 2, _ => exact hne rfl
  | j + 3, hj => exact absurd hj (by simp)
 | i + 3, hi => exact absurd hi (by simp)
section
variable {ad : Int → Addr} {p0 p1 : Int × Int} {X Y : List Int} {w w1 : World} {cs bs : Array Value} {lo1 hi1 lo2 hi2 lo3 hi3 : Nat} {L M O N0 N1 : Option Addr} {C D G M0 M1 : Nat} {E0 E1 : Value}
structure V1 (ad : Int → Addr) (p0 : Int × Int) (X : List Int) (w w1 : World) (cs bs : Array Value) (lo1 hi1 : Nat) (L : Option Addr) (C : Nat) (E0 : Value) (W : World) : Prop where
 tn : TN w w1 cs bs W
 a : Mid3 lo1 hi1 (.slice L X.length C) X W
 e0 : ErrW ad W E0 p0
 h0 : w.heap.size < lo1
 h1 : w1.heap.size < lo1
 h2 : lo1 ≤ hi1
 h3 : hi1 ≤ W.heap.size
theorem V1.more {W W' : World} (h : V1 ad p0 X w w1 cs bs lo1 hi1 L C E0 W) (hb : Below W.heap.size W W') : V1 ad p0 X w w1 cs bs lo1 hi1 L C E0 W' :=
 ⟨h.tn.more hb, h.a.below hb, h.e0.below hb, h.h0, h.h1, h.h2, Nat.le_trans h.h3 hb.size⟩
theorem V1.start {W W' : World} (h : TN w w1 cs bs W) (ha : Mid3 W.heap.size W'.heap.size (.slice L X.length C) X W') (he : ErrW ad W' E0 p0) (hb : Below W.heap.size W W') : V1 ad p0 X w w1 cs bs W.heap.size W'.heap.size L C E0 W' :=
 ⟨h.more hb, ha, he, Box.in_ h.2.2.1, Box.in_ h.2.2.2, hb.size, Nat.le_refl _⟩
structure V2 (ad : Int → Addr) (p0 p1 : Int × Int) (X Y : List Int) (w w1 : World) (cs bs : Array Value) (lo1 hi1 lo2 hi2 : Nat) (L M : Option Addr) (C D : Nat) (E0 E1 : Value) (W : World) : Prop where
 v1 : V1 ad p0 X w w1 cs bs lo1 hi1 L C E0 W
 b : Mid3 lo2 hi2 (.slice M Y.length D) Y W
 e1 : ErrW ad W E1 p1
 h4 : hi1 ≤ lo2
 h5 : lo2 ≤ hi2
 h6 : hi2 ≤ W.heap.size
theorem V2.more {W W' : World} (h : V2 ad p0 p1 X Y w w1 cs bs lo1 hi1 lo2 hi2 L M C D E0 E1 W) (hb : Below W.heap.size W W') : V2 ad p0 p1 X Y w w1 cs bs lo1 hi1 lo2 hi2 L M C D E0 E1 W' :=
 ⟨h.v1.more hb, h.b.below hb, h.e1.below hb, h.h4, h.h5, Nat.le_trans h.h6 hb.size⟩
theorem V2.start {W W' : World} (h : V1 ad p0 X w w1 cs bs lo1 hi1 L C E0 W) (ha : Mid3 W.heap.size W'.heap.size (.slice M Y.length D) Y W') (he : ErrW ad W' E1 p1) (hb : Below W.heap.size W W') : V2 ad p0 p1 X Y w w1 cs bs lo1 hi1 W.heap.size W'.heap.size L M C D E0 E1 W' :=
 ⟨h.more hb, ha, he, h.h3, hb.size, Nat.le_refl _⟩
structure V3 (ad : Int → Addr) (p0 p1 : Int × Int) (X Y : List Int) (w w1 : World) (cs bs : Array Value) (lo1 hi1 lo2 hi2 lo3 hi3 : Nat) (L M O : Option Addr) (C D G : Nat) (E0 E1 : Value) (W : World) : Prop where
 v2 : V2 ad p0 p1 X Y w w1 cs bs lo1 hi1 lo2 hi2 L M C D E0 E1 W
 c : Mid3 lo3 hi3 (.slice O Y.length G) Y W
 h7 : hi2 ≤ lo3
 h8 : lo3 ≤ hi3
 h9 : hi3 ≤ W.heap.size
theorem V3.more {W W' : World} (h : V3 ad p0 p1 X Y w w1 cs bs lo1 hi1 lo2 hi2 lo3 hi3 L M O C D G E0 E1 W) (hb : Below W.heap.size W W') : V3 ad p0 p1 X Y w w1 cs bs lo1 hi1 lo2 hi2 lo3 hi3 L M O C D G E0 E1 W' :=
 ⟨h.v2.more hb, h.c.below hb, h.h7, h.h8, Nat.le_trans h.h9 hb.size⟩
theorem V3.start {W W' : World} (h : V2 ad p0 p1 X Y w w1 cs bs lo1 hi1 lo2 hi2 L M C D E0 E1 W) (ha : Mid3 W.heap.size W'.heap.size (.slice O Y.length G) Y W') (hb : Below W.heap.size W W') : V3 ad p0 p1 X Y w w1 cs bs lo1 hi1 lo2 hi2 W.heap.size W'.heap.size L M O C D G E0 E1 W' :=
 ⟨h.more hb, ha, h.h6, hb.size, Nat.le_refl _⟩
theorem V3.apart {W : World} (h : V3 ad p0 p1 X Y w w1 cs bs lo1 hi1 lo2 hi2 lo3 hi3 L M O C D G E0 E1 W) (hX : X.length ≤ 60) (hY : Y.length ≤ 60) (t : TypeId) :
 Calls Tryd.prog 32 #[.slice (some ⟨W.heap.size, 0, none⟩) 3 3] (W.alloc (.cells #[.slice L X.length C, .slice M Y.length D, .slice O Y.length G] t)) fun e w' => e = .returned (.bool true) ∧ Aside0 (TN w w1 cs bs w') := by
 have hb := (Below.refl W.heap.size W).alloc (Nat.le_refl _) (.cells #[.slice L X.length C, .slice M Y.length D, .slice O Y.length G] t)
 have h' := h.more hb
 have hA : All (some ⟨W.heap.size, 0, none⟩) [sl L X.length C, sl M Y.length D, sl O Y.length G] (W.alloc (.cells #[.slice L X.length C, .slice M Y.length D, .slice O Y.length G] t)) := lit3_All _ _ t (sl L X.length C) (sl M Y.length D) (sl O Y.length G) (Box.new W _ _)
 have hO : Own .i64 3 lo1 [sl L X.length C, sl M Y.length D, sl O Y.length G] [X, Y, Y] W := own3 (u := sl L X.length C) (v := sl M Y.length D) (z := sl O Y.length G) h.v2.v1.a h.v2.b h.c h.v2.v1.h2 h.v2.h4 h.v2.h5 h.h7
 have hO' : Own .i64 3 lo1 [sl L X.length C, sl M Y.length D, sl O Y.length G] [X, Y, Y] (W.alloc (.cells #[.slice L X.length C, .slice M Y.length D, .slice O Y.length G] t)) := own3 (u := sl L X.length C) (v := sl M Y.length D) (z := sl O Y.length G) h'.v2.v1.a h'.v2.b h'.c h'.v2.v1.h2 h'.v2.h4 h'.v2.h5 h'.h7
 have hlo : lo1 ≤ W.heap.size := by
  have := h.v2.v1.h2
  have := h.v2.v1.h3
  omega
 have hlo' : lo1 ≤ (W.alloc (.cells #[.slice L X.length C, .slice M Y.length D, .slice O Y.length G] t)).heap.size := Nat.le_trans hlo hb.size
 refine (ApartInts_yes lo1 _ [X, Y, Y] (some ⟨W.heap.size, 0, none⟩) 3 _ (by simp) (by simp) hA ?_ hO' rfl ?_ hlo').mono fun e w' ⟨he, hb'⟩ => ⟨he, ⟨h'.v2.v1.tn.base lo1 hb' h.v2.v1.h0 h.v2.v1.h1 hlo'⟩⟩
 · intro ad ha j hj e
   obtain rfl := Option.some.inj ha
   have := (hO.lo j hj _ e).2
   dsimp only at this
   omega
 · intro p hp
   match p, hp with
   | 0, _ => show X.length ≤ _; omega
   | 1, _ => show Y.length ≤ _; omega
   | 2, _ => show Y.length ≤ _; omega
structure V5 (ad : Int → Addr) (p0 p1 : Int × Int) (X Y : List Int) (w w1 : World) (cs bs : Array Value) (lo1 hi1 lo2 hi2 lo3 hi3 : Nat) (L M O : Option Addr) (C D G : Nat) (E0 E1 : Value) (N0 : Option Addr) (M0 : Nat) (N1 : Option Addr) (M1 : Nat) (W : World) : Prop where
 v3 : V3 ad p0 p1 X Y w w1 cs bs lo1 hi1 lo2 hi2 lo3 hi3 L M O C D G E0 E1 W
 g0 : X.length ≤ M0
 n0 : Kd.C (Kd.int .i64) W N0 X.length X
 g1 : Y.length ≤ M1
 n1 : Kd.C (Kd.int .i64) W N1 Y.length Y
theorem V5.more {W W' : World} (h : V5 ad p0 p1 X Y w w1 cs bs lo1 hi1 lo2 hi2 lo3 hi3 L M O C D G E0 E1 N0 M0 N1 M1 W) (hb : Below W.heap.size W W') : V5 ad p0 p1 X Y w w1 cs bs lo1 hi1 lo2 hi2 lo3 hi3 L M O C D G E0 E1 N0 M0 N1 M1 W' :=
 ⟨h.v3.more hb, h.g0, Kd.C_below h.n0 hb, h.g1, Kd.C_below h.n1 hb⟩
theorem V5.tn {W : World} (h : V5 ad p0 p1 X Y w w1 cs bs lo1 hi1 lo2 hi2 lo3 hi3 L M O C D G E0 E1 N0 M0 N1 M1 W) : TN w w1 cs bs W := h.v3.v2.v1.tn
theorem ints_yes {S : List Int} {A : Option Addr} {c : Nat} {N : Option Addr} {G : Nat} {W : World} (hS : S.length ≤ 60) (h : ∃ A' c', (Value.slice A S.length c) = .slice A' S.length c' ∧ S.length ≤ c' ∧ Kd.C (Kd.int .i64) W A' S.length S) (h' : Kd.C (Kd.int .i64) W N S.length S) (hc' : S.length ≤ G) :
 Calls Tryd.prog 20 #[.slice A S.length c, .slice N S.length G] W fun e w' => e = .returned (.bool true) ∧ Below W.heap.size W w' := by
 obtain ⟨A', c', e, hc, hr⟩ := h
 injection e with e1 e2 e3
 subst e1 e3
 have hf : dovetailkit_Ints.f 61 S S = some true := by rw [KInts_f S S 61 (by omega) (by omega)]; simp
 exact (dovetailkit_Ints.calls 61 A c S N G S true W hr hc h' hc' hf).mono fun _ _ ⟨he, hd⟩ => ⟨he, hd.below⟩
theorem V5.i0 {W : World} (h : V5 ad p0 p1 X Y w w1 cs bs lo1 hi1 lo2 hi2 lo3 hi3 L M O C D G E0 E1 N0 M0 N1 M1 W) (hX : X.length ≤ 60) : Calls Tryd.prog 20 #[.slice L X.length C, .slice N0 X.length M0] W fun e w' => e = .returned (.bool true) ∧ Aside0 (V5 ad p0 p1 X Y w w1 cs bs lo1 hi1 lo2 hi2 lo3 hi3 L M O C D G E0 E1 N0 M0 N1 M1 w') :=
 (ints_yes hX (RC.reads h.v3.v2.v1.a) h.n0 h.g0).mono fun _ _ ⟨he, hb⟩ => ⟨he, ⟨h.more hb⟩⟩
theorem V5.i1 {W : World} (h : V5 ad p0 p1 X Y w w1 cs bs lo1 hi1 lo2 hi2 lo3 hi3 L M O C D G E0 E1 N0 M0 N1 M1 W) (hY : Y.length ≤ 60) : Calls Tryd.prog 20 #[.slice M Y.length D, .slice N1 Y.length M1] W fun e w' => e = .returned (.bool true) ∧ Aside0 (V5 ad p0 p1 X Y w w1 cs bs lo1 hi1 lo2 hi2 lo3 hi3 L M O C D G E0 E1 N0 M0 N1 M1 w') :=
 (ints_yes hY (RC.reads h.v3.v2.b) h.n1 h.g1).mono fun _ _ ⟨he, hb⟩ => ⟨he, ⟨h.more hb⟩⟩
theorem V5.i2 {W : World} (h : V5 ad p0 p1 X Y w w1 cs bs lo1 hi1 lo2 hi2 lo3 hi3 L M O C D G E0 E1 N0 M0 N1 M1 W) (hY : Y.length ≤ 60) : Calls Tryd.prog 20 #[.slice O Y.length G, .slice N1 Y.length M1] W fun e w' => e = .returned (.bool true) ∧ Aside0 (V5 ad p0 p1 X Y w w1 cs bs lo1 hi1 lo2 hi2 lo3 hi3 L M O C D G E0 E1 N0 M0 N1 M1 w') :=
 (ints_yes hY (RC.reads h.v3.c) h.n1 h.g1).mono fun _ _ ⟨he, hb⟩ => ⟨he, ⟨h.more hb⟩⟩
end

set_option maxHeartbeats 4000000 in
set_option maxRecDepth 100000 in
theorem EndsChains_calls (ad : Int → Addr) (A0 : Option Addr) (c0 : Nat) (l0 : List ByteArray) (A1 : Option Addr) (c1 : Nat) (l1 : List ByteArray) (a2 : Int) (A3 : Option Addr) (c3 : Nat) (l3 : List S41) (i tm : Int) (w : World) (hs : SentsK ad w) (hg : B.HandleP w) (hr0 : Kd.C Kd.string w A0 l0.length l0) (hc0 : l0.length ≤ c0) (hr1 : Kd.C Kd.string w A1 l1.length l1) (hc1 : l1.length ≤ c1) (hr3 : Kd.C k41 w A3 l3.length l3) (hc3 : l3.length ≤ c3)
 (b0 : l0.length < 8796093022207) (b1 : l1.length < 8796093022207) (b3 : l3.length < 4398046511104) (bx : ∀ x ∈ l3, x.f1.length < 17592186044415) (bi0 : -9223372036854775808 ≤ i) (bi1 : i < 9223372036854775808) (bt0 : -9223372036854775808 ≤ tm) (bt1 : tm < 9223372036854775808) :
 Calls Tryd.prog 8 #[.agg #[.slice A0 l0.length c0, .slice A1 l1.length c1, .int .i64 a2, .slice A3 l3.length c3], .int .i64 i, .int .i64 tm] w fun e w' => e = .returned (.bool true) ∧ Below w.heap.size w w' := by
 obtain ⟨cs, hcs⟩ : ∃ cs : Array Value, cs = #[.slice A0 l0.length c0, .slice A1 l1.length c1, .int .i64 a2, .slice A3 l3.length c3] := ⟨_, rfl⟩
 have st : GW w cs (w.alloc (.cells #[.slice A0 l0.length c0, .slice A1 l1.length c1, .int .i64 a2, .slice A3 l3.length c3] 32)) := by subst hcs; exact GW.start w _
 have kL : ∀ W, GW w cs W → Calls Tryd.prog 26 #[.agg #[.slice A0 l0.length c0, .slice A1 l1.length c1, .int .i64 a2, .slice A3 l3.length c3]] W fun e w' => ∃ B0 d0 B1 d1 B3 d3, e = .returned (.agg #[.slice B0 l0.length d0, .slice B1 l1.length d1, .int .i64 a2, .slice B3 l3.length d3]) ∧ Aside0 (MG w' B0 d0 l0 B1 d1 l1 B3 d3 l3 ∧ GW w cs w') :=
  fun W hW => (LentGrammar_m A0 c0 l0 A1 c1 l1 a2 A3 c3 l3 W (Kd.C_below hr0 hW.low) (Kd.C_below hr1 hW.low) (Kd.C_below hr3 hW.low) b0 b1 b3 bx).mono fun e w' ⟨B0, d0, B1, d1, B3, d3, he, hm⟩ => ⟨B0, d0, B1, d1, B3, d3, he, ⟨hm.out.1, hW.more hm.out.2⟩⟩
 have ST := Aside0.mk st
 have KL := Aside0.mk kL
 have HS := Aside0.mk hs
 have HG := Aside0.mk hg
 have HR0 := Aside0.mk hr0
 have HR1 := Aside0.mk hr1
 have HR3 := Aside0.mk hr3
 have HCS := Lib.hid hcs
 clear hs hg hr0 hr1 hr3 st kL hcs
 go_enter Tryd.func8, Tryd.ntmps8
 go_wp2_with (first
  | (go_at_call 26; (with_reducible refine (KL.out _ ST.out).mono ?_); rintro e w1 ⟨B0, d0, B1, d1, B3, d3, rfl, hm⟩)
  | (go_at_call 15; refine Aside0.out ?_))
 refine Aside0.mk ?_
 have hr0 := HR0.out
 have hr1 := HR1.out
 have hr3 := HR3.out
 have hs := HS.out
 have hg := HG.out
 obtain ⟨hmg, hgw⟩ := hm.out
 have m0 := C_max hr0
 have m1 := C_max hr1
 obtain ⟨bs, hbs⟩ : ∃ bs : Array Value, bs = #[.slice B0 l0.length d0, .slice B1 l1.length d1, .int .i64 a2, .slice B3 l3.length d3] := ⟨_, rfl⟩
 have t1 : TN w w1 cs bs (w1.alloc (.cells #[.slice B0 l0.length d0, .slice B1 l1.length d1, .int .i64 a2, .slice B3 l3.length d3] 32)) := by
  subst hbs
  have hb := (Below.refl w1.heap.size w1).alloc (Nat.le_refl _) (.cells #[.slice B0 l0.length d0, .slice B1 l1.length d1, .int .i64 a2, .slice B3 l3.length d3] 32)
  exact ⟨hgw.low.trans (hb.mono hgw.low.size), hb, hgw.2.below hb, Box.new w1 _ _⟩
 have CE : ∀ W, TN w w1 cs bs W → (W.cell? ⟨w.heap.size, 0, none⟩ = some (.slice A0 l0.length c0) ∧ W.cell? ⟨w.heap.size, 1, none⟩ = some (.slice A1 l1.length c1) ∧ W.cell? ⟨w.heap.size, 2, none⟩ = some (.int .i64 a2) ∧ W.cell? ⟨w.heap.size, 3, none⟩ = some (.slice A3 l3.length c3)) ∧ W.cell? ⟨w1.heap.size, 0, none⟩ = some (.slice B0 l0.length d0) ∧ W.cell? ⟨w1.heap.size, 1, none⟩ = some (.slice B1 l1.length d1) ∧ W.cell? ⟨w1.heap.size, 2, none⟩ = some (.int .i64 a2) ∧ W.cell? ⟨w1.heap.size, 3, none⟩ = some (.slice B3 l3.length d3) := by
  intro W hW; have hcs := HCS.out; subst hcs hbs; exact hW.cells
 have e0 := hmg.h0
 have e1 := hmg.h1
 have e3 := hmg.r3.1
 have q0 : ∀ W, TN w w1 cs bs W → Kd.C Kd.string W A0 l0.length l0 := fun W hW => Kd.C_below hr0 hW.low
 have q1 : ∀ W, TN w w1 cs bs W → Kd.C Kd.string W A1 l1.length l1 := fun W hW => Kd.C_below hr1 hW.low
 have q3 : ∀ W, TN w w1 cs bs W → Kd.C k41 W A3 l3.length l3 := fun W hW => Kd.C_below hr3 hW.low
 have p0 : ∀ W, TN w w1 cs bs W → Kd.C Kd.string W B0 l0.length l0 := fun W hW => Kd.C_below (C_pre hmg.r0) hW.low1
 have p1 : ∀ W, TN w w1 cs bs W → Kd.C Kd.string W B1 l1.length l1 := fun W hW => Kd.C_below (C_pre hmg.r1) hW.low1
 have p3 : ∀ W, TN w w1 cs bs W → Kd.C k41 W B3 l3.length l3 := fun W hW => Kd.C_below hmg.r3.reads hW.low1
 have kK : ∀ W, TN w w1 cs bs W → Calls Tryd.prog 29 #[.agg #[.slice B0 l0.length d0, .slice B1 l1.length d1, .int .i64 a2, .slice B3 l3.length d3], .agg #[.slice A0 l0.length c0, .slice A1 l1.length c1, .int .i64 a2, .slice A3 l3.length c3]] W fun e w' => e = .returned (.bool true) ∧ Below W.heap.size W w' :=
  fun W hW => KeptGrammar_yes B0 d0 B1 d1 B3 d3 A0 c0 l0 A1 c1 l1 a2 A3 c3 l3 W (hmg.below hW.low1) (q0 W hW) hc0 (q1 W hW) hc1 (q3 W hW) hc3
 have hX : ∀ r, (chainG l0 l1 a2 l3 i tm r).1.length ≤ 60 := fun r => chain_len
 have kC : ∀ (r : Bool) W, TN w w1 cs bs W → Calls Tryd.prog 15 #[.agg #[.slice B0 l0.length d0, .slice B1 l1.length d1, .int .i64 a2, .slice B3 l3.length d3], .int .i64 i, .int .i64 tm, .bool r] W fun e w' => ∃ L C E, e = .returned (.tuple #[.slice L (chainG l0 l1 a2 l3 i tm r).1.length C, E]) ∧ Aside0 (Mid3 W.heap.size w'.heap.size (.slice L (chainG l0 l1 a2 l3 i tm r).1.length C) (chainG l0 l1 a2 l3 i tm r).1 w' ∧ ErrW ad w' E (chainP l0 l1 a2 l3 i tm r) ∧ Below W.heap.size W w') :=
  fun r W hW => Chain_x ad l0 l1 a2 l3 i tm r B0 d0 B1 d1 B3 d3 W (hs.below hW.low) (p0 W hW) (by omega) (p1 W hW) (by omega) (p3 W hW) (by omega)
 have kR : ∀ (r : Bool) W, TN w w1 cs bs W → Calls Tryd.prog 31 #[.agg #[.slice A0 l0.length c0, .slice A1 l1.length c1, .int .i64 a2, .slice A3 l3.length c3], .int .i64 i, .int .i64 tm, .bool r] W fun e w' => ∃ N0 G0, e = .returned (.tuple #[.slice N0 (chainG l0 l1 a2 l3 i tm r).1.length G0, .int .i64 (chainP l0 l1 a2 l3 i tm r).1, .int .i64 (chainP l0 l1 a2 l3 i tm r).2]) ∧ Aside0 ((chainG l0 l1 a2 l3 i tm r).1.length ≤ G0 ∧ Kd.C (Kd.int .i64) w' N0 (chainG l0 l1 a2 l3 i tm r).1.length (chainG l0 l1 a2 l3 i tm r).1 ∧ Below W.heap.size W w') := by
  intro r W hW
  obtain ⟨kk, hrf⟩ := refChain_ok l0 l1 a2 l3 m0 m1 i tm r
  refine (dovetailref08_Chain.calls kk A0 c0 l0 A1 c1 l1 a2 A3 c3 l3 i tm r _ _ _ W (q0 W hW) hc0 (q1 W hW) hc1 (q3 W hW) hc3 hrf).mono ?_
  rintro e w6 ⟨v0, rfl, hv, b2⟩
  obtain ⟨N0, G0, rfl⟩ := Kd.R_slice hv
  exact ⟨N0, G0, rfl, ⟨(Kd.R_reads' hv).2.1, (Kd.R_reads' hv).2.2, b2⟩⟩
 have kW : ∀ W, TN w w1 cs bs W → Calls Tryd.prog 13 #[] W fun e w' => e = .returned (.bool true) ∧ Aside0 (TN w w1 cs bs w') := fun W hW => (E8.Awake_calls ad W (hs.below hW.low)).mono fun _ _ ⟨he, hb⟩ => ⟨he, ⟨hW.more hb⟩⟩
 have kCf := kC false
 have kCt := kC true
 have kRf := kR false
 have kRt := kR true
 have hXf := hX false
 have hXt := hX true
 clear kC kR hX
 generalize (chainG l0 l1 a2 l3 i tm false).1 = X at kCf kRf hXf
 generalize (chainG l0 l1 a2 l3 i tm true).1 = Y at kCt kRt hXt
 generalize chainP l0 l1 a2 l3 i tm false = pf at kCf kRf
 generalize chainP l0 l1 a2 l3 i tm true = pt at kCt kRt
 obtain ⟨n1, n2⟩ := pf
 obtain ⟨n3, n4⟩ := pt
 have kD : ∀ W E n m, TN w w1 cs bs W → ErrW ad W E (n, m) → Calls Tryd.prog 18 #[E] W fun e w' => e = .returned (.int .i64 n) ∧ Below W.heap.size W w' := fun W E n m hW hE => Kind_w (hs.below hW.low) hE
 have kU : ∀ W E n m, TN w w1 cs bs W → ErrW ad W E (n, m) → Calls Tryd.prog 28 #[E] W fun e w' => e = .returned (.int .i64 m) ∧ Below W.heap.size W w' := fun W E n m hW hE => Rule_w (hg.below hW.low) hE
 have T1 := Aside0.mk t1
 have CE' := Aside0.mk CE
 have KK := Aside0.mk kK
 have KC := Aside0.mk kCf
 have KT := Aside0.mk kCt
 have KR := Aside0.mk kRf
 have KS := Aside0.mk kRt
 have KD := Aside0.mk kD
 have KU := Aside0.mk kU
 have KW := Aside0.mk kW
 have HBS := Lib.hid hbs
 have H60 := Lib.hid (And.intro hXf hXt)
 clear hr0 hr1 hr3 hs hg hmg hgw HR0 HR1 HR3 HS HG KL ST hm t1 CE q0 q1 q3 p0 p1 p3 kK kCf kCt kRf kRt kD kU kW hbs bx hXf hXt b0 b1 b3 m0 m1 e0 e1 e3
 (with_reducible refine (KC.out _ T1.out).mono ?_); rintro e w2 ⟨L, C, E0, rfl, u1⟩
 have z1 := Aside0.mk (V1.start T1.out u1.out.1 u1.out.2.1 u1.out.2.2)
 obtain ⟨⟨f0, f1, f2, f3⟩, g0, g1, g2, g3⟩ := CE'.out _ z1.out.tn
 go_wp2_with (first
  | (go_at_call 15; (with_reducible refine (KT.out _ z2.out.v1.tn).mono ?_); clear f0 f1 f2 f3 g0 g1 g2 g3; rintro e w4 ⟨O, G, E2, rfl, u3⟩; have z3 := Aside0.mk (V3.start z2.out u3.out.1 u3.out.2.2); obtain ⟨⟨f0, f1, f2, f3⟩, g0, g1, g2, g3⟩ := CE'.out _ z3.out.v2.v1.tn)
  | (go_at_call 15; (with_reducible refine (KT.out _ z1.out.tn).mono ?_); clear f0 f1 f2 f3 g0 g1 g2 g3; rintro e w3 ⟨M, D, E1, rfl, u2⟩; have z2 := Aside0.mk (V2.start z1.out u2.out.1 u2.out.2.1 u2.out.2.2); obtain ⟨⟨f0, f1, f2, f3⟩, g0, g1, g2, g3⟩ := CE'.out _ z2.out.v1.tn)
  | (go_at_call 31; refine Aside0.out ?_))
 refine Aside0.mk ?_
 (with_reducible refine (KR.out _ z3.out.v2.v1.tn).mono ?_); clear f0 f1 f2 f3 g0 g1 g2 g3; rintro e w5 ⟨N0, M0, rfl, u4⟩
 have y3 := Aside0.mk (z3.out.more u4.out.2.2)
 obtain ⟨⟨f0, f1, f2, f3⟩, g0, g1, g2, g3⟩ := CE'.out _ y3.out.v2.v1.tn
 go_wp2_with (first
  | (go_at_call 31; refine Aside0.out ?_))
 refine Aside0.mk ?_
 (with_reducible refine (KS.out _ y3.out.v2.v1.tn).mono ?_); clear f0 f1 f2 f3 g0 g1 g2 g3; rintro e w6 ⟨N1, M1, rfl, u5⟩
 have z4 : Aside0 (V5 ad (n1, n2) (n3, n4) X Y w w1 cs bs _ _ _ _ _ _ L M O C D G E0 E1 N0 M0 N1 M1 w6) := ⟨y3.out.more u5.out.2.2, u4.out.1, Kd.C_below u4.out.2.1 u5.out.2.2, u5.out.1, u5.out.2.1⟩
 obtain ⟨⟨f0, f1, f2, f3⟩, g0, g1, g2, g3⟩ := CE'.out _ z4.out.tn
 clear u1 u2 u3 u4 u5 z1 z2 z3 y3
 go_wp2_with (first
  | (go_at_call 18; (with_reducible refine (KD.out _ _ _ _ z6.out.tn z6.out.v3.v2.e1).mono ?_); clear f0 f1 f2 f3 g0 g1 g2 g3; rintro e x3 ⟨rfl, b7⟩; have z7 := Aside0.mk (z6.out.more b7); clear b7; obtain ⟨⟨f0, f1, f2, f3⟩, g0, g1, g2, g3⟩ := CE'.out _ z7.out.tn)
  | (go_at_call 18; (with_reducible refine (KD.out _ _ _ _ z4.out.tn z4.out.v3.v2.v1.e0).mono ?_); clear f0 f1 f2 f3 g0 g1 g2 g3; rintro e x1 ⟨rfl, b5⟩; have z5 := Aside0.mk (z4.out.more b5); clear b5; obtain ⟨⟨f0, f1, f2, f3⟩, g0, g1, g2, g3⟩ := CE'.out _ z5.out.tn)
  | (go_at_call 28; (with_reducible refine (KU.out _ _ _ _ z7.out.tn z7.out.v3.v2.e1).mono ?_); clear f0 f1 f2 f3 g0 g1 g2 g3; rintro e x4 ⟨rfl, b8⟩; have z8 := Aside0.mk (z7.out.more b8); clear b8; obtain ⟨⟨f0, f1, f2, f3⟩, g0, g1, g2, g3⟩ := CE'.out _ z8.out.tn)
  | (go_at_call 28; (with_reducible refine (KU.out _ _ _ _ z5.out.tn z5.out.v3.v2.v1.e0).mono ?_); clear f0 f1 f2 f3 g0 g1 g2 g3; rintro e x2 ⟨rfl, b6⟩; have z6 := Aside0.mk (z5.out.more b6); clear b6; obtain ⟨⟨f0, f1, f2, f3⟩, g0, g1, g2, g3⟩ := CE'.out _ z6.out.tn)
  | (go_at_call 20; (with_reducible refine (z10.out.i2 H60.out.2).mono ?_); clear f0 f1 f2 f3 g0 g1 g2 g3; rintro e x7 ⟨rfl, z11⟩; obtain ⟨⟨f0, f1, f2, f3⟩, g0, g1, g2, g3⟩ := CE'.out _ z11.out.tn)
  | (go_at_call 20; (with_reducible refine (z9.out.i1 H60.out.2).mono ?_); clear f0 f1 f2 f3 g0 g1 g2 g3; rintro e x6 ⟨rfl, z10⟩; obtain ⟨⟨f0, f1, f2, f3⟩, g0, g1, g2, g3⟩ := CE'.out _ z10.out.tn)
  | (go_at_call 20; (with_reducible refine (z8.out.i0 H60.out.1).mono ?_); clear f0 f1 f2 f3 g0 g1 g2 g3; rintro e x5 ⟨rfl, z9⟩; obtain ⟨⟨f0, f1, f2, f3⟩, g0, g1, g2, g3⟩ := CE'.out _ z9.out.tn)
  | (go_at_call 29; (with_reducible refine (KK.out _ z11.out.tn).mono ?_); clear f0 f1 f2 f3 g0 g1 g2 g3; rintro e x8 ⟨rfl, b12⟩; have z12 := Aside0.mk (z11.out.more b12); clear b12; obtain ⟨⟨f0, f1, f2, f3⟩, g0, g1, g2, g3⟩ := CE'.out _ z12.out.tn)
  | (go_at_call 32; refine Aside0.out ?_))
 refine Aside0.mk ?_
 (with_reducible refine (z12.out.v3.apart H60.out.1 H60.out.2 _).mono ?_); clear f0 f1 f2 f3 g0 g1 g2 g3; rintro e x9 ⟨rfl, z13⟩
 go_wp2_with (first
  | (go_at_call 13; (with_reducible refine (KW.out _ z13.out).mono ?_); rintro e y1 ⟨rfl, z14⟩))
 go_ret
 exact ⟨rfl, z14.out.low⟩
end Go.Proofs.YtjkifeladmhkoaaDoor.Cw
namespace Go.Proofs.YtjkifeladmhkoaaDoor.endsChains
open Go.ChangeShapes Go.WideShapes Go.ChangeAt Go.RowKit YtjkifeladmhkoaaDoorW.PrintWords H B

theorem own : ownKnob Tryd.prog.godebug = none := by kernel_rfl
theorem laidOut : laidOutB Tryd.prog = true := by kernel_rfl
theorem bounds_i {n : Int} (h : (Lit.int .i64 n).wf = true) : -9223372036854775808 ≤ n ∧ n < 9223372036854775808 := by
 have h1 : IntKind.i64.min = -9223372036854775808 := by decide
 have h2 : IntKind.i64.max = 9223372036854775807 := by decide
 have h3 : (decide (IntKind.i64.min ≤ n) && decide (n ≤ IntKind.i64.max)) = true := h
 rw [h1, h2] at h3
 simp only [Bool.and_eq_true, decide_eq_true_eq] at h3
 omega

set_option maxRecDepth 100000 in
theorem contract (H : Type) (enc : TypeId × Value → H) (W : World) (base : Nat) (args : Array Value) (ds gs : List (DataW H)) (before : List MemPlace)
 (hval : ∀ (j : Nat) t v, Tryd.f8.params[j]? = some t → args[j]? = some v → Value.okWide Tryd.prog W .any base t v)
 (ad : Int → Addr) (hs : SentsK ad W) (hg : HandleP W)
 (hz : (DataW.weightsEach Tryd.prog (Tryd.f8.params.toList ++ (OpenSpec.ofChange Rows.endsChainsSpec).bare.plain.varTypes Tryd.prog) (ds ++ gs)).all (· ≤ reachBytes) = true)
 (hW : DataW.Whole enc Tryd.prog Tryd.f8.params.toList Rows.endsChainsSpec.vars false W args.toList ds gs before) :
 Calls Tryd.prog 8 args W fun e W' => ∃ v, e = .returned v ∧ Rows.endsChainsSpec.post enc Tryd.prog Tryd.f8 false true false false W args v W' := by
 have hW' := hW
 obtain ⟨p, q, hA0, hV, rfl, hfz, hnd⟩ := hW
 have hA : DataW.TrodAll enc Tryd.prog W 0 (fun _ => true) true Tryd.f8.params.toList args.toList ds p := hA0
 rw [Tryd.params8] at hA hval
 obtain ⟨v0, vs0, d0, ds0, p0, q0, hargs, rfl, rfl, h0, r0⟩ := trodAll_cons hA
 obtain ⟨v1, vs1, d1, ds1, p1, q1, rfl, rfl, rfl, h1, r1⟩ := trodAll_cons r0
 obtain ⟨v2, vs2, d2, ds2, p2, q2, rfl, rfl, rfl, h2, r2⟩ := trodAll_cons r1
 obtain ⟨rfl, rfl, rfl⟩ := trodAll_nil r2
 obtain rfl : args = #[v0, v1, v2] := by cases args; simp_all
 obtain ⟨rfl, rfl⟩ := trodVars_none hV
 obtain ⟨g0, A00, c00, A01, c01, A03, c03, rfl, l00, k00, l01, k01, l03, k03, z00, z01, z03, zx0⟩ := OG.open_gz (hval 0 32 v0 rfl rfl) h0 (fun n hn => by simpa using List.all_eq_true.1 hz n (DataW.weights_mem_each (j := 0) (by kernel_rfl) rfl n hn))
 have e1 := h1
 obtain ⟨n1, rfl, rfl, rfl, w1⟩ := open_int Tryd.underlying3 (hval 1 3 v1 rfl rfl) e1
 have e2 := h2
 obtain ⟨n2, rfl, rfl, rfl, w2⟩ := open_int Tryd.underlying3 (hval 2 3 v2 rfl rfl) e2
 refine (Cw.EndsChains_calls ad A00 c00 g0.f0 A01 c01 g0.f1 g0.f2 A03 c03 g0.f3 n1 n2 W hs hg k00 l00 k01 l01 k03 l03 z00 z01 z03 zx0 (bounds_i w1).1 (bounds_i w1).2 (bounds_i w2).1 (bounds_i w2).2).mono fun e W' ⟨he, bel⟩ => ?_
 subst he
 simp only [List.append_nil] at hW'
 exact ⟨_, rfl, _, _, _, [], _, [], hW', trodAll_mk1 (shut_bool Tryd.underlying4 _), (trodAll_cons_mk (Below.trod laidOut (by kernel_rfl) (of_decide_eq_true (by kernel_rfl)) h0 bel (trod_below h0)) (trodAll_cons_mk (Below.trod laidOut (by kernel_rfl) (of_decide_eq_true (by kernel_rfl)) h1 bel (trod_below h1)) (trodAll_cons_mk (Below.trod laidOut (by kernel_rfl) (of_decide_eq_true (by kernel_rfl)) h2 bel (trod_below h2)) trodAll_mk0))), rfl, bel.frame _, fun h => by cases h⟩

theorem laid_met (os : Os) (args : Array Value) : laidMetH Tryd.prog Rows.endsChainsRow.laid ((laidWorld16 os).forCall (fun _ _ => 0) ⟨#[], args, []⟩).memory := laid_met16 os args
theorem sents {W : World} (h : laidMetH Tryd.prog Rows.endsChainsRow.laid W) : (∃ ad, SentsK ad W) ∧ HandleP W := sents16 h
theorem reads (os : Os) {H : Type} (enc : TypeId × Value → H) : ∃ places, DataW.whole enc Tryd.prog ((laidWorld16 os).forCall (fun _ _ => 0) ⟨#[], #[Value.agg #[.slice none 0 0, .slice none 0 0, .int .i64 0, .slice none 0 0], Value.int .i64 0, Value.int .i64 0], []⟩).memory Tryd.f8.params.toList Rows.endsChainsSpec.vars false (#[Value.agg #[.slice none 0 0, .slice none 0 0, .int .i64 0, .slice none 0 0], Value.int .i64 0, Value.int .i64 0] : Array Value).toList 8 = some ([.agg [.nil, .nil, .lit (.int .i64 0), .nil], .lit (.int .i64 0), .lit (.int .i64 0)], [], places) :=
 ⟨[], by kernel_rfl⟩

set_option maxRecDepth 100000 in
theorem lifted (os : Os) (started : os.Started) (H : Type) (enc : TypeId × Value → H) (F : Stop.Interp) :
 ReturnsInHanded {} Tryd.checked os 8 .any ((OpenSpec.ofChange Rows.endsChainsSpec).preRow enc Tryd.prog Tryd.f8 Rows.endsChainsRow.domain false Rows.endsChainsRow.laid) (((OpenSpec.ofChange Rows.endsChainsSpec).at F).post enc Tryd.prog Tryd.f8 false true false false) := by
 obtain ⟨places, hx⟩ := reads os enc
 refine returnsInHanded_of_row (C := Tryd.checked) (s := OpenSpec.ofChange Rows.endsChainsSpec) own started (by kernel_rfl) Tryd.func8
  (witness_row_atRef (enc := enc) (C := Tryd.checked) false (laidWorld16 os) #[Value.agg #[.slice none 0 0, .slice none 0 0, .int .i64 0, .slice none 0 0], Value.int .i64 0, Value.int .i64 0] rfl (by kernel_rfl) (by kernel_rfl) (by kernel_rfl)
   (OpenSpec.preRow_of_cond 8 hx (by kernel_rfl) (fun k hk => by cases hk) (by kernel_rfl) (laid_met os _))) ?_
 intro W base args ds gs before hval hW _ hcond hz hL _ _
 obtain ⟨⟨ad, hs⟩, hg⟩ := sents hL
 exact contract H enc W base args ds gs before hval ad hs hg hz hW

theorem said : Rows.EndsChainsSaid :=
 OpenClaim.holds_of_cond 8 Tryd.f8 rfl rfl rfl rfl rfl rfl rfl ⟨rfl, rfl, rfl, rfl, rfl⟩ rfl rfl rfl rfl rfl (by kernel_rfl) Tryd.func8 (by kernel_rfl)
  (of_decide_eq_true (by kernel_rfl)) (by unfold Func.isWrapper; first | (rw [if_pos (by decide +kernel)]; kernel_rfl) | (rw [if_neg (by decide +kernel)]; exact ⟨rfl, rfl⟩))
  (fun os started H enc _ F => by rw [OpenClaim.pre_eq_preRow]; exact lifted os started H enc F)

theorem plain (f : FuncId) (fn : Func) (hf : Tryd.pinned.checked.prog.funcNamed "dovetail/dovetaillaw08.EndsChains" = some f) (hfn : Tryd.pinned.checked.prog.funcs[f]? = some fn) :
 true = Tryd.pinned.checked.prog.looks [] ∧ ∀ (j : Nat) t, fn.params[j]? = some t → Tryd.pinned.checked.prog.wantsStandIn t = false := by
 obtain rfl : f = 8 := Option.some.inj ((show Tryd.prog.funcNamed "dovetail/dovetaillaw08.EndsChains" = some 8 by kernel_rfl).symm.trans hf) |>.symm
 obtain rfl : fn = Tryd.f8 := (Option.some.inj (Tryd.func8.symm.trans hfn)).symm
 refine ⟨by kernel_rfl, fun j t ht => ?_⟩
 rw [Tryd.params8] at ht
 have hm : t = 32 ∨ t = 3 ∨ t = 3 := by simpa using Array.mem_of_getElem? ht
 rcases hm with rfl | rfl | rfl
 · exact (show Tryd.prog.wantsStandIn 32 = false by kernel_rfl)
 · exact (show Tryd.prog.wantsStandIn 3 = false by kernel_rfl)
 · exact (show Tryd.prog.wantsStandIn 3 = false by kernel_rfl)

theorem proved : Rows.EndsChainsCardSaid :=
 Claim7.holds_tied_plain_at .later [] _ _ _ _ said (fun _ h => by cases h) (by kernel_rfl) (fun _ h => by cases h) endsChains_row_tie rfl ⟨rfl, rfl⟩ (by kernel_rfl) rfl plain (by kernel_rfl)
#print axioms proved
end Go.Proofs.YtjkifeladmhkoaaDoor.endsChains
