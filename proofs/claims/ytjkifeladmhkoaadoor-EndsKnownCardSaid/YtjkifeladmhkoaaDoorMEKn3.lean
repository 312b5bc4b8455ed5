/-
 dovetaillaw08.EndsKnown: whatever is handed in, the call answers true, and each argument reads as it did.
 Conditions: those of the given statement EndsKnownCardSaid alone.
-/
import Derived.Test.YtjkifeladmhkoaaDoorMEKn2
import Derived.OneCell
import Derived.Laws.EntriesVeiled
import Derived.Test.YtjkifeladmhkoaaDoorMEKn1
import Derived.Test.YtjkifeladmhkoaaDoorCards
import Derived.Test.YtjkifeladmhkoaaDoorTie
import Derived.LaidLaws
import Derived.LaidHandle
import Derived.Lib.LaidTab
import Derived.Lib.LaidIn
import Derived.SevenTiedAt
import Derived.WideShapes
import Derived.JoinedCond
import Derived.ChangeMaps5
import Derived.SizedLaws
import Derived.Deep.DeepHandedRow
import Derived.Deep.DeepWitnessRowRef
/- ends.Chain: walked. -/
set_option linter.unusedVariables false
set_option linter.unusedSimpArgs false
namespace Go.Proofs.YtjkifeladmhkoaaDoor.E8
open Go.RowKit Go.Proofs.YtjkifeladmhkoaaDoorW.PrintWords Go.Proofs.YtjkifeladmhkoaaDoorW.PrintLast Go.Proofs.YtjkifeladmhkoaaDoorW.PrintMore
open Go.Proofs.YtjkifeladmhkoaaDoor.B Go.Proofs.YtjkifeladmhkoaaDoor.Es

theorem infoInt : (Tryd.prog.info? 3).map (fun i => (i.zero, i.size, i.bytes)) = some (some (.int .i64 0), 1, 8) := by kernel_rfl
theorem From_any (r : Bool) (w : World) : Calls Tryd.prog 53 #[.bool r] w fun e w' => e = .returned (fv r) ∧ Below w.heap.size w w' := by
  cases r
  · exact FromF_calls w
  · exact FromT_calls w
theorem Box.far {b : Nat} {cs : Array Value} {t : TypeId} {W : World} (h : Box b cs t W) (p : Addr) (u : Value) (hne : b ≠ p.block) : Box b cs t (W.setCell p u) := by
  have h' : W.heap[b]? = some (.cells cs t (0, 0)) := h
  show (W.setCell p u).heap[b]? = _
  rw [Below.heap_setCell W p u b hne]; exact h'
theorem Box.put1 {b : Nat} {v : Value} {t : TypeId} {W : World} (h : Box b #[v] t W) (u : Value) : Box b #[u] t (W.setCell ⟨b, 0, none⟩ u) := by
  exact one_setCell (u := u) h
theorem fv_form (r : Bool) : ∃ fk, fv r = .func (.func fk) #[] #[] := by cases r <;> exact ⟨_, rfl⟩
/-- Chain's memory. -/
structure CH (w : World) (cs : Array Value) (q : Nat) (r : Bool) (i tm N : Nat) (far : List Int) (W : World) : Prop where
  low : Below w.heap.size w W
  bg : Box w.heap.size cs 32 W
  bi : Box (w.heap.size + 1) #[.int .i64 (i : Int)] 3 W
  bt : Box (w.heap.size + 2) #[.int .i64 (tm : Int)] 3 W
  bf : Box q #[fv r] 98 W
  bq : Box (q + 2) #[.slice (some ⟨q + 1, 0, none⟩) N N] 24 W
  row : Kd.R (Kd.int .i64) 3 W (q + 1) (fun k => k = q + 1) (.slice (some ⟨q + 1, 0, none⟩) N N) far
  lt : w.heap.size + 3 ≤ q
section
variable {w W W' : World} {cs : Array Value} {q : Nat} {r : Bool} {i tm N : Nat} {far : List Int}
theorem CH.below (h : CH w cs q r i tm N far W) (hb : Below W.heap.size W W') : CH w cs q r i tm N far W' :=
  ⟨h.low.trans (hb.mono h.low.size), h.bg.below hb, h.bi.below hb, h.bt.below hb, h.bf.below hb, h.bq.below hb, Kd.R_below h.row hb, h.lt⟩
theorem CH.store (h : CH w cs q r i tm N far W) (k : Nat) (x : Int) : CH w cs q r i tm N (far.set k x) (W.setCell ⟨q + 1, k, none⟩ (.int .i64 x)) := by
  have := h.lt
  refine ⟨h.low.setCell (by dsimp only; omega) _, Box.far h.bg _ _ (by dsimp only; omega), Box.far h.bi _ _ (by dsimp only; omega), Box.far h.bt _ _ (by dsimp only; omega), Box.far h.bf _ _ (by dsimp only; omega), Box.far h.bq _ _ (by dsimp only; omega), ?_, h.lt⟩
  have := Kd.R_putn h.row (k : Int) x
  rwa [Int.toNat_natCast] at this
theorem CH.putI (h : CH w cs q r i tm N far W) (j : Nat) : CH w cs q r j tm N far (W.setCell ⟨w.heap.size + 1, 0, none⟩ (.int .i64 (j : Int))) := by
  have := h.lt
  exact ⟨h.low.setCell (by dsimp only; omega) _, Box.far h.bg _ _ (by dsimp only; omega), Box.put1 h.bi _, Box.far h.bt _ _ (by dsimp only; omega), Box.far h.bf _ _ (by dsimp only; omega), Box.far h.bq _ _ (by dsimp only; omega), Kd.R_far (p := ⟨w.heap.size + 1, 0, none⟩) h.row (fun k hk => by dsimp only; omega) _, h.lt⟩
theorem CH.size (h : CH w cs q r i tm N far W) : q + 3 ≤ W.heap.size := Box.lt h.bq
theorem CH.grown (h : CH w cs q r i tm N far W) {row : Option Nat} (hg : W.grownBy W' row) (hr : ∀ k, row = some k → q + 3 ≤ k) : CH w cs q r i tm N far W' := by
  have hl := h.lt
  have hs := h.size
  have hne : ∀ b, b < q + 3 → some b ≠ row := fun b hb e => by have := hr b e.symm; omega
  have bx : ∀ {b : Nat} {c : Array Value} {t : TypeId}, b < q + 3 → Box b c t W → Box b c t W' := fun {b c t} hb hx => by
    have h' : W.heap[b]? = some (.cells c t (0, 0)) := hx
    show W'.heap[b]? = _
    rw [hg.block b (by omega) (hne b hb)]; exact h'
  exact ⟨h.low.grown hg h.low.size (fun k hk => by have := hr k hk; omega), bx (by omega) h.bg, bx (by omega) h.bi, bx (by omega) h.bt, bx (by omega) h.bf, bx (by omega) h.bq, Kd.R_grown h.row hg (fun k hk => hk ▸ hne _ (by omega)), h.lt⟩
theorem CH.far_at (h : CH w cs q r i tm N far W) (k : Nat) (hk : k < N) : W.cell? ⟨q + 1, k, none⟩ = some (.int .i64 (far.getD k 0)) ∧ W.frozen? ⟨q + 1, k, none⟩ = false := by
  obtain ⟨hc, hf⟩ := Kd.R_celln 0 h.row (k : Int) (by omega) (by omega)
  rw [Int.toNat_natCast] at hc hf
  exact ⟨by rw [hc, ← rd_D]; rfl, hf⟩
theorem CH.cb (h : CH w cs q r i tm N far W) {b n : Nat} (hb : Box b #[.int .i64 (n : Int)] 3 W) : CB q (w.heap.size + 1) b (w.heap.size + 2) (q + 2) (q + 1) r i n tm N far W := by
  have hr := (Kd.R_reads' h.row)
  exact ⟨h.bf, h.bi, hb, h.bt, h.bq, by have := hr.2.2; rwa [← hr.1] at this⟩
end
/-- The cells of it. -/
def CC (w : World) (v0 v1 v2 v3 : Value) (q : Nat) (fr : Value) (i tm : Int) (N : Nat) (W : World) : Prop := W.cell? ⟨w.heap.size, 0, none⟩ = some v0 ∧ W.cell? ⟨w.heap.size, 1, none⟩ = some v1 ∧ W.cell? ⟨w.heap.size, 2, none⟩ = some v2 ∧ W.cell? ⟨w.heap.size, 3, none⟩ = some v3 ∧ W.cell? ⟨w.heap.size + 1, 0, none⟩ = some (.int .i64 i) ∧ W.cell? ⟨w.heap.size + 2, 0, none⟩ = some (.int .i64 tm) ∧ W.cell? ⟨q, 0, none⟩ = some fr ∧ W.cell? ⟨q + 2, 0, none⟩ = some (.slice (some ⟨q + 1, 0, none⟩) N N)
theorem CH.cells {w W : World} {v0 v1 v2 v3 : Value} {q : Nat} {r : Bool} {i tm N : Nat} {far : List Int} (h : CH w #[v0, v1, v2, v3] q r i tm N far W) : CC w v0 v1 v2 v3 q (fv r) (i : Int) (tm : Int) N W :=
  ⟨h.bg.cell 0 _ rfl, h.bg.cell 1 _ rfl, h.bg.cell 2 _ rfl, h.bg.cell 3 _ rfl, h.bi.cell 0 _ rfl, h.bt.cell 0 _ rfl, h.bf.cell 0 _ rfl, h.bq.cell 0 _ rfl⟩
/-- At the start. -/
structure C0 (w : World) (cs : Array Value) (i tm : Nat) (W : World) : Prop where
  low : Below w.heap.size w W
  g : Box w.heap.size cs 32 W
  i : Box (w.heap.size + 1) #[.int .i64 (i : Int)] 3 W
  t : Box (w.heap.size + 2) #[.int .i64 (tm : Int)] 3 W
theorem C0.below {w W W' : World} {cs : Array Value} {i tm : Nat} (h : C0 w cs i tm W) (hb : Below W.heap.size W W') : C0 w cs i tm W' :=
  ⟨h.low.trans (hb.mono h.low.size), h.g.below hb, h.i.below hb, h.t.below hb⟩
theorem C0.start (w : World) (cs : Array Value) (i tm : Nat) : C0 w cs i tm (((w.alloc (.cells cs 32)).alloc (.cells #[.int .i64 (i : Int)] 3)).alloc (.cells #[.int .i64 (tm : Int)] 3)) := by
  refine ⟨(((Below.refl _ w).alloc (Nat.le_refl _) _).alloc (by simp) _).alloc (by simp; omega) _, ((Box.new w _ _).alloc _).alloc _, ?_, ?_⟩
  · have := (Box.new (w.alloc (.cells cs 32)) #[.int .i64 (i : Int)] 3).alloc (.cells #[.int .i64 (tm : Int)] 3)
    simpa using this
  · have := Box.new ((w.alloc (.cells cs 32)).alloc (.cells #[.int .i64 (i : Int)] 3)) #[.int .i64 (tm : Int)] 3
    simpa using this
theorem C0.cells {w W : World} {v0 v1 v2 v3 : Value} {i tm : Nat} (h : C0 w #[v0, v1, v2, v3] i tm W) : W.cell? ⟨w.heap.size, 0, none⟩ = some v0 ∧ W.cell? ⟨w.heap.size, 1, none⟩ = some v1 ∧ W.cell? ⟨w.heap.size, 2, none⟩ = some v2 ∧ W.cell? ⟨w.heap.size, 3, none⟩ = some v3 ∧ W.cell? ⟨w.heap.size + 1, 0, none⟩ = some (.int .i64 (i : Int)) ∧ W.cell? ⟨w.heap.size + 2, 0, none⟩ = some (.int .i64 (tm : Int)) :=
  ⟨h.g.cell 0 _ rfl, h.g.cell 1 _ rfl, h.g.cell 2 _ rfl, h.g.cell 3 _ rfl, h.i.cell 0 _ rfl, h.t.cell 0 _ rfl⟩

theorem ringStep_no {r : Bool} {tm n : Nat} {p1 : List Int} {p2 : Bool} {x : S41} (h : p1.getD x.f0.toNat 0 ≠ 0 ∨ hit r tm p1 n x.f1 = false) : ringStep r tm n (p1, p2) x = (p1, p2) := by
  unfold ringStep
  rw [if_neg]
  rintro ⟨h1, h2⟩
  rcases h with h | h
  · exact h h1
  · rw [h] at h2; cases h2
theorem ringStep_yes {r : Bool} {tm n : Nat} {p1 : List Int} {p2 : Bool} {x : S41} {a : Nat} (ha : x.f0 = (a : Int)) (h1 : p1.getD a 0 = 0) (h2 : hit r tm p1 n x.f1 = true) : ringStep r tm n (p1, p2) x = (p1.set a (n : Int), true) := by
  unfold ringStep
  rw [ha, Int.toNat_natCast, if_pos ⟨h1, h2⟩]
theorem idxC_ex {R : List S41} {r : Bool} {tm N : Nat} {far : List Int} (hf : Far R r tm N far) {i q : Nat} (hi : i < N) (hq : far.getD i 0 = (q : Int)) (h1 : 1 ≤ q) : ∃ kk x, idxC r tm far R q i = kk ∧ kk < R.length ∧ R[kk]? = some x ∧ x.f0 = (i : Int) ∧ hit r tm far q x.f1 = true := by
  obtain ⟨h, h2, h3⟩ := idxC_lt hf hi hq h1
  exact ⟨_, _, rfl, h, List.getElem?_eq_getElem h, h2, h3⟩
theorem sub1 {m : Nat} (h : 1 ≤ m) : ((m - 1 : Nat) : Int) = (m : Int) - 1 := by omega
theorem next_ex {R : List S41} {r : Bool} {t tm N : Nat} {far : List Int} (hf : Far R r tm N far) (hR : ∀ x ∈ R, okR t N x = true) {kk m : Nat} {x : S41} (hkx : R[kk]? = some x) (hh : hit r tm far m x.f1 = true) (hm : 2 ≤ m) : nextC r R kk < N ∧ far.getD (nextC r R kk) 0 = ((m - 1 : Nat) : Int) ∧ led r x.f1 = some (nextC r R kk) := by
  obtain ⟨hk, rfl⟩ := List.getElem?_eq_some_iff.1 hkx
  obtain ⟨q, rfl⟩ : ∃ q, m = q + 2 := ⟨m - 2, by omega⟩
  exact nextC_far hR hk hh
theorem box_frozen {b : Nat} {cs : Array Value} {t : TypeId} {W : World} (h : Box b cs t W) (j : Nat) : W.frozen? ⟨b, j, none⟩ = false := by
  have h' : W.heap[b]? = some (.cells cs t (0, 0)) := h
  unfold World.frozen?
  rw [show W.heap[(⟨b, j, none⟩ : Addr).block]? = _ from h']; rfl
/-- Amid the chain. -/
structure C2 (w : World) (cs : Array Value) (q : Nat) (r : Bool) (i tm N : Nat) (far : List Int) (b m : Nat) (v : Value) (L : List Int) (W : World) : Prop where
  ch : CH w cs q r i tm N far W
  nb : Box b #[.int .i64 (m : Int)] 3 W
  lb : q + 3 ≤ b
  own : Kd.R (Kd.int .i64) 3 W (q + 3) (fun k => k ≠ b) v L
section
variable {w W W' : World} {cs : Array Value} {q : Nat} {r : Bool} {i tm N : Nat} {far : List Int} {b m : Nat} {v v' : Value} {L L' : List Int}
theorem C2.below (h : C2 w cs q r i tm N far b m v L W) (hb : Below W.heap.size W W') : C2 w cs q r i tm N far b m v L W' :=
  ⟨h.ch.below hb, h.nb.below hb, h.lb, Kd.R_below h.own hb⟩
theorem C2.start (h : CH w cs q r i tm N far W) (d : Nat) : C2 w cs q r i tm N far W.heap.size d (.slice none 0 0) [] (W.alloc (.cells #[.int .i64 (d : Int)] 3)) :=
  ⟨h.below ((Below.refl _ _).alloc (Nat.le_refl _) _), Box.new W _ _, h.size, Kd.R_nil _ _ _ _ _⟩
theorem C2.next (h : C2 w cs q r i tm N far b m v L W) (d : Nat) : C2 w cs q r i tm N far W.heap.size d v L (W.alloc (.cells #[.int .i64 (d : Int)] 3)) :=
  ⟨h.ch.below ((Below.refl _ _).alloc (Nat.le_refl _) _), Box.new W _ _, h.ch.size, Kd.R_below (Kd.R_mono (Kd.R_bound h.own) fun k hk => by have := hk.2.2.1; omega) ((Below.refl _ _).alloc (Nat.le_refl _) _)⟩
theorem C2.putI (h : C2 w cs q r i tm N far b m v L W) (j : Nat) : C2 w cs q r j tm N far b m v L (W.setCell ⟨w.heap.size + 1, 0, none⟩ (.int .i64 (j : Int))) := by
  have hl := h.ch.lt
  have hb := h.lb
  exact ⟨h.ch.putI j, Box.far h.nb _ _ (by dsimp only; omega), h.lb, Kd.R_far (p := ⟨w.heap.size + 1, 0, none⟩) (Kd.R_mono (Kd.R_bound h.own) (ok' := fun k => k ≠ b ∧ q + 3 ≤ k) fun k hk => ⟨hk.1, hk.2.1⟩) (fun k hk => by dsimp only; omega) _ |> fun x => Kd.R_mono x fun k hk => hk.1⟩
theorem C2.grown (h : C2 w cs q r i tm N far b m v L W) (hg : W.grownBy W' v.ownBlock) (hR : Kd.R (Kd.int .i64) 3 W' (q + 3) (fun k => k ≠ b) v' L') : C2 w cs q r i tm N far b m v' L' W' := by
  have hlt := Box.lt h.nb
  refine ⟨h.ch.grown hg (fun k hk => Kd.R_base h.own k hk), ?_, h.lb, hR⟩
  have h' : W.heap[b]? = some (.cells #[.int .i64 (m : Int)] 3 (0, 0)) := h.nb
  show W'.heap[b]? = _
  rw [hg.block b hlt (fun e => h.own.1 b e.symm rfl)]; exact h'
end
/-- The number to which a pointer points. -/
def numAt (p : Value) (W : World) : Nat := match p with | .pointer (some a) => (match W.cell? a with | some v => (intOf v).toNat | none => 0) | _ => 0
theorem numAt_box {b m : Nat} {W : World} (h : Box b #[.int .i64 (m : Int)] 3 W) : numAt (.pointer (some ⟨b, 0, none⟩)) W = m := by
  have h1 : W.cell? ⟨b, 0, none⟩ = some (.int .i64 (m : Int)) := Box.cell h 0 _ rfl
  simp [numAt, h1, intOf]
theorem own_is {g n c k : Nat} (h : (Value.slice (some ⟨g, 0, none⟩) n c).ownBlock = some k) : k = g := by
  have : g = k := by simpa [Value.ownBlock] using h
  exact this.symm
theorem CH.start {w w2 : World} {cs : Array Value} {i tm N : Nat} {r : Bool} {v : Value} (hv : fv r = v) (h : C0 w cs i tm w2) (hN : N ≤ 1000) : CH w cs w2.heap.size r i tm N (List.replicate N 0) (((w2.alloc (.cells #[v] 98)).alloc (.cells (madeCells #[.int .i64 0] N) 3)).alloc (.cells #[.slice (some ⟨w2.heap.size + 1, 0, none⟩) N N] 24)) := by
  subst hv
  have b1 : Below w2.heap.size w2 (w2.alloc (.cells #[fv r] 98)) := (Below.refl _ _).alloc (Nat.le_refl _) _
  have b2 : Below w2.heap.size w2 ((w2.alloc (.cells #[fv r] 98)).alloc (.cells (madeCells #[.int .i64 0] N) 3)) := b1.alloc (by simp) _
  have b3 := b2.alloc (by simp; omega) (.cells #[.slice (some ⟨w2.heap.size + 1, 0, none⟩) N N] 24)
  have hb := h.below b3
  refine ⟨hb.low, hb.g, hb.i, hb.t, ((Box.new w2 _ _).alloc _).alloc _, ?_, ?_, Box.lt h.t⟩
  · have := Box.new ((w2.alloc (.cells #[fv r] 98)).alloc (.cells (madeCells #[.int .i64 0] N) 3)) #[.slice (some ⟨w2.heap.size + 1, 0, none⟩) N N] 24
    simpa using this
  · have ho := own_made (w2.alloc (.cells #[fv r] 98)) (w2.heap.size + 1) 3 .i64 N (by simp) (by omega)
    have ho2 := ho.alloc (.cells #[.slice (some ⟨w2.heap.size + 1, 0, none⟩) N N] 24)
    have hsz : (w2.alloc (.cells #[fv r] 98)).heap.size = w2.heap.size + 1 := by simp
    rw [hsz] at ho2
    exact Kd.R_of_own (enc := Value.int .i64) (h1 := fun _ => rfl) (by rw [List.length_replicate]; exact ho2) (fun k hk => own_is hk)

set_option maxHeartbeats 8000000 in
set_option maxRecDepth 100000 in
theorem Chain_ok (E15 : Value) (A0 : Option Addr) (c0 : Nat) (l0 : List ByteArray) (A1 : Option Addr) (c1 : Nat) (l1 : List ByteArray) (a2 : Int) (A3 : Option Addr) (c3 : Nat) (l3 : List S41) (r : Bool) (i tm : Nat) (w : World) (hr3 : Kd.C k41 w A3 l3.length l3) (hc3 : l3.length ≤ c3)
    (h15 : w.cell? ⟨1, 0, none⟩ = some E15)
    (hC : ∀ W, Below w.heap.size w W → Calls Tryd.prog 52 #[.agg #[.slice A0 l0.length c0, .slice A1 l1.length c1, .int .i64 a2, .slice A3 l3.length c3]] W fun e w' => e = .returned .nilIface ∧ Below W.heap.size W w')
    (hok : ∀ x ∈ l3, okR l0.length l1.length x = true) (h0 : l0.length ≤ 60) (h1 : l1.length ≤ 60) (h3 : l3.length ≤ 120) (hi : i < l1.length) (ht : tm < l0.length) :
    Calls Tryd.prog 15 #[.agg #[.slice A0 l0.length c0, .slice A1 l1.length c1, .int .i64 a2, .slice A3 l3.length c3], .int .i64 (i : Int), .int .i64 (tm : Int), .bool r] w fun e w' => Below w.heap.size w w' ∧
      (((farF r tm l1.length l3).getD i 0 = 0 ∧ e = .returned (.tuple #[.slice none 0 0, E15])) ∨
       ((farF r tm l1.length l3).getD i 0 ≠ 0 ∧ ∃ (g n : Nat) (cur : Array Value), n = (walkC r tm (farF r tm l1.length l3) l3 ((farF r tm l1.length l3).getD i 0).toNat i).length ∧ e = .returned (.tuple #[.slice (some ⟨g, 0, none⟩) n n, .nilIface]) ∧ w.heap.size ≤ g ∧ w'.heap[g]? = some (.cells cur 3 (0, 0)) ∧ cur.toList.take n = nums .i64 (walkC r tm (farF r tm l1.length l3) l3 ((farF r tm l1.length l3).getD i 0).toNat i))) := by
  have hF := farF_far (r := r) (tm := tm) hok
  obtain ⟨F, eF⟩ : ∃ F, farF r tm l1.length l3 = F := ⟨_, rfl⟩
  rw [eF] at hF ⊢
  obtain ⟨N, hN⟩ : ∃ N, N = l1.length := ⟨_, rfl⟩
  obtain ⟨cs, hcs⟩ : ∃ cs : Array Value, cs = #[.slice A0 l0.length c0, .slice A1 l1.length c1, .int .i64 a2, .slice A3 l3.length c3] := ⟨_, rfl⟩
  have st0 : C0 w cs i tm (((w.alloc (.cells #[.slice A0 l0.length c0, .slice A1 l1.length c1, .int .i64 a2, .slice A3 l3.length c3] 32)).alloc (.cells #[.int .i64 (i : Int)] 3)).alloc (.cells #[.int .i64 (tm : Int)] 3)) := by subst hcs; exact C0.start w _ i tm
  have ce0 : ∀ W, C0 w cs i tm W → W.cell? ⟨w.heap.size, 0, none⟩ = some (.slice A0 l0.length c0) ∧ W.cell? ⟨w.heap.size, 1, none⟩ = some (.slice A1 l1.length c1) ∧ W.cell? ⟨w.heap.size, 2, none⟩ = some (.int .i64 a2) ∧ W.cell? ⟨w.heap.size, 3, none⟩ = some (.slice A3 l3.length c3) ∧ W.cell? ⟨w.heap.size + 1, 0, none⟩ = some (.int .i64 (i : Int)) ∧ W.cell? ⟨w.heap.size + 2, 0, none⟩ = some (.int .i64 (tm : Int)) := by
    intro W hW; subst hcs; exact hW.cells
  have kC : ∀ W, C0 w cs i tm W → Calls Tryd.prog 52 #[.agg #[.slice A0 l0.length c0, .slice A1 l1.length c1, .int .i64 a2, .slice A3 l3.length c3]] W fun e w' => e = .returned .nilIface ∧ Aside0 (C0 w cs i tm w') := fun W hW => (hC W hW.low).mono fun _ _ h => ⟨h.1, ⟨hW.below h.2⟩⟩
  have kF : ∀ W, C0 w cs i tm W → Calls Tryd.prog 53 #[.bool r] W fun e w' => e = .returned (fv r) ∧ Aside0 (C0 w cs i tm w') := fun W hW => (From_any r W).mono fun _ _ h => ⟨h.1, ⟨hW.below h.2⟩⟩
  have hmk := print_make 24 3 .i64 8 Tryd.underlying24 infoInt (by decide) l1.length (by omega)
  have d1 : decide ((i : Int) < 0) = false := decide_eq_false (by omega)
  have d2 : decide ((tm : Int) < 0) = false := decide_eq_false (by omega)
  have d3 : decide ((l1.length : Int) ≤ (i : Int)) = false := decide_eq_false (by omega)
  have d4 : decide ((l0.length : Int) ≤ (tm : Int)) = false := decide_eq_false (by omega)
  have d3' : decide (l1.length ≤ i) = false := decide_eq_false (by omega)
  have d4' : decide (l0.length ≤ tm) = false := decide_eq_false (by omega)
  obtain ⟨f0, f1, f2, f3, f4, f5⟩ := ce0 _ st0
  have ST := Aside0.mk st0
  have CE := Aside0.mk ce0
  have KC := Aside0.mk kC
  have KF := Aside0.mk kF
  have HR := Aside0.mk hr3
  have HOK := Aside0.mk hok
  have HF := Aside0.mk hF
  have HN := Lib.hid hN
  have EF := Lib.hid eF
  have HCS := Lib.hid hcs
  have H15 := Aside0.mk h15
  clear st0 ce0 kC kF hr3 hok hF hN eF hcs h15 hC
  obtain ⟨fk, hfk⟩ := fv_form r
  rw [hfk] at KF
  have HFK := Lib.hid hfk
  clear hfk
  go_enter Tryd.func15, Tryd.ntmps15
  go_wp2
  go_step3
  go_wp2_with (first
    | (go_at_call 52; (with_reducible refine (KC.out _ ST.out).mono ?_); clear f0 f1 f2 f3 f4 f5; rintro e w1 ⟨rfl, t1⟩; obtain ⟨f0, f1, f2, f3, f4, f5⟩ := CE.out _ t1.out)
    | (go_at_call 53; (with_reducible refine (KF.out _ t1.out).mono ?_); clear f0 f1 f2 f3 f4 f5; rintro e w2 ⟨rfl, t2⟩; obtain ⟨f0, f1, f2, f3, f4, f5⟩ := CE.out _ t2.out; have f1a := fun o => Lib.cell?_alloc_some o f1))
  go_step3
  go_wp2_with fail
  have CE2 : Aside0 (∀ {i : Nat} W far, CH w cs w2.heap.size r i tm l1.length far W → CC w (.slice A0 l0.length c0) (.slice A1 l1.length c1) (.int .i64 a2) (.slice A3 l3.length c3) w2.heap.size (.func (.func fk) #[] #[]) (i : Int) (tm : Int) l1.length W) := ⟨fun W far hW => by have := HCS.out; subst this; rw [← HFK.out]; exact hW.cells⟩
  have ST2 : Aside0 (CH w cs w2.heap.size r i tm l1.length (List.replicate l1.length 0) (((w2.alloc (.cells #[.func (.func fk) #[] #[]] 98)).alloc (.cells (madeCells #[.int .i64 0] l1.length) 3)).alloc (.cells #[.slice (some ⟨w2.heap.size + 1, 0, none⟩) l1.length l1.length] 24))) := ⟨CH.start HFK.out t2.out (by omega)⟩
  have H15x : Aside0 (∀ W, Below w.heap.size w W → W.cell? ⟨1, 0, none⟩ = some E15) := ⟨fun W hW => (hW.cell (World.block_lt_of_cell? w _ H15.out)).trans H15.out⟩
  clear f0 f1 f2 f3 f4 f5 f1a hmk d1 d2 d3 d4 d3' d4'
  go_loopw [13, 14, 16, 17, 18, 19, 20] (fun n _ _ _ _ _ _ wr => ∃ (m : Nat) (far : List Int), 1 ≤ m ∧ m ≤ l1.length + 1 ∧ n = .int .i64 (m : Int) ∧ Hid (rings r tm l3 (l1.length + 1 - m) m far = F) ∧ Hid (far.length = l1.length) ∧ Aside0 (CH w cs w2.heap.size r i tm l1.length far wr)) (fun n _ _ _ _ _ _ _ => l1.length + 1 - (intOf n).toNat)
  case atStart => exact ⟨1, _, Nat.le_refl _, by omega, rfl, EF, Lib.hid (by simp), ST2⟩
  case round =>
    clear ST2
    obtain ⟨m, far, hm1, hm2, rfl, hrg, hfl, tr⟩ := hrel
    obtain ⟨wo, rfl⟩ : ∃ wo : World, wo = wr := ⟨_, rfl⟩
    obtain ⟨f0, f1, f2, f3, f4, f5, f6, f7⟩ := CE2.out _ far tr.out
    by_cases hlt : m ≤ l1.length
    · go_wp2_with fail
      go_loopw [14, 16, 17, 18, 19, 20, 66] (fun fnd _ _ _ _ _ j wq => ∃ (jj : Nat) (p : List Int × Bool), jj ≤ l3.length ∧ j = .int .i64 (jj : Int) ∧ fnd = .bool p.2 ∧ Hid ((l3.take jj).foldl (ringStep r tm m) (far, false) = p) ∧ Hid (p.1.length = l1.length) ∧ Aside0 (CH w cs w2.heap.size r i tm l1.length p.1 wq)) (fun _ _ _ _ _ _ j _ => l3.length - (intOf j).toNat)
      case atStart => exact ⟨0, (far, false), Nat.zero_le _, rfl, rfl, Lib.hid rfl, hfl, tr⟩
      case round =>
        clear f0 f1 f2 f3 f4 f5 f6 f7
        obtain ⟨jj, ⟨p1, p2⟩, hjj, rfl, rfl, hfo, hpl, tq⟩ := hrel
        dsimp only at tq hpl ⊢
        obtain ⟨f0, f1, f2, f3, f4, f5, f6, f7⟩ := CE2.out _ p1 tq.out
        by_cases hlt2 : jj < l3.length
        · skip
          obtain ⟨ad3, A3', c3', rfl, x0, x1, x2, x3⟩ := at_T41 (Kd.C_below HR.out tq.out.low) (jj : Int) (by omega) (by omega)
          have q0 : rd_T41 l3 (jj : Int) = l3[jj] := by rw [rdR_D, getD_lt _ _ _ hlt2]
          have hok := HOK.out l3[jj] (List.getElem_mem hlt2)
          have hfo2 : (l3.take (jj + 1)).foldl (ringStep r tm m) (far, false) = ringStep r tm m (p1, p2) l3[jj] := by
            rw [List.take_succ_eq_append_getElem hlt2, List.foldl_append, hfo.out]; rfl
          rw [Int.toNat_natCast] at x0 x1
          rw [q0] at x0 x1 x2 x3
          generalize l3[jj] = x at x0 x1 x2 x3 hok hfo2
          obtain ⟨_, ha0, ha1, hsd⟩ := okR_sides hok
          obtain ⟨a, ha⟩ : ∃ a : Nat, x.f0 = a := ⟨x.f0.toNat, by omega⟩
          have hll : ∀ s ∈ x.f1, (-9223372036854775808 : Int) ≤ s := fun s hs => by have := (hsd s hs).2; omega
          have haN : a < l1.length := by omega
          obtain ⟨a1, b1, a2', b2, hs1, hs2, hcase⟩ := hit_case r tm l1.length p1 m hm1 x.f1 (fun m' hm' => led_lt hok hm')
          obtain ⟨hv, hhv⟩ : ∃ hv, hit r tm p1 m x.f1 = hv := ⟨_, rfl⟩
          rw [hhv] at hcase
          obtain ⟨va, hva⟩ : ∃ va, p1.getD a 0 = va := ⟨_, rfl⟩
          rw [ha] at x0
          obtain ⟨Ti, hT⟩ : ∃ Ti : World → Prop, ∀ W, Ti W ↔ (CH w cs w2.heap.size r i tm l1.length p1 W ∧ Box wr.heap.size #[.int .i64 (a : Int), .slice A3' x.f1.length c3'] 41 W) := ⟨_, fun _ => Iff.rfl⟩
          have st3 : Ti (wr.alloc (.cells #[.int .i64 (a : Int), .slice A3' x.f1.length c3'] 41)) := (hT _).2 ⟨tq.out.below ((Below.refl _ _).alloc (Nat.le_refl _) _), Box.new wr _ _⟩
          have ti1 : ∀ W, Ti W → CH w cs w2.heap.size r i tm l1.length p1 W := fun W hW => ((hT W).1 hW).1
          have ce3 : ∀ W, Ti W → CC w (.slice A0 l0.length c0) (.slice A1 l1.length c1) (.int .i64 a2) (.slice (some ad3) l3.length c3) w2.heap.size (.func (.func fk) #[] #[]) (i : Int) (tm : Int) l1.length W ∧ W.cell? ⟨wr.heap.size, 0, none⟩ = some (.int .i64 (a : Int)) ∧ W.cell? ⟨wr.heap.size, 1, none⟩ = some (.slice A3' x.f1.length c3') ∧ W.cell? ⟨w2.heap.size + 1, a, none⟩ = some (.int .i64 va) ∧ W.frozen? ⟨w2.heap.size + 1, a, none⟩ = false := fun W hW => by
            obtain ⟨h1, h2⟩ := (hT W).1 hW
            obtain ⟨hc, hf⟩ := CH.far_at h1 a haN
            rw [hva] at hc
            exact ⟨CE2.out _ p1 h1, h2.cell 0 _ rfl, h2.cell 1 _ rfl, hc, hf⟩
          have more : ∀ W W', Ti W → Below W.heap.size W W' → Ti W' := fun W W' h hb => (hT W').2 ⟨((hT W).1 h).1.below hb, ((hT W).1 h).2.below hb⟩
          have low : ∀ W, Ti W → W.heap.size ≥ wr.heap.size ∧ Below wr.heap.size wr W → True := fun _ _ _ => trivial
          have x3' : ∀ W, Below wr.heap.size wr W → Kd.C (Kd.int .i64) W A3' x.f1.length x.f1 := fun W hb => Kd.C_below x3 hb
          have kS : ∀ W, Ti W → Below wr.heap.size wr W → Calls Tryd.prog 54 #[.func (.func fk) #[] #[], .slice A3' x.f1.length c3'] W fun e w' => e = .returned (.tuple #[.int .i64 a1, .bool b1]) ∧ Aside0 (Ti w' ∧ Below wr.heap.size wr w') := fun W hW hb0 => by
            have := Shows_calls r x.f1 A3' c3' W (x3' W hb0)
            rw [hs1, HFK.out] at this
            exact this.mono fun _ _ ⟨he, hb⟩ => ⟨he, ⟨more _ _ hW hb, hb0.trans (hb.mono hb0.size)⟩⟩
          have kL : ∀ W, Ti W → Below wr.heap.size wr W → Calls Tryd.prog 55 #[.func (.func fk) #[] #[], .slice A3' x.f1.length c3'] W fun e w' => e = .returned (.tuple #[.int .i64 a2', .bool b2]) ∧ Aside0 (Ti w' ∧ Below wr.heap.size wr w') := fun W hW hb0 => by
            have := Leads_calls r x.f1 A3' c3' W (x3' W hb0) hll
            rw [hs2, HFK.out] at this
            exact this.mono fun _ _ ⟨he, hb⟩ => ⟨he, ⟨more _ _ hW hb, hb0.trans (hb.mono hb0.size)⟩⟩
          have rows : ∀ W, Ti W → ∀ m' : Nat, m' < l1.length → W.cell? ⟨w2.heap.size + 1, m', none⟩ = some (.int .i64 (p1.getD m' 0)) := fun W hW m' hm' => (CH.far_at (ti1 W hW) m' hm').1
          obtain ⟨TT, hTT⟩ : ∃ TT : World → Prop, ∀ W, TT W ↔ (CH w cs w2.heap.size r i tm l1.length p1 W ∧ Ti W ∧ Below wr.heap.size wr W) := ⟨_, fun _ => Iff.rfl⟩
          have ST3 : Aside0 (CH w cs w2.heap.size r i tm l1.length p1 (wr.alloc (.cells #[.int .i64 (a : Int), .slice A3' x.f1.length c3'] 41)) ∧ Ti (wr.alloc (.cells #[.int .i64 (a : Int), .slice A3' x.f1.length c3'] 41)) ∧ Below wr.heap.size wr (wr.alloc (.cells #[.int .i64 (a : Int), .slice A3' x.f1.length c3'] 41))) := ⟨ti1 _ st3, st3, (Below.refl _ _).alloc (Nat.le_refl _) _⟩
          have KS : Aside0 (∀ W, (CH w cs w2.heap.size r i tm l1.length p1 W ∧ Ti W ∧ Below wr.heap.size wr W) → Calls Tryd.prog 54 #[.func (.func fk) #[] #[], .slice A3' x.f1.length c3'] W fun e w' => e = .returned (.tuple #[.int .i64 a1, .bool b1]) ∧ Aside0 (CH w cs w2.heap.size r i tm l1.length p1 w' ∧ Ti w' ∧ Below wr.heap.size wr w')) := ⟨fun W hW => (kS W hW.2.1 hW.2.2).mono fun _ _ ⟨he, h⟩ => ⟨he, ⟨ti1 _ h.out.1, h.out.1, h.out.2⟩⟩⟩
          have KL : Aside0 (∀ W, (CH w cs w2.heap.size r i tm l1.length p1 W ∧ Ti W ∧ Below wr.heap.size wr W) → Calls Tryd.prog 55 #[.func (.func fk) #[] #[], .slice A3' x.f1.length c3'] W fun e w' => e = .returned (.tuple #[.int .i64 a2', .bool b2]) ∧ Aside0 (CH w cs w2.heap.size r i tm l1.length p1 w' ∧ Ti w' ∧ Below wr.heap.size wr w')) := ⟨fun W hW => (kL W hW.2.1 hW.2.2).mono fun _ _ ⟨he, h⟩ => ⟨he, ⟨ti1 _ h.out.1, h.out.1, h.out.2⟩⟩⟩
          have CE3 : Aside0 (∀ W, (CH w cs w2.heap.size r i tm l1.length p1 W ∧ Ti W ∧ Below wr.heap.size wr W) → CC w (.slice A0 l0.length c0) (.slice A1 l1.length c1) (.int .i64 a2) (.slice (some ad3) l3.length c3) w2.heap.size (.func (.func fk) #[] #[]) (i : Int) (tm : Int) l1.length W ∧ W.cell? ⟨wr.heap.size, 0, none⟩ = some (.int .i64 (a : Int)) ∧ W.cell? ⟨wr.heap.size, 1, none⟩ = some (.slice A3' x.f1.length c3') ∧ W.cell? ⟨w2.heap.size + 1, a, none⟩ = some (.int .i64 va) ∧ W.frozen? ⟨w2.heap.size + 1, a, none⟩ = false) := ⟨fun W hW => ce3 W hW.2.1⟩
          have RO : Aside0 (∀ W, (CH w cs w2.heap.size r i tm l1.length p1 W ∧ Ti W ∧ Below wr.heap.size wr W) → ∀ m' : Nat, m' < l1.length → W.cell? ⟨w2.heap.size + 1, m', none⟩ = some (.int .i64 (p1.getD m' 0))) := ⟨fun W hW => rows W hW.2.1⟩
          have HFO := Lib.hid hfo2
          have HA := Lib.hid ha
          have HVA := Lib.hid hva
          have HHV := Lib.hid hhv
          obtain ⟨⟨g0, g1, g2, g3, g4, g5, g6, g7⟩, g8, g9, ga, gz⟩ := CE3.out _ ST3.out
          clear f0 f1 f2 f3 f4 f5 f6 f7 hT st3 ti1 ce3 more low x3 x3' kS kL rows hTT TT hfo2 ha hva hhv hs1 hs2 hll hsd q0 hok x2 ha0 ha1 hfo tq
          by_cases hz : va = 0
          · subst hz
            rcases hcase with ⟨qm, rfl, rfl⟩ | ⟨qm, rfl, q1, rfl⟩ | ⟨qm, rfl, rfl, rfl⟩ | ⟨q1, rfl, rfl⟩ | ⟨q1, rfl, m', rfl, hm', q2⟩
            · have HNO := Lib.hid (show p1.getD x.f0.toNat 0 ≠ 0 ∨ hit r tm p1 m x.f1 = false from .inr HHV.out)
              have b1 : decide ((m : Int) = 1) = true := decide_eq_true (by omega)
              have b2 : ((m : Int) == 1) = true := by simp; omega
              have b3 : decide (1 < (m : Int)) = false := decide_eq_false (by omega)
              have b4 : decide ((1 : Nat) < m) = false := decide_eq_false (by omega)
              have QM := Lib.hid qm
              clear qm
              go_wp2_with (first
                | (go_at_call 54; (with_reducible refine (KS.out _ ST3.out).mono ?_); clear g0 g1 g2 g3 g4 g5 g6 g7 g8 g9 ga gz; rintro e w4 ⟨rfl, t4⟩; obtain ⟨⟨g0, g1, g2, g3, g4, g5, g6, g7⟩, g8, g9, ga, gz⟩ := CE3.out _ t4.out)
                | (go_at_call 55; (with_reducible refine (KL.out _ t4.out).mono ?_); clear g0 g1 g2 g3 g4 g5 g6 g7 g8 g9 ga gz; rintro e w5 ⟨rfl, t5⟩; obtain ⟨⟨g0, g1, g2, g3, g4, g5, g6, g7⟩, g8, g9, ga, gz⟩ := CE3.out _ t5.out))
              go_roundw
              case measure => simp [intOf]; omega
              case rel => exact ⟨jj + 1, (p1, p2), by omega, by go_num, rfl, Lib.hid (HFO.out.trans (ringStep_no HNO.out)), hpl, ⟨t5.out.1⟩⟩
            · have HNO := Lib.hid (show p1.getD x.f0.toNat 0 ≠ 0 ∨ hit r tm p1 m x.f1 = false from .inr HHV.out)
              have b1 : decide ((m : Int) = 1) = true := decide_eq_true (by omega)
              have b2 : ((m : Int) == 1) = true := by simp; omega
              have b3 : decide (1 < (m : Int)) = false := decide_eq_false (by omega)
              have b4 : decide ((1 : Nat) < m) = false := decide_eq_false (by omega)
              have QM := Lib.hid qm
              clear qm
              have e1 : decide (a1 = (tm : Int)) = false := decide_eq_false q1
              have e2 : (a1 == (tm : Int)) = false := by simpa using q1
              have Q1 := Lib.hid q1
              clear q1
              go_wp2_with (first
                | (go_at_call 54; (with_reducible refine (KS.out _ ST3.out).mono ?_); clear g0 g1 g2 g3 g4 g5 g6 g7 g8 g9 ga gz; rintro e w4 ⟨rfl, t4⟩; obtain ⟨⟨g0, g1, g2, g3, g4, g5, g6, g7⟩, g8, g9, ga, gz⟩ := CE3.out _ t4.out)
                | (go_at_call 55; (with_reducible refine (KL.out _ t4.out).mono ?_); clear g0 g1 g2 g3 g4 g5 g6 g7 g8 g9 ga gz; rintro e w5 ⟨rfl, t5⟩; obtain ⟨⟨g0, g1, g2, g3, g4, g5, g6, g7⟩, g8, g9, ga, gz⟩ := CE3.out _ t5.out))
              go_roundw
              case measure => simp [intOf]; omega
              case rel => exact ⟨jj + 1, (p1, p2), by omega, by go_num, rfl, Lib.hid (HFO.out.trans (ringStep_no HNO.out)), hpl, ⟨t5.out.1⟩⟩
            · have HNO := Lib.hid (show p1.getD a 0 = 0 ∧ hit r tm p1 m x.f1 = true from ⟨HVA.out, HHV.out⟩)
              have b1 : decide ((m : Int) = 1) = true := decide_eq_true (by omega)
              have b2 : ((m : Int) == 1) = true := by simp; omega
              have b3 : decide (1 < (m : Int)) = false := decide_eq_false (by omega)
              have b4 : decide ((1 : Nat) < m) = false := decide_eq_false (by omega)
              have QM := Lib.hid qm
              clear qm
              go_wp2_with (first
                | (go_at_call 54; (with_reducible refine (KS.out _ ST3.out).mono ?_); clear g0 g1 g2 g3 g4 g5 g6 g7 g8 g9 ga gz; rintro e w4 ⟨rfl, t4⟩; obtain ⟨⟨g0, g1, g2, g3, g4, g5, g6, g7⟩, g8, g9, ga, gz⟩ := CE3.out _ t4.out)
                | (go_at_call 55; (with_reducible refine (KL.out _ t4.out).mono ?_); clear g0 g1 g2 g3 g4 g5 g6 g7 g8 g9 ga gz; rintro e w5 ⟨rfl, t5⟩; obtain ⟨⟨g0, g1, g2, g3, g4, g5, g6, g7⟩, g8, g9, ga, gz⟩ := CE3.out _ t5.out))
              go_roundw
              case measure => simp [intOf]; omega
              case rel => exact ⟨jj + 1, (p1.set a (m : Int), true), by omega, by go_num, rfl, Lib.hid (HFO.out.trans (ringStep_yes HA.out HNO.out.1 HNO.out.2)), Lib.hid (by rw [List.length_set]; exact hpl.out), ⟨t5.out.1.store a (m : Int)⟩⟩
            · have HNO := Lib.hid (show p1.getD x.f0.toNat 0 ≠ 0 ∨ hit r tm p1 m x.f1 = false from .inr HHV.out)
              have e1 : decide ((m : Int) = 1) = false := decide_eq_false (by omega)
              have e2 : ((m : Int) == 1) = false := by simp; omega
              have e3 : decide (1 < (m : Int)) = true := decide_eq_true (by omega)
              have e4 : decide ((1 : Nat) < m) = true := decide_eq_true q1
              go_wp2_with (first
                | (go_at_call 54; (with_reducible refine (KS.out _ ST3.out).mono ?_); clear g0 g1 g2 g3 g4 g5 g6 g7 g8 g9 ga gz; rintro e w4 ⟨rfl, t4⟩; obtain ⟨⟨g0, g1, g2, g3, g4, g5, g6, g7⟩, g8, g9, ga, gz⟩ := CE3.out _ t4.out)
                | (go_at_call 55; (with_reducible refine (KL.out _ t4.out).mono ?_); clear g0 g1 g2 g3 g4 g5 g6 g7 g8 g9 ga gz; rintro e w5 ⟨rfl, t5⟩; obtain ⟨⟨g0, g1, g2, g3, g4, g5, g6, g7⟩, g8, g9, ga, gz⟩ := CE3.out _ t5.out))
              go_roundw
              case measure => simp [intOf]; omega
              case rel => exact ⟨jj + 1, (p1, p2), by omega, by go_num, rfl, Lib.hid (HFO.out.trans (ringStep_no HNO.out)), hpl, ⟨t5.out.1⟩⟩
            · have e1 : decide ((m : Int) = 1) = false := decide_eq_false (by omega)
              have e2 : ((m : Int) == 1) = false := by simp; omega
              have e3 : decide (1 < (m : Int)) = true := decide_eq_true (by omega)
              have e4 : decide ((1 : Nat) < m) = true := decide_eq_true q1
              rcases q2 with ⟨q2, rfl⟩ | ⟨q2, rfl⟩
              · have HNO := Lib.hid (show p1.getD x.f0.toNat 0 ≠ 0 ∨ hit r tm p1 m x.f1 = false from .inr HHV.out)
                have e5 : decide (p1.getD m' 0 = (m : Int) - 1) = false := decide_eq_false q2
                have e6 : (p1.getD m' 0 == (m : Int) - 1) = false := by simpa using q2
                have Q2 := Lib.hid q2
                clear q2
                have rm := fun W hW => RO.out W hW m' hm'
                generalize p1.getD m' 0 = fm at e5 e6 rm Q2
                have RM := Aside0.mk rm
                clear rm
                go_wp2_with (first
                  | (go_at_call 54; (with_reducible refine (KS.out _ ST3.out).mono ?_); clear g0 g1 g2 g3 g4 g5 g6 g7 g8 g9 ga gz; rintro e w4 ⟨rfl, t4⟩; obtain ⟨⟨g0, g1, g2, g3, g4, g5, g6, g7⟩, g8, g9, ga, gz⟩ := CE3.out _ t4.out)
                  | (go_at_call 55; (with_reducible refine (KL.out _ t4.out).mono ?_); clear g0 g1 g2 g3 g4 g5 g6 g7 g8 g9 ga gz; rintro e w5 ⟨rfl, t5⟩; obtain ⟨⟨g0, g1, g2, g3, g4, g5, g6, g7⟩, g8, g9, ga, gz⟩ := CE3.out _ t5.out; have gy := RM.out _ t5.out))
                go_roundw
                case measure => simp [intOf]; omega
                case rel => exact ⟨jj + 1, (p1, p2), by omega, by go_num, rfl, Lib.hid (HFO.out.trans (ringStep_no HNO.out)), hpl, ⟨t5.out.1⟩⟩
              · have HNO := Lib.hid (show p1.getD a 0 = 0 ∧ hit r tm p1 m x.f1 = true from ⟨HVA.out, HHV.out⟩)
                have e5 : decide (p1.getD m' 0 = (m : Int) - 1) = true := decide_eq_true q2
                have e6 : (p1.getD m' 0 == (m : Int) - 1) = true := by simpa using q2
                have Q2 := Lib.hid q2
                clear q2
                have rm := fun W hW => RO.out W hW m' hm'
                generalize p1.getD m' 0 = fm at e5 e6 rm Q2
                have RM := Aside0.mk rm
                clear rm
                go_wp2_with (first
                  | (go_at_call 54; (with_reducible refine (KS.out _ ST3.out).mono ?_); clear g0 g1 g2 g3 g4 g5 g6 g7 g8 g9 ga gz; rintro e w4 ⟨rfl, t4⟩; obtain ⟨⟨g0, g1, g2, g3, g4, g5, g6, g7⟩, g8, g9, ga, gz⟩ := CE3.out _ t4.out)
                  | (go_at_call 55; (with_reducible refine (KL.out _ t4.out).mono ?_); clear g0 g1 g2 g3 g4 g5 g6 g7 g8 g9 ga gz; rintro e w5 ⟨rfl, t5⟩; obtain ⟨⟨g0, g1, g2, g3, g4, g5, g6, g7⟩, g8, g9, ga, gz⟩ := CE3.out _ t5.out; have gy := RM.out _ t5.out))
                go_roundw
                case measure => simp [intOf]; omega
                case rel => exact ⟨jj + 1, (p1.set a (m : Int), true), by omega, by go_num, rfl, Lib.hid (HFO.out.trans (ringStep_yes HA.out HNO.out.1 HNO.out.2)), Lib.hid (by rw [List.length_set]; exact hpl.out), ⟨t5.out.1.store a (m : Int)⟩⟩
          · have HNO := Lib.hid (show p1.getD x.f0.toNat 0 ≠ 0 ∨ hit r tm p1 m x.f1 = false from .inl (by rw [HA.out, Int.toNat_natCast, HVA.out]; exact hz))
            have e1 : decide (va = 0) = false := decide_eq_false hz
            have e2 : (va == 0) = false := by simpa using hz
            have HZ := Lib.hid hz
            clear hz hcase
            go_wp2_with (first
              | (go_at_call 54; (with_reducible refine (KS.out _ ST3.out).mono ?_); clear g0 g1 g2 g3 g4 g5 g6 g7 g8 g9 ga gz; rintro e w4 ⟨rfl, t4⟩; obtain ⟨⟨g0, g1, g2, g3, g4, g5, g6, g7⟩, g8, g9, ga, gz⟩ := CE3.out _ t4.out)
              | (go_at_call 55; (with_reducible refine (KL.out _ t4.out).mono ?_); clear g0 g1 g2 g3 g4 g5 g6 g7 g8 g9 ga gz; rintro e w5 ⟨rfl, t5⟩; obtain ⟨⟨g0, g1, g2, g3, g4, g5, g6, g7⟩, g8, g9, ga, gz⟩ := CE3.out _ t5.out))
            go_roundw
            case measure => simp [intOf]; omega
            case rel => exact ⟨jj + 1, (p1, p2), by omega, by go_num, rfl, Lib.hid (HFO.out.trans (ringStep_no HNO.out)), hpl, ⟨t5.out.1⟩⟩
        · have hjn : jj = l3.length := by omega
          subst hjn
          have hring : ring r tm m l3 far = (p1, p2) := by have := hfo.out; rwa [List.take_length] at this
          have hstep : rings r tm l3 (l1.length + 1 - m) m far = if p2 = true then rings r tm l3 (l1.length - m) (m + 1) p1 else p1 := by
            rw [show l1.length + 1 - m = (l1.length - m) + 1 from by omega, rings, hring]
          cases p2 with
          | true =>
            have HRG := Lib.hid (show rings r tm l3 (l1.length + 1 - (m + 1)) (m + 1) p1 = F by rw [← hrg.out, hstep, if_pos rfl, show l1.length + 1 - (m + 1) = l1.length - m from by omega])
            clear hstep hring
            go_wp2_with fail
            go_roundw
            case measure => simp [intOf]; omega
            case rel => exact ⟨m + 1, p1, by omega, by omega, by go_num, HRG, hpl, tq⟩
          | false =>
            have hpf : p1 = F := by rw [← hrg.out, hstep, if_neg (by decide)]
            have tF : Aside0 (CH w cs w2.heap.size r i tm l1.length F wr) := ⟨hpf ▸ tq.out⟩
            clear hstep hring tq hfo hpl hrg tr hfl hpf f0 f1 f2 f3 f4 f5 f6 f7
            obtain ⟨f0, f1, f2, f3, f4, f5, f6, f7⟩ := CE2.out _ F tF.out
            obtain ⟨ff, fz⟩ := CH.far_at tF.out i hi
            by_cases hz : F.getD i 0 = 0
            · rw [hz] at ff
              have g15 := H15x.out _ tF.out.low
              have HZ := Lib.hid hz
              clear hz
              go_wp2_with fail
              go_quiet (fail)
              go_wp2_with fail
              (try rw [Exit.noGoto_ret])
              refine bodyPost_ret (v := .tuple #[.slice none 0 0, E15]) (by simp [results, Tryd.results15, go_sem]) rfl ⟨pw_below_drewN tF.out.low _, .inl ⟨HZ.out, rfl⟩⟩
            · obtain ⟨d, hd⟩ : ∃ d : Nat, F.getD i 0 = (d : Int) := ⟨(F.getD i 0).toNat, by have := HF.out.rng i hi; omega⟩
              have hdr := (HF.out.rng i hi).resolve_left hz
              have hd1 : 1 ≤ d ∧ d ≤ l1.length := by omega
              rw [hd] at ff
              have e1 : decide ((d : Int) = 0) = false := decide_eq_false (by omega)
              have e2 : ((d : Int) == 0) = false := by simp; omega
              have HZ := Lib.hid hz
              have HD := Lib.hid hd
              have HD1 := Lib.hid hd1
              obtain ⟨hd1', hd2'⟩ := hd1
              have hdb : (d : Int) ≤ 60 := by omega
              clear hz hdr hd
              have ST5 := Aside0.mk (C2.start tF.out d)
              go_wp2_with fail
              go_loopw [21, 22, 23] (fun ch nb _ wq => ∃ (m i' b : Nat) (L : List Int), nb = .pointer (some ⟨b, 0, none⟩) ∧ Hid (L ++ walkC r tm F l3 m i' = walkC r tm F l3 d i) ∧ Hid (m = 0 ∨ (i' < l1.length ∧ F.getD i' 0 = (m : Int))) ∧ m ≤ l1.length ∧ Hid (L.length + m = d) ∧ Aside0 (C2 w cs w2.heap.size r i' tm l1.length F b m ch L wq)) (fun _ nb _ wq => numAt nb wq)
              case atStart => exact ⟨d, i, _, [], rfl, Lib.hid rfl, Lib.hid (.inr ⟨hi, HD.out⟩), by omega, Lib.hid (by simp), ST5⟩
              case round =>
                clear f0 f1 f2 f3 f4 f5 f6 f7 ff fz ST5
                obtain ⟨m, i', b, L, rfl, hwk, hat, hmN, hLm, tq5⟩ := hrel
                obtain ⟨f0, f1, f2, f3, f4, f5, f6, f7⟩ := CE2.out _ F tq5.out.ch
                have fn := Box.cell tq5.out.nb 0 _ rfl
                have ffz := box_frozen tq5.out.nb 0
                have fiz := box_frozen tq5.out.ch.bi 0
                by_cases hm0 : m = 0
                · subst hm0
                  obtain ⟨vA, vc, rfl⟩ := Kd.R_slice tq5.out.own
                  obtain ⟨hvc, hrd⟩ := (Kd.R_reads' tq5.out.own).2
                  have KP := Aside0.mk (Clip_calls vA L.length vc wr hvc (C_max hrd))
                  have HL := Lib.hid (show L = walkC r tm F l3 d i by have := hwk.out; simpa [walkC] using this)
                  clear hvc hrd
                  go_wp2_with (go_at_call 58; (with_reducible refine KP.out.mono ?_); rintro e w6 ⟨rfl, t6⟩; have T6 := Aside0.mk t6; clear t6)
                  (try rw [Exit.noGoto_ret])
                  have hown := Kd.own_of_R (enc := Value.int .i64) (h1 := fun _ => rfl) tq5.out.own
                  have hLd : L.length = d := by have := hLm.out; omega
                  obtain ⟨g, cur, rfl, hg, hh, htk⟩ : ∃ g cur, vA = some ⟨g, 0, none⟩ ∧ w.heap.size ≤ g ∧ w6.heap[g]? = some (.cells cur 3 (0, 0)) ∧ cur.toList.take L.length = nums .i64 L := by
                    rcases hown.2 with ⟨_, h0⟩ | ⟨g, cap, cur, hv, hb, hh, _, _, _, htk⟩
                    · have := HD1.out; omega
                    · have e1 : vA = some ⟨g, 0, none⟩ := by injection hv
                      refine ⟨g, cur, e1, by have := tq5.out.ch.lt; omega, ?_, by rw [Nat.mul_one] at htk; exact htk⟩
                      rw [T6.out.block g (Array.getElem?_eq_some_iff.1 hh).1]; exact hh
                  refine bodyPost_ret (v := .tuple #[.slice (some ⟨g, 0, none⟩) L.length L.length, .nilIface]) (by simp [results, Tryd.results15, go_sem]) rfl ⟨tq5.out.ch.low.trans (T6.out.mono tq5.out.ch.low.size), .inr ⟨HZ.out, g, L.length, cur, ?_, rfl, hg, hh, ?_⟩⟩
                  · rw [HD.out, Int.toNat_natCast, ← HL.out]
                  · rw [HD.out, Int.toNat_natCast, ← HL.out]; exact htk
                · have hm1' : 1 ≤ m := by omega
                  obtain ⟨hiN, hFi⟩ := hat.out.resolve_left (by omega)
                  obtain ⟨kk, x, hkk, hkl, hkx, k1, k2⟩ := idxC_ex HF.out hiN hFi hm1'
                  have hx := HOK.out x (List.mem_of_getElem? hkx)
                  have hwk2 : L ++ (((kk : Nat) : Int) :: walkC r tm F l3 (m - 1) (nextC r l3 kk)) = walkC r tm F l3 d i := by
                    rw [← hwk.out]
                    obtain ⟨m', rfl⟩ : ∃ m', m = m' + 1 := ⟨m - 1, by omega⟩
                    rw [Nat.add_sub_cancel, walkC, hkk]
                  have kI := Idx_calls w2.heap.size (w.heap.size + 1) b (w.heap.size + 2) (w2.heap.size + 2) (w2.heap.size + 1) r i' m tm l0.length l1.length F l3 A3 c3 wr (CH.cb tq5.out.ch tq5.out.nb) hm1' (by omega) HOK.out (Kd.C_below HR.out tq5.out.ch.low) hc3 h0 h1 (by rw [hkk]; exact hkl)
                  rw [hkk] at kI
                  have KI : Aside0 (Calls Tryd.prog 56 #[.slice A3 l3.length c3, .func (.func 57) #[] #[.pointer (some ⟨w2.heap.size, 0, none⟩), .pointer (some ⟨w.heap.size + 1, 0, none⟩), .pointer (some ⟨b, 0, none⟩), .pointer (some ⟨w.heap.size + 2, 0, none⟩), .pointer (some ⟨w2.heap.size + 2, 0, none⟩)]] wr fun e w' => e = .returned (.int .i64 (kk : Nat)) ∧ Aside0 (C2 w cs w2.heap.size r i' tm l1.length F b m u21 L w')) := ⟨kI.mono fun _ _ ⟨he, hb⟩ => ⟨he, ⟨tq5.out.below hb⟩⟩⟩
                  obtain ⟨ad3, A3', c3', rfl, y0, y1, y2, y3⟩ := at_T41 HR.out (kk : Int) (by omega) (by omega)
                  have q0 : rd_T41 l3 (kk : Int) = x := by rw [rdR_D, getD_lt _ _ _ hkl]; exact (List.getElem?_eq_some_iff.1 hkx).2
                  rw [Int.toNat_natCast] at y0 y1
                  rw [q0] at y0 y1 y2 y3
                  have YC : Aside0 (∀ W, Below w.heap.size w W → W.cell? ⟨(ad3.add (kk * 2)).block, (ad3.add (kk * 2)).off + 1, none⟩ = some (.slice A3' x.f1.length c3')) := ⟨fun W hb => (hb.cell (World.block_lt_of_cell? w _ y1)).trans y1⟩
                  have hLb : L.length ≤ 60 := by have := hLm.out; omega
                  have HWK := Lib.hid hwk2
                  have HK2 := Aside0.mk k2
                  have HX := Aside0.mk hx
                  have HKX := Aside0.mk hkx
                  have Y3 := Aside0.mk y3
                  have HFI := Lib.hid hFi
                  have ARM : Aside0 (∀ {W}, C2 w cs w2.heap.size r i' tm l1.length F b m u21 L W → w2.heap.size + 3 ≤ W.heap.size ∧ b < W.heap.size) := ⟨fun hW => ⟨hW.ch.size, Box.lt hW.nb⟩⟩
                  clear hkk k1 k2 hx hkx y0 y1 y2 y3 q0 hwk2 hwk kI hFi hat
                  by_cases hm2 : m = 1
                  · have e3 : decide (1 < (m : Int)) = false := decide_eq_false (by omega)
                    have e4 : decide ((1 : Nat) < m) = false := decide_eq_false (by omega)
                    have e5 : decide ((0 : Int) < (m : Int)) = true := decide_eq_true (by omega)
                    have e6 : decide ((0 : Nat) < m) = true := decide_eq_true (by omega)
                    have HM2 := Lib.hid hm2
                    clear hm2
                    go_wp2_with (first
                      | (go_at_call 56; (with_reducible refine KI.out.mono ?_); clear f0 f1 f2 f3 f4 f5 f6 f7 fn ffz fiz; rintro e w4 ⟨rfl, t4⟩)
                      | ((with_reducible refine gate_builtin (b := .append) (xs := #[.tmp 144, .tmp 146]) rfl ?_); at_builtin; go_loud (refine Kd.R_append (Kd.int .i64) (w0 := w4) (w2.heap.size + 3) rfl (.tmp 144) (.tmp 146) 24 3 (.int .i64 0) 8 rfl Tryd.underlying24 infoInt rfl (by decide) (by decide) u21 L (kk : Int) [.int .i64 (kk : Int)] (fun k => k ≠ b) (fun _ => False) rfl rfl rfl (fun _ hk => hk.elim) ?aF t4.out.own (Below.refl _ _) ?aS ?aL ?_; (case aF => exact fun k hk => by have := (ARM.out t4.out).2; omega); (case aS => exact (ARM.out t4.out).1); (case aL => omega); intro v1 w5 hR hB hg hat'; have T5 := Aside0.mk (C2.grown t4.out hg hR); clear hR hB hg hat'; obtain ⟨f0, f1, f2, f3, f4, f5, f6, f7⟩ := CE2.out _ F T5.out.ch; have fn := Box.cell T5.out.nb 0 _ rfl; have ffz := box_frozen T5.out.nb 0; have fiz := box_frozen T5.out.ch.bi 0)))
                    refine ⟨⟨m - 1, i', _, L ++ [(kk : Int)], rfl, Lib.hid (by rw [← HWK.out, HM2.out, List.append_assoc]; rfl), Lib.hid (.inl (by have := HM2.out; omega)), by omega, Lib.hid (by have := hLm.out; rw [List.length_append, List.length_singleton]; omega), Aside0.mk (by have := C2.next T5.out (m - 1); rwa [sub1 hm1'] at this)⟩, ?_⟩
                    rw [numAt_box tq5.out.nb, ← sub1 hm1', numAt_box (Box.new w5 #[.int .i64 ((m - 1 : Nat) : Int)] 3)]
                    omega
                  · have hm3 : 2 ≤ m := by omega
                    obtain ⟨n1, n2, n3⟩ := next_ex HF.out HOK.out HKX.out HK2.out hm3
                    obtain ⟨jn, hjn⟩ : ∃ jn, nextC r l3 kk = jn := ⟨_, rfl⟩
                    rw [hjn] at n1 n2 n3
                    have hlv : leV r x.f1 = ((jn : Int), true) := by unfold leV; rw [n3]
                    have hll : ∀ s ∈ x.f1, (-9223372036854775808 : Int) ≤ s := fun s hs => by have := ((okR_sides HX.out).2.2.2 s hs).2; omega
                    have kL : ∀ W, Below w.heap.size w W → Calls Tryd.prog 55 #[.func (.func fk) #[] #[], .slice A3' x.f1.length c3'] W fun e w' => e = .returned (.tuple #[.int .i64 (jn : Int), .bool true]) ∧ Below W.heap.size W w' := fun W hb => by
                      have := Leads_calls r x.f1 A3' c3' W (Kd.C_below Y3.out hb) hll
                      rw [hlv, HFK.out] at this
                      exact this
                    have HWJ := Lib.hid (show L ++ (((kk : Nat) : Int) :: walkC r tm F l3 (m - 1) jn) = walkC r tm F l3 d i by rw [← hjn]; exact HWK.out)
                    have HN1 := Lib.hid n1
                    have HN2 := Lib.hid n2
                    have KL0 := Aside0.mk kL
                    clear kL hll hlv n1 n2 n3 hjn
                    have e3 : decide (1 < (m : Int)) = true := decide_eq_true (by omega)
                    have e4 : decide ((1 : Nat) < m) = true := decide_eq_true (by omega)
                    have e5 : decide ((0 : Int) < (m : Int)) = true := decide_eq_true (by omega)
                    have e6 : decide ((0 : Nat) < m) = true := decide_eq_true (by omega)
                    go_wp2_with (first
                      | (go_at_call 56; (with_reducible refine KI.out.mono ?_); clear f0 f1 f2 f3 f4 f5 f6 f7 fn ffz fiz; rintro e w4 ⟨rfl, t4⟩)
                      | ((with_reducible refine gate_builtin (b := .append) (xs := #[.tmp 144, .tmp 146]) rfl ?_); at_builtin; go_loud (refine Kd.R_append (Kd.int .i64) (w0 := w4) (w2.heap.size + 3) rfl (.tmp 144) (.tmp 146) 24 3 (.int .i64 0) 8 rfl Tryd.underlying24 infoInt rfl (by decide) (by decide) u21 L (kk : Int) [.int .i64 (kk : Int)] (fun k => k ≠ b) (fun _ => False) rfl rfl rfl (fun _ hk => hk.elim) ?aF t4.out.own (Below.refl _ _) ?aS ?aL ?_; (case aF => exact fun k hk => by have := (ARM.out t4.out).2; omega); (case aS => exact (ARM.out t4.out).1); (case aL => omega); intro v1 w5 hR hB hg hat'; have T5 := Aside0.mk (C2.grown t4.out hg hR); clear hR hB hg hat'; obtain ⟨f0, f1, f2, f3, f4, f5, f6, f7⟩ := CE2.out _ F T5.out.ch; have fn := Box.cell T5.out.nb 0 _ rfl; have ffz := box_frozen T5.out.nb 0; have fiz := box_frozen T5.out.ch.bi 0; have fy := YC.out _ T5.out.ch.low)))
                    have KL5 : Aside0 (∀ {W}, C2 w cs w2.heap.size r i' tm l1.length F b m v1 (L ++ [(kk : Int)]) W → Calls Tryd.prog 55 #[.func (.func fk) #[] #[], .slice A3' x.f1.length c3'] W fun e w' => e = .returned (.tuple #[.int .i64 (jn : Int), .bool true]) ∧ Aside0 (C2 w cs w2.heap.size r i' tm l1.length F b m v1 (L ++ [(kk : Int)]) w') ∧ w'.cell? ⟨w2.heap.size, 0, none⟩ = some (.func (.func fk) #[] #[]) ∧ w'.cell? ⟨w.heap.size, 3, none⟩ = some (.slice (some ad3) l3.length c3) ∧ w'.cell? ⟨(ad3.add (kk * 2)).block, (ad3.add (kk * 2)).off + 1, none⟩ = some (.slice A3' x.f1.length c3') ∧ w'.cell? ⟨w.heap.size + 1, 0, none⟩ = some (.int .i64 (i' : Int)) ∧ w'.frozen? ⟨w.heap.size + 1, 0, none⟩ = false) := ⟨fun hW => (KL0.out _ hW.ch.low).mono fun _ _ ⟨he, hb⟩ => by
                      have h' := hW.below hb
                      obtain ⟨g0, g1, g2, g3, g4, g5, g6, g7⟩ := CE2.out _ F h'.ch
                      exact ⟨he, ⟨h'⟩, g6, g3, YC.out _ h'.ch.low, g4, box_frozen h'.ch.bi 0⟩⟩
                    have CSO : Aside0 (∀ (W : World) (u : Value), (W.setCell ⟨w.heap.size + 1, 0, none⟩ u).cell? ⟨w2.heap.size, 0, none⟩ = W.cell? ⟨w2.heap.size, 0, none⟩ ∧ (W.setCell ⟨w.heap.size + 1, 0, none⟩ u).cell? ⟨w.heap.size, 3, none⟩ = W.cell? ⟨w.heap.size, 3, none⟩ ∧ (W.setCell ⟨w.heap.size + 1, 0, none⟩ u).cell? ⟨(ad3.add (kk * 2)).block, (ad3.add (kk * 2)).off + 1, none⟩ = W.cell? ⟨(ad3.add (kk * 2)).block, (ad3.add (kk * 2)).off + 1, none⟩) := by
                      have l1 := T5.out.ch.lt
                      have l2 := World.block_lt_of_cell? w _ (YC.out w (Below.refl _ _))
                      refine ⟨fun W u => ⟨?_, ?_, ?_⟩⟩ <;> refine World.cell?_setCell_other _ _ _ _ (fun e => ?_) <;> injection e with e1 e2 <;> omega
                    go_region_held3 (fun W' => W'.cell? ⟨w2.heap.size, 0, none⟩ = some (.func (.func fk) #[] #[]) ∧ W'.cell? ⟨w.heap.size, 3, none⟩ = some (.slice (some ad3) l3.length c3) ∧ W'.cell? ⟨(ad3.add (kk * 2)).block, (ad3.add (kk * 2)).off + 1, none⟩ = some (.slice A3' x.f1.length c3'))
                      (first | (go_keep; done) | exact ⟨(CSO.out _ _).1.trans g6, (CSO.out _ _).2.1.trans g3, (CSO.out _ _).2.2.trans gy⟩)
                      ((go_at_call 55; (with_reducible refine (KL5.out ?_).mono ?_); exact (by first | exact T5.out | exact T5.out.below (Below.refl _ _).drew | exact T5.out.below (pw_below_drewN (Below.refl _ _) _)); rintro e w6 ⟨rfl, t6, g6, g3, gy, g4, gz⟩))
                    have T7 := Aside0.mk (t6.out.putI jn)
                    clear f0 f1 f2 f3 f4 f5 f6 f7 fn ffz fiz fy g6 g3 gy g4 gz CSO
                    generalize w6.setCell ⟨w.heap.size + 1, 0, none⟩ (.int .i64 (jn : Int)) = w7 at T7 ⊢
                    have fn := Box.cell T7.out.nb 0 _ rfl
                    have ffz := box_frozen T7.out.nb 0
                    go_wp2_with fail
                    refine ⟨⟨m - 1, jn, _, L ++ [(kk : Int)], rfl, Lib.hid (by rw [← HWJ.out, List.append_assoc]; rfl), Lib.hid (.inr ⟨HN1.out, HN2.out⟩), by omega, Lib.hid (by have := hLm.out; rw [List.length_append, List.length_singleton]; omega), Aside0.mk (by have := C2.next T7.out (m - 1); rwa [sub1 hm1'] at this)⟩, ?_⟩
                    rw [numAt_box tq5.out.nb, ← sub1 hm1', numAt_box (Box.new w7 #[.int .i64 ((m - 1 : Nat) : Int)] 3)]
                    omega
    · have hpf : far = F := by rw [← hrg.out, show l1.length + 1 - m = 0 from by omega]; rfl
      have tF : Aside0 (CH w cs w2.heap.size r i tm l1.length F wo) := ⟨hpf ▸ tr.out⟩
      clear hrg hfl tr hpf f0 f1 f2 f3 f4 f5 f6 f7
      obtain ⟨f0, f1, f2, f3, f4, f5, f6, f7⟩ := CE2.out _ F tF.out
      obtain ⟨ff, fz⟩ := CH.far_at tF.out i hi
      by_cases hz : F.getD i 0 = 0
      · rw [hz] at ff
        have g15 := H15x.out _ tF.out.low
        have HZ := Lib.hid hz
        clear hz
        go_wp2_with fail
        go_quiet (fail)
        go_wp2_with fail
        (try rw [Exit.noGoto_ret])
        refine bodyPost_ret (v := .tuple #[.slice none 0 0, E15]) (by simp [results, Tryd.results15, go_sem]) rfl ⟨pw_below_drewN tF.out.low _, .inl ⟨HZ.out, rfl⟩⟩
      · obtain ⟨d, hd⟩ : ∃ d : Nat, F.getD i 0 = (d : Int) := ⟨(F.getD i 0).toNat, by have := HF.out.rng i hi; omega⟩
        have hdr := (HF.out.rng i hi).resolve_left hz
        have hd1 : 1 ≤ d ∧ d ≤ l1.length := by omega
        rw [hd] at ff
        have e1 : decide ((d : Int) = 0) = false := decide_eq_false (by omega)
        have e2 : ((d : Int) == 0) = false := by simp; omega
        have HZ := Lib.hid hz
        have HD := Lib.hid hd
        have HD1 := Lib.hid hd1
        obtain ⟨hd1', hd2'⟩ := hd1
        have hdb : (d : Int) ≤ 60 := by omega
        clear hz hdr hd
        have ST5 := Aside0.mk (C2.start tF.out d)
        go_wp2_with fail
        go_loopw [21, 22, 23] (fun ch nb _ wq => ∃ (m i' b : Nat) (L : List Int), nb = .pointer (some ⟨b, 0, none⟩) ∧ Hid (L ++ walkC r tm F l3 m i' = walkC r tm F l3 d i) ∧ Hid (m = 0 ∨ (i' < l1.length ∧ F.getD i' 0 = (m : Int))) ∧ m ≤ l1.length ∧ Hid (L.length + m = d) ∧ Aside0 (C2 w cs w2.heap.size r i' tm l1.length F b m ch L wq)) (fun _ nb _ wq => numAt nb wq)
        case atStart => exact ⟨d, i, _, [], rfl, Lib.hid rfl, Lib.hid (.inr ⟨hi, HD.out⟩), by omega, Lib.hid (by simp), ST5⟩
        case round =>
          clear f0 f1 f2 f3 f4 f5 f6 f7 ff fz ST5
          obtain ⟨m, i', b, L, rfl, hwk, hat, hmN, hLm, tq5⟩ := hrel
          obtain ⟨f0, f1, f2, f3, f4, f5, f6, f7⟩ := CE2.out _ F tq5.out.ch
          have fn := Box.cell tq5.out.nb 0 _ rfl
          have ffz := box_frozen tq5.out.nb 0
          have fiz := box_frozen tq5.out.ch.bi 0
          by_cases hm0 : m = 0
          · subst hm0
            obtain ⟨vA, vc, rfl⟩ := Kd.R_slice tq5.out.own
            obtain ⟨hvc, hrd⟩ := (Kd.R_reads' tq5.out.own).2
            have KP := Aside0.mk (Clip_calls vA L.length vc wr hvc (C_max hrd))
            have HL := Lib.hid (show L = walkC r tm F l3 d i by have := hwk.out; simpa [walkC] using this)
            clear hvc hrd
            go_wp2_with (go_at_call 58; (with_reducible refine KP.out.mono ?_); rintro e w6 ⟨rfl, t6⟩; have T6 := Aside0.mk t6; clear t6)
            (try rw [Exit.noGoto_ret])
            have hown := Kd.own_of_R (enc := Value.int .i64) (h1 := fun _ => rfl) tq5.out.own
            have hLd : L.length = d := by have := hLm.out; omega
            obtain ⟨g, cur, rfl, hg, hh, htk⟩ : ∃ g cur, vA = some ⟨g, 0, none⟩ ∧ w.heap.size ≤ g ∧ w6.heap[g]? = some (.cells cur 3 (0, 0)) ∧ cur.toList.take L.length = nums .i64 L := by
              rcases hown.2 with ⟨_, h0⟩ | ⟨g, cap, cur, hv, hb, hh, _, _, _, htk⟩
              · have := HD1.out; omega
              · have e1 : vA = some ⟨g, 0, none⟩ := by injection hv
                refine ⟨g, cur, e1, by have := tq5.out.ch.lt; omega, ?_, by rw [Nat.mul_one] at htk; exact htk⟩
                rw [T6.out.block g (Array.getElem?_eq_some_iff.1 hh).1]; exact hh
            refine bodyPost_ret (v := .tuple #[.slice (some ⟨g, 0, none⟩) L.length L.length, .nilIface]) (by simp [results, Tryd.results15, go_sem]) rfl ⟨tq5.out.ch.low.trans (T6.out.mono tq5.out.ch.low.size), .inr ⟨HZ.out, g, L.length, cur, ?_, rfl, hg, hh, ?_⟩⟩
            · rw [HD.out, Int.toNat_natCast, ← HL.out]
            · rw [HD.out, Int.toNat_natCast, ← HL.out]; exact htk
          · have hm1' : 1 ≤ m := by omega
            obtain ⟨hiN, hFi⟩ := hat.out.resolve_left (by omega)
            obtain ⟨kk, x, hkk, hkl, hkx, k1, k2⟩ := idxC_ex HF.out hiN hFi hm1'
            have hx := HOK.out x (List.mem_of_getElem? hkx)
            have hwk2 : L ++ (((kk : Nat) : Int) :: walkC r tm F l3 (m - 1) (nextC r l3 kk)) = walkC r tm F l3 d i := by
              rw [← hwk.out]
              obtain ⟨m', rfl⟩ : ∃ m', m = m' + 1 := ⟨m - 1, by omega⟩
              rw [Nat.add_sub_cancel, walkC, hkk]
            have kI := Idx_calls w2.heap.size (w.heap.size + 1) b (w.heap.size + 2) (w2.heap.size + 2) (w2.heap.size + 1) r i' m tm l0.length l1.length F l3 A3 c3 wr (CH.cb tq5.out.ch tq5.out.nb) hm1' (by omega) HOK.out (Kd.C_below HR.out tq5.out.ch.low) hc3 h0 h1 (by rw [hkk]; exact hkl)
            rw [hkk] at kI
            have KI : Aside0 (Calls Tryd.prog 56 #[.slice A3 l3.length c3, .func (.func 57) #[] #[.pointer (some ⟨w2.heap.size, 0, none⟩), .pointer (some ⟨w.heap.size + 1, 0, none⟩), .pointer (some ⟨b, 0, none⟩), .pointer (some ⟨w.heap.size + 2, 0, none⟩), .pointer (some ⟨w2.heap.size + 2, 0, none⟩)]] wr fun e w' => e = .returned (.int .i64 (kk : Nat)) ∧ Aside0 (C2 w cs w2.heap.size r i' tm l1.length F b m u21 L w')) := ⟨kI.mono fun _ _ ⟨he, hb⟩ => ⟨he, ⟨tq5.out.below hb⟩⟩⟩
            obtain ⟨ad3, A3', c3', rfl, y0, y1, y2, y3⟩ := at_T41 HR.out (kk : Int) (by omega) (by omega)
            have q0 : rd_T41 l3 (kk : Int) = x := by rw [rdR_D, getD_lt _ _ _ hkl]; exact (List.getElem?_eq_some_iff.1 hkx).2
            rw [Int.toNat_natCast] at y0 y1
            rw [q0] at y0 y1 y2 y3
            have YC : Aside0 (∀ W, Below w.heap.size w W → W.cell? ⟨(ad3.add (kk * 2)).block, (ad3.add (kk * 2)).off + 1, none⟩ = some (.slice A3' x.f1.length c3')) := ⟨fun W hb => (hb.cell (World.block_lt_of_cell? w _ y1)).trans y1⟩
            have hLb : L.length ≤ 60 := by have := hLm.out; omega
            have HWK := Lib.hid hwk2
            have HK2 := Aside0.mk k2
            have HX := Aside0.mk hx
            have HKX := Aside0.mk hkx
            have Y3 := Aside0.mk y3
            have HFI := Lib.hid hFi
            have ARM : Aside0 (∀ {W}, C2 w cs w2.heap.size r i' tm l1.length F b m u21 L W → w2.heap.size + 3 ≤ W.heap.size ∧ b < W.heap.size) := ⟨fun hW => ⟨hW.ch.size, Box.lt hW.nb⟩⟩
            clear hkk k1 k2 hx hkx y0 y1 y2 y3 q0 hwk2 hwk kI hFi hat
            by_cases hm2 : m = 1
            · have e3 : decide (1 < (m : Int)) = false := decide_eq_false (by omega)
              have e4 : decide ((1 : Nat) < m) = false := decide_eq_false (by omega)
              have e5 : decide ((0 : Int) < (m : Int)) = true := decide_eq_true (by omega)
              have e6 : decide ((0 : Nat) < m) = true := decide_eq_true (by omega)
              have HM2 := Lib.hid hm2
              clear hm2
              go_wp2_with (first
                | (go_at_call 56; (with_reducible refine KI.out.mono ?_); clear f0 f1 f2 f3 f4 f5 f6 f7 fn ffz fiz; rintro e w4 ⟨rfl, t4⟩)
                | ((with_reducible refine gate_builtin (b := .append) (xs := #[.tmp 144, .tmp 146]) rfl ?_); at_builtin; go_loud (refine Kd.R_append (Kd.int .i64) (w0 := w4) (w2.heap.size + 3) rfl (.tmp 144) (.tmp 146) 24 3 (.int .i64 0) 8 rfl Tryd.underlying24 infoInt rfl (by decide) (by decide) u21 L (kk : Int) [.int .i64 (kk : Int)] (fun k => k ≠ b) (fun _ => False) rfl rfl rfl (fun _ hk => hk.elim) ?aF t4.out.own (Below.refl _ _) ?aS ?aL ?_; (case aF => exact fun k hk => by have := (ARM.out t4.out).2; omega); (case aS => exact (ARM.out t4.out).1); (case aL => omega); intro v1 w5 hR hB hg hat'; have T5 := Aside0.mk (C2.grown t4.out hg hR); clear hR hB hg hat'; obtain ⟨f0, f1, f2, f3, f4, f5, f6, f7⟩ := CE2.out _ F T5.out.ch; have fn := Box.cell T5.out.nb 0 _ rfl; have ffz := box_frozen T5.out.nb 0; have fiz := box_frozen T5.out.ch.bi 0)))
              refine ⟨⟨m - 1, i', _, L ++ [(kk : Int)], rfl, Lib.hid (by rw [← HWK.out, HM2.out, List.append_assoc]; rfl), Lib.hid (.inl (by have := HM2.out; omega)), by omega, Lib.hid (by have := hLm.out; rw [List.length_append, List.length_singleton]; omega), Aside0.mk (by have := C2.next T5.out (m - 1); rwa [sub1 hm1'] at this)⟩, ?_⟩
              rw [numAt_box tq5.out.nb, ← sub1 hm1', numAt_box (Box.new w5 #[.int .i64 ((m - 1 : Nat) : Int)] 3)]
              omega
            · have hm3 : 2 ≤ m := by omega
              obtain ⟨n1, n2, n3⟩ := next_ex HF.out HOK.out HKX.out HK2.out hm3
              obtain ⟨jn, hjn⟩ : ∃ jn, nextC r l3 kk = jn := ⟨_, rfl⟩
              rw [hjn] at n1 n2 n3
              have hlv : leV r x.f1 = ((jn : Int), true) := by unfold leV; rw [n3]
              have hll : ∀ s ∈ x.f1, (-9223372036854775808 : Int) ≤ s := fun s hs => by have := ((okR_sides HX.out).2.2.2 s hs).2; omega
              have kL : ∀ W, Below w.heap.size w W → Calls Tryd.prog 55 #[.func (.func fk) #[] #[], .slice A3' x.f1.length c3'] W fun e w' => e = .returned (.tuple #[.int .i64 (jn : Int), .bool true]) ∧ Below W.heap.size W w' := fun W hb => by
                have := Leads_calls r x.f1 A3' c3' W (Kd.C_below Y3.out hb) hll
                rw [hlv, HFK.out] at this
                exact this
              have HWJ := Lib.hid (show L ++ (((kk : Nat) : Int) :: walkC r tm F l3 (m - 1) jn) = walkC r tm F l3 d i by rw [← hjn]; exact HWK.out)
              have HN1 := Lib.hid n1
              have HN2 := Lib.hid n2
              have KL0 := Aside0.mk kL
              clear kL hll hlv n1 n2 n3 hjn
              have e3 : decide (1 < (m : Int)) = true := decide_eq_true (by omega)
              have e4 : decide ((1 : Nat) < m) = true := decide_eq_true (by omega)
              have e5 : decide ((0 : Int) < (m : Int)) = true := decide_eq_true (by omega)
              have e6 : decide ((0 : Nat) < m) = true := decide_eq_true (by omega)
              go_wp2_with (first
                | (go_at_call 56; (with_reducible refine KI.out.mono ?_); clear f0 f1 f2 f3 f4 f5 f6 f7 fn ffz fiz; rintro e w4 ⟨rfl, t4⟩)
                | ((with_reducible refine gate_builtin (b := .append) (xs := #[.tmp 144, .tmp 146]) rfl ?_); at_builtin; go_loud (refine Kd.R_append (Kd.int .i64) (w0 := w4) (w2.heap.size + 3) rfl (.tmp 144) (.tmp 146) 24 3 (.int .i64 0) 8 rfl Tryd.underlying24 infoInt rfl (by decide) (by decide) u21 L (kk : Int) [.int .i64 (kk : Int)] (fun k => k ≠ b) (fun _ => False) rfl rfl rfl (fun _ hk => hk.elim) ?aF t4.out.own (Below.refl _ _) ?aS ?aL ?_; (case aF => exact fun k hk => by have := (ARM.out t4.out).2; omega); (case aS => exact (ARM.out t4.out).1); (case aL => omega); intro v1 w5 hR hB hg hat'; have T5 := Aside0.mk (C2.grown t4.out hg hR); clear hR hB hg hat'; obtain ⟨f0, f1, f2, f3, f4, f5, f6, f7⟩ := CE2.out _ F T5.out.ch; have fn := Box.cell T5.out.nb 0 _ rfl; have ffz := box_frozen T5.out.nb 0; have fiz := box_frozen T5.out.ch.bi 0; have fy := YC.out _ T5.out.ch.low)))
              have KL5 : Aside0 (∀ {W}, C2 w cs w2.heap.size r i' tm l1.length F b m v1 (L ++ [(kk : Int)]) W → Calls Tryd.prog 55 #[.func (.func fk) #[] #[], .slice A3' x.f1.length c3'] W fun e w' => e = .returned (.tuple #[.int .i64 (jn : Int), .bool true]) ∧ Aside0 (C2 w cs w2.heap.size r i' tm l1.length F b m v1 (L ++ [(kk : Int)]) w') ∧ w'.cell? ⟨w2.heap.size, 0, none⟩ = some (.func (.func fk) #[] #[]) ∧ w'.cell? ⟨w.heap.size, 3, none⟩ = some (.slice (some ad3) l3.length c3) ∧ w'.cell? ⟨(ad3.add (kk * 2)).block, (ad3.add (kk * 2)).off + 1, none⟩ = some (.slice A3' x.f1.length c3') ∧ w'.cell? ⟨w.heap.size + 1, 0, none⟩ = some (.int .i64 (i' : Int)) ∧ w'.frozen? ⟨w.heap.size + 1, 0, none⟩ = false) := ⟨fun hW => (KL0.out _ hW.ch.low).mono fun _ _ ⟨he, hb⟩ => by
                have h' := hW.below hb
                obtain ⟨g0, g1, g2, g3, g4, g5, g6, g7⟩ := CE2.out _ F h'.ch
                exact ⟨he, ⟨h'⟩, g6, g3, YC.out _ h'.ch.low, g4, box_frozen h'.ch.bi 0⟩⟩
              have CSO : Aside0 (∀ (W : World) (u : Value), (W.setCell ⟨w.heap.size + 1, 0, none⟩ u).cell? ⟨w2.heap.size, 0, none⟩ = W.cell? ⟨w2.heap.size, 0, none⟩ ∧ (W.setCell ⟨w.heap.size + 1, 0, none⟩ u).cell? ⟨w.heap.size, 3, none⟩ = W.cell? ⟨w.heap.size, 3, none⟩ ∧ (W.setCell ⟨w.heap.size + 1, 0, none⟩ u).cell? ⟨(ad3.add (kk * 2)).block, (ad3.add (kk * 2)).off + 1, none⟩ = W.cell? ⟨(ad3.add (kk * 2)).block, (ad3.add (kk * 2)).off + 1, none⟩) := by
                have l1 := T5.out.ch.lt
                have l2 := World.block_lt_of_cell? w _ (YC.out w (Below.refl _ _))
                refine ⟨fun W u => ⟨?_, ?_, ?_⟩⟩ <;> refine World.cell?_setCell_other _ _ _ _ (fun e => ?_) <;> injection e with e1 e2 <;> omega
              go_region_held3 (fun W' => W'.cell? ⟨w2.heap.size, 0, none⟩ = some (.func (.func fk) #[] #[]) ∧ W'.cell? ⟨w.heap.size, 3, none⟩ = some (.slice (some ad3) l3.length c3) ∧ W'.cell? ⟨(ad3.add (kk * 2)).block, (ad3.add (kk * 2)).off + 1, none⟩ = some (.slice A3' x.f1.length c3'))
                (first | (go_keep; done) | exact ⟨(CSO.out _ _).1.trans g6, (CSO.out _ _).2.1.trans g3, (CSO.out _ _).2.2.trans gy⟩)
                ((go_at_call 55; (with_reducible refine (KL5.out ?_).mono ?_); exact (by first | exact T5.out | exact T5.out.below (Below.refl _ _).drew | exact T5.out.below (pw_below_drewN (Below.refl _ _) _)); rintro e w6 ⟨rfl, t6, g6, g3, gy, g4, gz⟩))
              have T7 := Aside0.mk (t6.out.putI jn)
              clear f0 f1 f2 f3 f4 f5 f6 f7 fn ffz fiz fy g6 g3 gy g4 gz CSO
              generalize w6.setCell ⟨w.heap.size + 1, 0, none⟩ (.int .i64 (jn : Int)) = w7 at T7 ⊢
              have fn := Box.cell T7.out.nb 0 _ rfl
              have ffz := box_frozen T7.out.nb 0
              go_wp2_with fail
              refine ⟨⟨m - 1, jn, _, L ++ [(kk : Int)], rfl, Lib.hid (by rw [← HWJ.out, List.append_assoc]; rfl), Lib.hid (.inr ⟨HN1.out, HN2.out⟩), by omega, Lib.hid (by have := hLm.out; rw [List.length_append, List.length_singleton]; omega), Aside0.mk (by have := C2.next T7.out (m - 1); rwa [sub1 hm1'] at this)⟩, ?_⟩
              rw [numAt_box tq5.out.nb, ← sub1 hm1', numAt_box (Box.new w7 #[.int .i64 ((m - 1 : Nat) : Int)] 3)]
              omega
end Go.Proofs.YtjkifeladmhkoaaDoor.E8
/- errors.Is at a rule error, after the kit's worked example. -/
set_option linter.unusedVariables false
set_option linter.unusedSimpArgs false
namespace Go.Proofs.YtjkifeladmhkoaaDoor.E
open Go.RowKit Go.Extern.Stop Go.Stop Go.Extern
theorem noIsWR (v : Value) (xT : TypeId) (w : World) : (Instr.typeAssert (.iface 119 v) xT 172 true).run Tryd.prog w = .ok (.tuple #[.nilIface, .bool false]) w := run_typeAssert_lacksB Tryd.underlying172 (by kernel_rfl) (by kernel_rfl) v xT w
theorem hasUnwrapWR (v : Value) (xT : TypeId) (w : World) : (Instr.typeAssert (.iface 119 v) xT 175 true).run Tryd.prog w = .ok (.tuple #[.iface 119 v, .bool true]) w := run_typeAssert_hasB Tryd.underlying175 (by kernel_rfl) v xT w
theorem methodUnwrapR (v : Value) (w : World) : (Go.method 323 119 v "Unwrap").run Tryd.prog w = .ok (130, v) w := by kernel_rfl

/-- errors.Is(e, x), e a *fmt.wrapError that wraps x itself: one Unwrap, then equal. -/
theorem isR_same (pb po : Nat) (b : Addr) (w : World) (h1 : w.cell? ⟨pb, po + 1, none⟩ = some (.iface 190 (.pointer (some b)))) :
    Calls Tryd.prog 60 #[.iface 119 (.pointer (some ⟨pb, po, none⟩)), .iface 190 (.pointer (some b))] w fun e w' => e = .returned (.bool true) ∧ w = w' := by
  obtain ⟨i, hi, hcmp⟩ := Option.map_eq_some_iff.1 isComp
  obtain ⟨j, hj, hjs⟩ := Option.map_eq_some_iff.1 isSize
  have h8 := @run_callFunc_extern Tryd.prog 85 _ Extern.ReflectliteType.typeOf Tryd.func85 (by kernel_rfl) (by kernel_rfl) (by kernel_rfl) (by kernel_rfl)
  have h32 := @run_callFunc_extern Tryd.prog 136 _ compF Tryd.func136 (by kernel_rfl) (by kernel_rfl) (by kernel_rfl) (by kernel_rfl)
  have tT := isTypeOf
  have cT := isComparable
  have mR := isMethodComparable
  have nE := noIsE
  have uE := noUnwrapE
  have vE := noUnwrapsE
  have nW := noIsWR
  have uW := hasUnwrapWR
  have mU := methodUnwrapR
  have heq := run_eql_iface_ptr_same (P := Tryd.prog) w b Tryd.underlying26 Tryd.underlying190 hi hcmp hj
  have hty := run_eql_iface_types (P := Tryd.prog) 119 190 (.pointer (some ⟨pb, po, none⟩)) (.pointer (some b)) Tryd.underlying26 (by decide) w
  go_enter Tryd.func60, Tryd.ntmps60
  go_wp2
  refine wp_loop_rounds 2 ?_
  rw [rounds_succ]
  go_wp2
  rw [rounds_succ]
  go_wp2
  go_ret
  exact ⟨rfl, rfl⟩

/-- errors.Is(e, x), e a *fmt.wrapError that wraps another error of errors.New's make. -/
theorem isR_other (pb po : Nat) (b a : Addr) (ca cb : Array Value) (ta tb : TypeId) (w : World) (h1 : w.cell? ⟨pb, po + 1, none⟩ = some (.iface 190 (.pointer (some a)))) (hne : a ≠ b) (ha : w.heap[a.block]? = some (.cells ca ta (0, 0))) (hb : w.heap[b.block]? = some (.cells cb tb (0, 0))) :
    Calls Tryd.prog 60 #[.iface 119 (.pointer (some ⟨pb, po, none⟩)), .iface 190 (.pointer (some b))] w fun e w' => e = .returned (.bool false) ∧ w = w' := by
  obtain ⟨i, hi, hcmp⟩ := Option.map_eq_some_iff.1 isComp
  obtain ⟨j, hj, hjs⟩ := Option.map_eq_some_iff.1 isSize
  have h8 := @run_callFunc_extern Tryd.prog 85 _ Extern.ReflectliteType.typeOf Tryd.func85 (by kernel_rfl) (by kernel_rfl) (by kernel_rfl) (by kernel_rfl)
  have h32 := @run_callFunc_extern Tryd.prog 136 _ compF Tryd.func136 (by kernel_rfl) (by kernel_rfl) (by kernel_rfl) (by kernel_rfl)
  have tT := isTypeOf
  have cT := isComparable
  have mR := isMethodComparable
  have nE := noIsE
  have uE := noUnwrapE
  have vE := noUnwrapsE
  have nW := noIsWR
  have uW := hasUnwrapWR
  have mU := methodUnwrapR
  have heq := run_eql_iface_ptr_other (P := Tryd.prog) w Tryd.underlying26 Tryd.underlying190 hi hcmp hj (by rw [hjs]; decide) hne ha hb
  have hty := run_eql_iface_types (P := Tryd.prog) 119 190 (.pointer (some ⟨pb, po, none⟩)) (.pointer (some b)) Tryd.underlying26 (by decide) w
  go_enter Tryd.func60, Tryd.ntmps60
  go_wp2
  refine wp_loop_rounds 2 ?_
  rw [rounds_succ]
  go_wp2
  rw [rounds_succ]
  go_wp2
  go_ret
  exact ⟨rfl, rfl⟩
end Go.Proofs.YtjkifeladmhkoaaDoor.E
/- errors.As at a rule error, after the kit's worked example. -/
set_option linter.unusedVariables false
set_option linter.unusedSimpArgs false
namespace Go.Proofs.YtjkifeladmhkoaaDoor.E
open Go.RowKit Go.Extern.Stop Go.Stop Go.Extern

/-- errors.As(nil, target). -/
theorem as_nilR (t : Value) (w : World) :
    Calls Tryd.prog 67 #[.nilIface, t] w fun e w' => e = .returned (.bool false) ∧ w' = w := by
  go_enter Tryd.func67, Tryd.ntmps67
  go_wp2
  go_ret
  exact ⟨rfl, rfl⟩

/-! ### CLOSED FACTS ON THE MODEL's ENTRIES FOR internal/reflectlite, at this program's types: 25: *p.E · 27: **p.E · 23: error · 45: reflectlite's rtype · 1: how many package-level variables the dump has -/
theorem valueOf27R (t : Addr) (w : World) : (ReflectliteValue.unpack (.iface 121 (.pointer (some t)))).run Tryd.prog w
    = .ok (.agg #[.pointer (some ⟨17, 121, none⟩), .pointer (some ⟨w.heap.size, 0, none⟩), .int .u64 150]) (w.alloc (.cells #[.pointer (some t)] 121)) := by kernel_rfl
theorem type27R (a : Addr) (w : World) : (ReflectliteValue.methodAny (ReflectliteValue.valueError "reflectlite.Value.Type" 0) (fun t _ _ _ => ReflectliteType.toType t) #[.agg #[.pointer (some ⟨17, 121, none⟩), .pointer (some a), .int .u64 150]]).run Tryd.prog w
    = .ok (.iface 170 (.agg #[.pointer (some ⟨17, 121, none⟩)])) w := by kernel_rfl
theorem methodKindR (h : Value) (w : World) : (Go.method 323 170 (.agg #[h]) "Kind").run Tryd.prog w = .ok (126, h) w := by kernel_rfl
theorem kind27R (w : World) : ((ReflectliteType.abiMethod fun t => (fun a : Nat => Value.int IntKind.u8 (a : Int)) <$> Rtype.kind t) #[.pointer (some ⟨17, 121, none⟩)]).run Tryd.prog w = .ok (.int .u8 22) w := by kernel_rfl
theorem kind25R (w : World) : ((ReflectliteType.abiMethod fun t => (fun a : Nat => Value.int IntKind.u8 (a : Int)) <$> Rtype.kind t) #[.pointer (some ⟨17, 119, none⟩)]).run Tryd.prog w = .ok (.int .u8 22) w := by kernel_rfl

/-! ### THE ENTRIES THAT READ OR WRITE MEMORY: laws with a premise on the cell (after Derived/Lib/ReflectliteSlice.lean's manner: each unfolding a lemma of its own, by rfl) -/
theorem rlmR (z : Sem Value) (f : TypeId → Addr → Nat → Nat → Sem Value) (v : Value) :
    ReflectliteValue.method z f #[v] = (do match ← ReflectliteValue.parts v with | none => z | some (t, a, fl) => f t a fl (fl % 32)) := rfl
theorem parts27R (a : Addr) (w : World) : (ReflectliteValue.parts (.agg #[.pointer (some ⟨17, 121, none⟩), .pointer (some a), .int .u64 150])).run Tryd.prog w = .ok (some (121, a, 150)) w := by kernel_rfl
/-- (Value).IsNil at the Value of a **p.E that is not nil. -/
theorem isNil27R (a p : Addr) (W : World) (ha : W.cell? a = some (.pointer (some p))) :
    (ReflectliteValue.method (ReflectliteValue.valueError "reflectlite.Value.IsNil" 0) ReflectliteValue.isNil #[.agg #[.pointer (some ⟨17, 121, none⟩), .pointer (some a), .int .u64 150]]).run Tryd.prog W = .ok (.bool false) W := by
  rw [rlmR]
  simp only [Sem.run_bind, parts27R, Result.andThen]
  simp [ReflectliteValue.isNil, loadVar, isAgg, underlying, Tryd.underlying121, ha, Result.andThen]

theorem methodElemR (h : Value) (w : World) : (Go.method 323 170 (.agg #[h]) "Elem").run Tryd.prog w = .ok (137, .agg #[h]) w := by kernel_rfl
theorem methodImplementsR (h : Value) (w : World) : (Go.method 323 170 (.agg #[h]) "Implements").run Tryd.prog w = .ok (138, .agg #[h]) w := by kernel_rfl
theorem methodAssignableToR (h : Value) (w : World) : (Go.method 323 170 (.agg #[h]) "AssignableTo").run Tryd.prog w = .ok (135, .agg #[h]) w := by kernel_rfl
theorem elem27R (w : World) : (ReflectliteType.method ReflectliteType.elem #[.agg #[.pointer (some ⟨17, 121, none⟩)]]).run Tryd.prog w = .ok (.iface 170 (.agg #[.pointer (some ⟨17, 119, none⟩)])) w := by kernel_rfl
theorem implements25R (w : World) : (ReflectliteType.relation "Implements" ReflectliteType.implements_ #[.agg #[.pointer (some ⟨17, 119, none⟩)], .iface 170 (.agg #[.pointer (some ⟨17, 26, none⟩)])]).run Tryd.prog w = .ok (.bool true) w := by kernel_rfl
theorem typeOf25R (v : Value) (w : World) : (ReflectliteType.typeOf #[.iface 119 v]).run Tryd.prog w = .ok (.iface 170 (.agg #[.pointer (some ⟨17, 119, none⟩)])) w := by kernel_rfl
theorem assignable25R (w : World) : (ReflectliteType.relation "AssignableTo" ReflectliteType.assignableTo #[.agg #[.pointer (some ⟨17, 119, none⟩)], .iface 170 (.agg #[.pointer (some ⟨17, 119, none⟩)])]).run Tryd.prog w = .ok (.bool true) w := by kernel_rfl
theorem valueOf25R (e : Addr) (w : World) : (ReflectliteValue.unpack (.iface 119 (.pointer (some e)))).run Tryd.prog w
    = .ok (.agg #[.pointer (some ⟨17, 119, none⟩), .pointer (some ⟨w.heap.size, 0, none⟩), .int .u64 150]) (w.alloc (.cells #[.pointer (some e)] 119)) := by kernel_rfl

theorem elemOf27R (w : World) : (Rtype.elem? 121).run Tryd.prog w = .ok (some 119) w := by kernel_rfl
theorem mk25R (p : Addr) (w : World) : (ReflectliteValue.mk 119 p ReflectliteValue.flagAddr).run Tryd.prog w = .ok (.agg #[.pointer (some ⟨17, 119, none⟩), .pointer (some p), .int .u64 406]) w := by kernel_rfl
/-- (Value).Elem at the Value of a **p.E that is not nil: the Value of the *p.E variable that it points to, addressable. -/
theorem elemV27R (a p : Addr) (W : World) (ha : W.cell? a = some (.pointer (some p))) :
    (ReflectliteValue.method (ReflectliteValue.valueError "reflectlite.Value.Elem" 0) ReflectliteValue.elem #[.agg #[.pointer (some ⟨17, 121, none⟩), .pointer (some a), .int .u64 150]]).run Tryd.prog W
      = .ok (.agg #[.pointer (some ⟨17, 119, none⟩), .pointer (some p), .int .u64 406]) W := by
  rw [rlmR]
  simp only [Sem.run_bind, parts27R, Result.andThen]
  simp [ReflectliteValue.elem, loadVar, isAgg, underlying, Tryd.underlying121, ha, Result.andThen, elemOf27R, mk25R]
theorem rlsR (v x : Value) : ReflectliteValue.set #[v, x] = (do
    let (some (dst, a, fl), some (src, b, _)) := (← ReflectliteValue.parts v, ← ReflectliteValue.parts x)
      | unsupported (.noEntry "extern/(internal/reflectlite.Value).Set.zeroValue")
    if fl / ReflectliteValue.flagAddr % 2 == 0 then unsupported (.noEntry "extern/(internal/reflectlite.Value).Set.unaddressable")
    let val ← loadVar src b
    if ← Rtype.directlyAssignable dst src then storeVar dst a val
    else if ← Rtype.implements dst src then
      if (← Rtype.kind src) == 20 then
        match val with
        | .nilIface => unsupported (.noEntry "extern/reflectlite: a nil value of one interface type handed on as a value of another")
        | _ => storeVar dst a val
      else storeVar dst a (.iface src val)
    else panicString ("reflectlite.Set: value of type " ++ (← Rtype.spelt src) ++ " is not assignable to type " ++ (← Rtype.spelt dst))
    pure (.tuple #[])) := rfl
theorem parts25aR (a : Addr) (w : World) : (ReflectliteValue.parts (.agg #[.pointer (some ⟨17, 119, none⟩), .pointer (some a), .int .u64 406])).run Tryd.prog w = .ok (some (119, a, 406)) w := by kernel_rfl
theorem parts25R (a : Addr) (w : World) : (ReflectliteValue.parts (.agg #[.pointer (some ⟨17, 119, none⟩), .pointer (some a), .int .u64 150])).run Tryd.prog w = .ok (some (119, a, 150)) w := by kernel_rfl
theorem direct25R (w : World) : (Rtype.directlyAssignable 119 119).run Tryd.prog w = .ok true w := by kernel_rfl
/-- (Value).Set: the *p.E variable at 'ta' gets what the Value's own variable 'b' holds. -/
theorem set25R (ta b e : Addr) (old : Value) (W : World) (hb : W.cell? b = some (.pointer (some e))) (ht : W.cell? ta = some old) (hf : W.frozen? ta = false) :
    (ReflectliteValue.set #[.agg #[.pointer (some ⟨17, 119, none⟩), .pointer (some ta), .int .u64 406], .agg #[.pointer (some ⟨17, 119, none⟩), .pointer (some b), .int .u64 150]]).run Tryd.prog W
      = .ok (.tuple #[]) (W.setCell ta (.pointer (some e))) := by
  rw [rlsR]
  simp only [Sem.run_bind, parts25aR, parts25R, Result.andThen]
  simp [ReflectliteValue.flagAddr, loadVar, isAgg, underlying, Tryd.underlying119, hb, Result.andThen, direct25R, storeVar, Value.cells, storeCells, Addr.add]
  rw [run_store Tryd.prog W ta _ _ (by rfl)]
  simp [ht, hf]

set_option maxHeartbeats 4000000 in
theorem as_hitR (e t : Addr) (old : Value) (w : World) (hg : w.cell? ⟨15, 0, none⟩ = some (.iface 170 (.agg #[.pointer (some ⟨17, 26, none⟩)]))) (ht0 : w.cell? t = some old) (hf0 : w.frozen? t = false) :
    Calls Tryd.prog 67 #[.iface 119 (.pointer (some e)), .iface 121 (.pointer (some t))] w fun ev w' => ev = .returned (.bool true) ∧ w' = ((((w.alloc (.cells #[.pointer (some t)] 121)).alloc (.cells #[.pointer (some ⟨17, 121, none⟩), .pointer (some ⟨w.heap.size, 0, none⟩), .int .u64 150] 153)).alloc (.cells #[.pointer (some ⟨17, 121, none⟩), .pointer (some ⟨w.heap.size, 0, none⟩), .int .u64 150] 153)).alloc (.cells #[.pointer (some e)] 119)).setCell t (.pointer (some e)) := by
  have h6 := @run_callFunc_extern Tryd.prog 91 _ (fun args => ReflectliteValue.unpack (args.getD 0 (.tuple #[]))) Tryd.func91 (by kernel_rfl) (by kernel_rfl) (by kernel_rfl) (by kernel_rfl)
  have h7 := @run_callFunc_extern Tryd.prog 92 _ (ReflectliteValue.methodAny (ReflectliteValue.valueError "reflectlite.Value.Type" 0) (fun t _ _ _ => ReflectliteType.toType t)) Tryd.func92 (by kernel_rfl) (by kernel_rfl) (by kernel_rfl) (by kernel_rfl)
  have h8 := @run_callFunc_extern Tryd.prog 93 _ (ReflectliteValue.method (ReflectliteValue.valueError "reflectlite.Value.IsNil" 0) ReflectliteValue.isNil) Tryd.func93 (by kernel_rfl) (by kernel_rfl) (by kernel_rfl) (by kernel_rfl)
  have h27 := @run_callFunc_extern Tryd.prog 126 _ (ReflectliteType.abiMethod fun t => do pure (.int .u8 (← Rtype.kind t))) Tryd.func126 (by kernel_rfl) (by kernel_rfl) (by kernel_rfl) (by kernel_rfl)
  have h37 := @run_callFunc_extern Tryd.prog 137 _ (ReflectliteType.method ReflectliteType.elem) Tryd.func137 (by kernel_rfl) (by kernel_rfl) (by kernel_rfl) (by kernel_rfl)
  have h38 := @run_callFunc_extern Tryd.prog 138 _ (ReflectliteType.relation "Implements" ReflectliteType.implements_) Tryd.func138 (by kernel_rfl) (by kernel_rfl) (by kernel_rfl) (by kernel_rfl)
  have h10 := @run_callFunc_extern Tryd.prog 85 _ ReflectliteType.typeOf Tryd.func85 (by kernel_rfl) (by kernel_rfl) (by kernel_rfl) (by kernel_rfl)
  have h35 := @run_callFunc_extern Tryd.prog 135 _ (ReflectliteType.relation "AssignableTo" ReflectliteType.assignableTo) Tryd.func135 (by kernel_rfl) (by kernel_rfl) (by kernel_rfl) (by kernel_rfl)
  have h11 := @run_callFunc_extern Tryd.prog 106 _ (ReflectliteValue.method (ReflectliteValue.valueError "reflectlite.Value.Elem" 0) ReflectliteValue.elem) Tryd.func106 (by kernel_rfl) (by kernel_rfl) (by kernel_rfl) (by kernel_rfl)
  have h12 := @run_callFunc_extern Tryd.prog 107 _ ReflectliteValue.set Tryd.func107 (by kernel_rfl) (by kernel_rfl) (by kernel_rfl) (by kernel_rfl)
  have tO := typeOf25R
  have mA := methodAssignableToR
  have a25 := assignable25R
  have v25 := valueOf25R
  have f6 := valueOf27R
  have f7 := type27R
  have mK := methodKindR
  have mE := methodElemR
  have mI := methodImplementsR
  have k27 := kind27R
  have k25 := kind25R
  have e27 := elem27R
  have i25 := implements25R
  have n8 := isNil27R ⟨w.heap.size, 0, none⟩ t ((w.alloc (.cells #[.pointer (some t)] 121)).alloc (.cells #[.pointer (some ⟨17, 121, none⟩), .pointer (some ⟨w.heap.size, 0, none⟩), .int .u64 150] 153)) (by simp)
  have hlt : 15 < w.heap.size := by
    exact World.block_lt_of_cell? w _ hg
  have hg2 : ((w.alloc (.cells #[.pointer (some t)] 121)).alloc (.cells #[.pointer (some ⟨17, 121, none⟩), .pointer (some ⟨w.heap.size, 0, none⟩), .int .u64 150] 153)).cell? ⟨15, 0, none⟩ = some (.iface 170 (.agg #[.pointer (some ⟨17, 26, none⟩)])) := by
    rw [World.cell?_alloc_lt _ _ ⟨15, 0, none⟩ (by simp; omega), World.cell?_alloc_lt _ _ ⟨15, 0, none⟩ hlt]; exact hg
  have htl : t.block < w.heap.size := by
    rcases Nat.lt_or_ge t.block w.heap.size with h | h
    · exact h
    · simp [World.cell?, Array.getElem?_eq_none h] at ht0
  have el := elemV27R ⟨w.heap.size, 0, none⟩ t (((w.alloc (.cells #[.pointer (some t)] 121)).alloc (.cells #[.pointer (some ⟨17, 121, none⟩), .pointer (some ⟨w.heap.size, 0, none⟩), .int .u64 150] 153)).alloc (.cells #[.pointer (some ⟨17, 121, none⟩), .pointer (some ⟨w.heap.size, 0, none⟩), .int .u64 150] 153)) (by rw [World.cell?_alloc_lt _ _ ⟨w.heap.size, 0, none⟩ (by simp; omega)]; simp)
  have st := set25R t ⟨w.heap.size + 1 + 1 + 1, 0, none⟩ e old ((((w.alloc (.cells #[.pointer (some t)] 121)).alloc (.cells #[.pointer (some ⟨17, 121, none⟩), .pointer (some ⟨w.heap.size, 0, none⟩), .int .u64 150] 153)).alloc (.cells #[.pointer (some ⟨17, 121, none⟩), .pointer (some ⟨w.heap.size, 0, none⟩), .int .u64 150] 153)).alloc (.cells #[.pointer (some e)] 119))
    (by rw [World.cell?_alloc_at _ _ _ _ (by simp)]; rfl)
    (by rw [World.cell?_alloc_lt _ _ t (by simp; omega), World.cell?_alloc_lt _ _ t (by simp; omega), World.cell?_alloc_lt _ _ t (by simp; omega), World.cell?_alloc_lt _ _ t htl]; exact ht0)
    (by rw [World.frozen?_alloc_old _ _ t (by simp; omega), World.frozen?_alloc_old _ _ t (by simp; omega), World.frozen?_alloc_old _ _ t (by simp; omega), World.frozen?_alloc_old _ _ t (Nat.ne_of_lt htl)]; exact hf0)
  go_enter Tryd.func67, Tryd.ntmps67
  go_wp2
  refine wp_loop_rounds 1 ?_
  rw [rounds_succ]
  go_wp2
  go_ret
  exact ⟨rfl, rfl⟩
/-! ### At an error of another type -/
theorem typeOfER (v : Value) (w : World) : (ReflectliteType.typeOf #[.iface 190 v]).run Tryd.prog w = .ok (.iface 170 (.agg #[.pointer (some ⟨17, 190, none⟩)])) w := by kernel_rfl
theorem assignableER (w : World) : (ReflectliteType.relation "AssignableTo" ReflectliteType.assignableTo #[.agg #[.pointer (some ⟨17, 190, none⟩)], .iface 170 (.agg #[.pointer (some ⟨17, 119, none⟩)])]).run Tryd.prog w = .ok (.bool false) w := by kernel_rfl
theorem noAsER (v : Value) (xT : TypeId) (w : World) : (Instr.typeAssert (.iface 190 v) xT 182 true).run Tryd.prog w = .ok (.tuple #[.nilIface, .bool false]) w := run_typeAssert_lacksB Tryd.underlying182 (by kernel_rfl) (by kernel_rfl) v xT w
set_option maxHeartbeats 4000000 in
/-- errors.As at a sentinel: false. -/
theorem as_esR (a t : Addr) (w : World) (hg : w.cell? ⟨15, 0, none⟩ = some (.iface 170 (.agg #[.pointer (some ⟨17, 26, none⟩)]))) :
    Calls Tryd.prog 67 #[.iface 190 (.pointer (some a)), .iface 121 (.pointer (some t))] w fun ev w' => ev = .returned (.bool false) ∧ Below w.heap.size w w' := by
  have h6 := @run_callFunc_extern Tryd.prog 91 _ (fun args => ReflectliteValue.unpack (args.getD 0 (.tuple #[]))) Tryd.func91 (by kernel_rfl) (by kernel_rfl) (by kernel_rfl) (by kernel_rfl)
  have h7 := @run_callFunc_extern Tryd.prog 92 _ (ReflectliteValue.methodAny (ReflectliteValue.valueError "reflectlite.Value.Type" 0) (fun t _ _ _ => ReflectliteType.toType t)) Tryd.func92 (by kernel_rfl) (by kernel_rfl) (by kernel_rfl) (by kernel_rfl)
  have h8 := @run_callFunc_extern Tryd.prog 93 _ (ReflectliteValue.method (ReflectliteValue.valueError "reflectlite.Value.IsNil" 0) ReflectliteValue.isNil) Tryd.func93 (by kernel_rfl) (by kernel_rfl) (by kernel_rfl) (by kernel_rfl)
  have h27 := @run_callFunc_extern Tryd.prog 126 _ (ReflectliteType.abiMethod fun t => do pure (.int .u8 (← Rtype.kind t))) Tryd.func126 (by kernel_rfl) (by kernel_rfl) (by kernel_rfl) (by kernel_rfl)
  have h37 := @run_callFunc_extern Tryd.prog 137 _ (ReflectliteType.method ReflectliteType.elem) Tryd.func137 (by kernel_rfl) (by kernel_rfl) (by kernel_rfl) (by kernel_rfl)
  have h38 := @run_callFunc_extern Tryd.prog 138 _ (ReflectliteType.relation "Implements" ReflectliteType.implements_) Tryd.func138 (by kernel_rfl) (by kernel_rfl) (by kernel_rfl) (by kernel_rfl)
  have h10 := @run_callFunc_extern Tryd.prog 85 _ ReflectliteType.typeOf Tryd.func85 (by kernel_rfl) (by kernel_rfl) (by kernel_rfl) (by kernel_rfl)
  have h35 := @run_callFunc_extern Tryd.prog 135 _ (ReflectliteType.relation "AssignableTo" ReflectliteType.assignableTo) Tryd.func135 (by kernel_rfl) (by kernel_rfl) (by kernel_rfl) (by kernel_rfl)
  have tO := typeOfER
  have a25 := assignableER
  have nA := noAsER
  have uE := noUnwrapE
  have vE := noUnwrapsE
  have mA := methodAssignableToR
  have f6 := valueOf27R
  have f7 := type27R
  have mK := methodKindR
  have mE := methodElemR
  have mI := methodImplementsR
  have k27 := kind27R
  have k25 := kind25R
  have e27 := elem27R
  have i25 := implements25R
  have n8 := isNil27R ⟨w.heap.size, 0, none⟩ t ((w.alloc (.cells #[.pointer (some t)] 121)).alloc (.cells #[.pointer (some ⟨17, 121, none⟩), .pointer (some ⟨w.heap.size, 0, none⟩), .int .u64 150] 153)) (by simp)
  have hlt : 15 < w.heap.size := by
    exact World.block_lt_of_cell? w _ hg
  have hg2 : ((w.alloc (.cells #[.pointer (some t)] 121)).alloc (.cells #[.pointer (some ⟨17, 121, none⟩), .pointer (some ⟨w.heap.size, 0, none⟩), .int .u64 150] 153)).cell? ⟨15, 0, none⟩ = some (.iface 170 (.agg #[.pointer (some ⟨17, 26, none⟩)])) := by
    rw [World.cell?_alloc_lt _ _ ⟨15, 0, none⟩ (by simp; omega), World.cell?_alloc_lt _ _ ⟨15, 0, none⟩ hlt]; exact hg
  go_enter Tryd.func67, Tryd.ntmps67
  go_wp2
  refine wp_loop_rounds 1 ?_
  rw [rounds_succ]
  go_wp2
  go_ret
  exact ⟨rfl, (((Below.refl _ w).alloc (Nat.le_refl _) _).alloc (by simp) _).alloc (by simp; omega) _⟩
end Go.Proofs.YtjkifeladmhkoaaDoor.E
/- kit.Kind and kit.Rule of what gram.Check answers. -/
set_option linter.unusedVariables false
set_option linter.unusedSimpArgs false
namespace Go.Proofs.YtjkifeladmhkoaaDoor.B
open Go.RowKit Go.Proofs.YtjkifeladmhkoaaDoorW.PrintWords Go.Proofs.YtjkifeladmhkoaaDoorW.PrintLast Go.Proofs.YtjkifeladmhkoaaDoorW.PrintMore Go.Proofs.YtjkifeladmhkoaaDoor.E

theorem SentsK.three {ad : Int → Addr} {w : World} (h : SentsK ad w) : Sents ad w := by
  obtain ⟨⟨h1, h2, h3, h4, h5, h6, h7, h8, h9, h10, h11, h12, h13, h14, h15⟩, _, _⟩ := h
  exact ⟨h3, h10, h1⟩

theorem IsK.rule {ad : Int → Addr} {w : World} (hs : SentsK ad w) (k : Int) (h1 : 1 ≤ k) (h2 : k ≤ 15) (b : Nat) (hc : w.cell? ⟨b, 1, none⟩ = some (.iface 190 (.pointer (some (ad k))))) : IsK ad w (.iface 119 (.pointer (some ⟨b, 0, none⟩))) k := by
  intro j hj1 hj2 W hW
  have hc' : W.cell? ⟨b, 0 + 1, none⟩ = some (.iface 190 (.pointer (some (ad k)))) := (hW.cell (World.block_lt_of_cell? w _ hc)).trans hc
  by_cases h : j = k
  · subst h
    rw [decide_eq_true rfl]
    exact isR_same b 0 (ad j) W hc'
  · rw [decide_eq_false h]
    obtain ⟨ca, ta, hca⟩ := (hs.below hW).box k h1 h2
    obtain ⟨cb, tb, hcb⟩ := (hs.below hW).box j hj1 hj2
    exact isR_other b 0 (ad j) (ad k) ca cb ta tb W hc' (hs.ne k j h1 h2 hj1 hj2 (fun e => h e.symm)) hca hcb
/-- The handle of the type error lies. -/
def Handle (w : World) : Prop := w.cell? ⟨15, 0, none⟩ = some (.iface 170 (.agg #[.pointer (some ⟨17, 26, none⟩)]))
theorem Handle.below {w w' : World} (h : Handle w) (hb : Below w.heap.size w w') : Handle w' := (hb.cell (World.block_lt_of_cell? w _ h)).trans h

set_option maxHeartbeats 1000000 in
set_option maxRecDepth 100000 in
theorem Rule_no (v : Value) (w : World) (hA : ∀ W, Below w.heap.size w W → ∀ a, Calls Tryd.prog 67 #[v, .iface 121 (.pointer (some a))] W fun e w' => e = .returned (.bool false) ∧ Below W.heap.size W w') :
    Calls Tryd.prog 28 #[v] w fun e w' => e = .returned (.int .i64 (-1)) ∧ Below w.heap.size w w' := by
  have hb : Below w.heap.size w (w.alloc (.cells #[.pointer none] 119)) := (Below.refl _ w).alloc (Nat.le_refl _) _
  have HA := Aside0.mk (hA _ hb ⟨w.heap.size, 0, none⟩)
  have HB := Aside0.mk hb
  clear hA hb
  go_enter Tryd.func28, Tryd.ntmps28
  go_wp2_with (go_at_call 67; (with_reducible refine HA.out.mono ?_); rintro e w' ⟨rfl, hb'⟩)
  go_ret
  exact ⟨rfl, HB.out.trans (hb'.mono HB.out.size)⟩
set_option maxHeartbeats 1000000 in
set_option maxRecDepth 100000 in
theorem Rule_yes (b : Nat) (r : Int) (w : World) (hg : Handle w) (hr : w.cell? ⟨b, 0, none⟩ = some (.int .i64 r)) :
    Calls Tryd.prog 28 #[.iface 119 (.pointer (some ⟨b, 0, none⟩))] w fun e w' => e = .returned (.int .i64 r) ∧ Below w.heap.size w w' := by
  have hb : Below w.heap.size w (w.alloc (.cells #[.pointer none] 119)) := (Below.refl _ w).alloc (Nat.le_refl _) _
  have hbl : b < w.heap.size := World.block_lt_of_cell? w _ hr
  have hA : Calls Tryd.prog 67 #[.iface 119 (.pointer (some ⟨b, 0, none⟩)), .iface 121 (.pointer (some ⟨w.heap.size, 0, none⟩))] (w.alloc (.cells #[.pointer none] 119)) fun e w' => e = .returned (.bool true) ∧ Aside0 (Below w.heap.size w w') ∧ w'.cell? ⟨w.heap.size, 0, none⟩ = some (.pointer (some ⟨b, 0, none⟩)) ∧ w'.cell? ⟨b, 0, none⟩ = some (.int .i64 r) := by
    have hx : Box w.heap.size #[.pointer none] 119 (w.alloc (.cells #[.pointer none] 119)) := Box.new w _ _
    have hx' : (w.alloc (.cells #[.pointer none] 119)).heap[w.heap.size]? = some (.cells #[.pointer none] 119 (0, 0)) := hx
    refine (as_hitR ⟨b, 0, none⟩ ⟨w.heap.size, 0, none⟩ (.pointer none) _ (hg.below hb) (hx.cell 0 _ rfl) (by unfold World.frozen?; rw [show (w.alloc (.cells #[.pointer none] 119)).heap[(⟨w.heap.size, 0, none⟩ : Addr).block]? = _ from hx']; rfl)).mono ?_
    rintro e w' ⟨rfl, rfl⟩
    have hb4 := ((((Below.refl _ (w.alloc (.cells #[.pointer none] 119))).alloc (Nat.le_refl _) (.cells #[.pointer (some ⟨w.heap.size, 0, none⟩)] 121)).alloc (by simp) (.cells #[.pointer (some ⟨17, 121, none⟩), .pointer (some ⟨(w.alloc (.cells #[.pointer none] 119)).heap.size, 0, none⟩), .int .u64 150] 153)).alloc (by first | (simp; done) | (simp; omega)) (.cells #[.pointer (some ⟨17, 121, none⟩), .pointer (some ⟨(w.alloc (.cells #[.pointer none] 119)).heap.size, 0, none⟩), .int .u64 150] 153)).alloc (by first | (simp; done) | (simp; omega)) (.cells #[.pointer (some ⟨b, 0, none⟩)] 119)
    have hbw := hb.trans (hb4.mono hb.size)
    have hc4 : _ := (hb4.cell (p := ⟨w.heap.size, 0, none⟩) (by simp)).trans (hx.cell 0 _ rfl)
    refine ⟨rfl, ⟨hbw.setCell (Nat.le_refl _) _⟩, ?_, ?_⟩
    · exact World.cell?_setCell_same' _ _ _ (by rw [hc4]; rfl)
    · rw [World.cell?_setCell_other _ _ _ _ (show (⟨w.heap.size, 0, none⟩ : Addr) ≠ ⟨b, 0, none⟩ from fun e => by injection e with e; omega)]
      exact (hbw.cell (p := ⟨b, 0, none⟩) hbl).trans hr
  have HA := Aside0.mk hA
  clear hA hb
  go_enter Tryd.func28, Tryd.ntmps28
  go_wp2_with (go_at_call 67; (with_reducible refine HA.out.mono ?_); rintro e w' ⟨rfl, hb', f0, f1⟩)
  go_ret
  exact ⟨rfl, hb'.out⟩
end Go.Proofs.YtjkifeladmhkoaaDoor.B
/- Errors of all kinds: none, a sentinel, a rule's; kit.Kind and kit.Rule of them; told by a number (kind + 16 * (rule + 1)). -/
set_option linter.unusedVariables false
set_option linter.unusedSimpArgs false
namespace Go.Proofs.YtjkifeladmhkoaaDoor.F
open Go.RowKit Go.Proofs.YtjkifeladmhkoaaDoorW.PrintWords Go.Proofs.YtjkifeladmhkoaaDoorW.PrintLast Go.Proofs.YtjkifeladmhkoaaDoorW.PrintMore
open Go.Proofs.YtjkifeladmhkoaaDoor.B Go.Proofs.YtjkifeladmhkoaaDoor.E

/-- An error value of kind p.1, rule p.2. -/
def ErrW (ad : Int → Addr) (w : World) (v : Value) (p : Int × Int) : Prop :=
  (p.1 = 0 ∧ p.2 = -1 ∧ v = .nilIface) ∨ ((1 ≤ p.1 ∧ p.1 ≤ 15) ∧ p.2 = -1 ∧ v = .iface 190 (.pointer (some (ad p.1)))) ∨
  ((1 ≤ p.1 ∧ p.1 ≤ 15) ∧ 0 ≤ p.2 ∧ p.2 < 1000 ∧ ∃ b, v = .iface 119 (.pointer (some ⟨b, 0, none⟩)) ∧ w.heap[b]? = some (.cells #[.int .i64 p.2, .iface 190 (.pointer (some (ad p.1)))] 123 (0, 0)))
theorem ErrW.of {ad : Int → Addr} {w : World} {v : Value} {p : Int × Int} (h : ErrV ad w v p) : ErrW ad w v p := by
  rcases h with h | ⟨h1, h2, h3⟩ | ⟨h1, h2, h3, h4⟩
  · exact .inl h
  · exact .inr (.inl ⟨by omega, h2, h3⟩)
  · exact .inr (.inr ⟨by omega, h2, by omega, h4⟩)
theorem ErrW.below {ad : Int → Addr} {w w' : World} {v : Value} {p : Int × Int} (h : ErrW ad w v p) (hb : Below w.heap.size w w') : ErrW ad w' v p := by
  rcases h with h | h | ⟨h1, h2, h3, b, hv, hx⟩
  · exact .inl h
  · exact .inr (.inl h)
  · exact .inr (.inr ⟨h1, h2, h3, b, hv, Box.below (W := w) (W' := w') hx hb⟩)
theorem ErrW.nil {ad : Int → Addr} {w : World} {v : Value} {p : Int × Int} (h : ErrW ad w v p) (h0 : p.1 = 0) : v = .nilIface := by
  rcases h with h | h | h
  · exact h.2.2
  · have := h.1; omega
  · have := h.1; omega
theorem ErrW.any {ad : Int → Addr} {w : World} {v : Value} {p : Int × Int} (h : ErrW ad w v p) (h0 : p.1 ≠ 0) : ∃ t u, v = .iface t u := by
  rcases h with h | h | h
  · exact absurd h.1 h0
  · exact ⟨_, _, h.2.2⟩
  · obtain ⟨_, _, _, b, h, _⟩ := h; exact ⟨_, _, h⟩
theorem ErrW.sent {ad : Int → Addr} {w : World} {k : Int} (h1 : 1 ≤ k) (h2 : k ≤ 15) : ErrW ad w (.iface 190 (.pointer (some (ad k)))) (k, -1) := .inr (.inl ⟨⟨h1, h2⟩, rfl, rfl⟩)
theorem ErrW.kinds {ad : Int → Addr} {w : World} {v : Value} {p : Int × Int} (h : ErrW ad w v p) : 0 ≤ p.1 ∧ p.1 < 16 ∧ -1 ≤ p.2 ∧ (p.1 = 0 → p.2 = -1) := by
  rcases h with ⟨h1, h2, _⟩ | ⟨h1, h2, _⟩ | ⟨h1, h2, _⟩ <;> omega
/-- Kind of it. -/
theorem Kind_w {ad : Int → Addr} {w : World} (hs : SentsK ad w) {v : Value} {p : Int × Int} (hv : ErrW ad w v p) : Calls Tryd.prog 18 #[v] w fun e w' => e = .returned (.int .i64 p.1) ∧ Below w.heap.size w w' := by
  rcases hv with ⟨h0, _, rfl⟩ | ⟨h1, _, rfl⟩ | ⟨h1, _, _, b, rfl, hx⟩
  · rw [h0]; exact Kind_nil w
  · exact Kind_any ad _ _ p.1 h1.1 h1.2 w hs (IsK.sent hs p.1 h1.1 h1.2)
  · exact Kind_any ad _ _ p.1 h1.1 h1.2 w hs (IsK.rule hs p.1 h1.1 h1.2 b (Box.cell (W := w) hx 1 _ rfl))
/-- Rule of it. -/
theorem Rule_w {ad : Int → Addr} {w : World} (hg : HandleP w) {v : Value} {p : Int × Int} (hv : ErrW ad w v p) : Calls Tryd.prog 28 #[v] w fun e w' => e = .returned (.int .i64 p.2) ∧ Below w.heap.size w w' := by
  rcases hv with ⟨_, h2, rfl⟩ | ⟨_, h2, rfl⟩ | ⟨_, _, _, b, rfl, hx⟩
  · rw [h2]
    exact Rule_no _ w (fun W _ a => (as_nilR _ W).mono fun _ _ ⟨he, hw⟩ => by subst hw; exact ⟨he, Below.refl _ _⟩)
  · rw [h2]
    exact Rule_no _ w (fun W hW a => as_esR _ a W (Handle.below (w := w) hg hW))
  · exact Rule_yes b p.2 w hg (Box.cell (W := w) hx 0 _ rfl)
/-- An error: none, or some value. -/
abbrev errV (tx : TypeId × Value) : Option Int → Value
  | none => .nilIface
  | some _ => .iface tx.1 tx.2
theorem errV_none (tx : TypeId × Value) : errV tx none = .nilIface := rfl
/-- An error's number. -/
def encE (p : Int × Int) : Option Int := if p.1 = 0 then none else some (p.1 + 16 * (p.2 + 1))
def kindE : Option Int → Int
  | none => 0
  | some c => c % 16
def ruleE : Option Int → Int
  | none => -1
  | some c => c / 16 - 1
/-- A value tells the error of a number. -/
def ErrF (ad : Int → Addr) (w : World) (v : Value) (r : Option Int) : Prop := ∃ p, ErrW ad w v p ∧ r = encE p
theorem kindE_enc {p : Int × Int} (h0 : 0 ≤ p.1) (h1 : p.1 < 16) : kindE (encE p) = p.1 := by
  unfold encE
  by_cases h : p.1 = 0
  · rw [if_pos h, h]; rfl
  · rw [if_neg h]; show (p.1 + 16 * (p.2 + 1)) % 16 = p.1; omega
theorem ruleE_enc {p : Int × Int} (h0 : 0 ≤ p.1) (h1 : p.1 < 16) (h2 : p.1 = 0 → p.2 = -1) : ruleE (encE p) = p.2 := by
  unfold encE
  by_cases h : p.1 = 0
  · rw [if_pos h, h2 h]; rfl
  · rw [if_neg h]; show (p.1 + 16 * (p.2 + 1)) / 16 - 1 = p.2; omega
theorem ErrF.below {ad : Int → Addr} {w w' : World} {v : Value} {r : Option Int} (h : ErrF ad w v r) (hb : Below w.heap.size w w') : ErrF ad w' v r := by
  obtain ⟨p, h1, h2⟩ := h
  exact ⟨p, h1.below hb, h2⟩
theorem ErrF.val {ad : Int → Addr} {w : World} {v : Value} {r : Option Int} (h : ErrF ad w v r) : ∃ tx, v = errV tx r := by
  obtain ⟨p, h1, rfl⟩ := h
  unfold encE
  by_cases h0 : p.1 = 0
  · rw [if_pos h0]; exact ⟨(0, .nilIface), h1.nil h0⟩
  · rw [if_neg h0]
    obtain ⟨t, u, h⟩ := h1.any h0
    exact ⟨(t, u), h⟩
theorem SentsK.three {ad : Int → Addr} {w : World} (h : SentsK ad w) : Go.Proofs.YtjkifeladmhkoaaDoor.B.Sents ad w := by
  obtain ⟨⟨h1, h2, h3, h4, h5, h6, h7, h8, h9, h10, h11, h12, h13, h14, h15⟩, _, _⟩ := h
  exact ⟨h3, h10, h1⟩
theorem SentsK.arg {ad : Int → Addr} {w : World} (h : SentsK ad w) : w.cell? ⟨0, 0, none⟩ = some (.iface 190 (.pointer (some (ad 1)))) := by
  obtain ⟨⟨h1, h2, h3, h4, h5, h6, h7, h8, h9, h10, h11, h12, h13, h14, h15⟩, _, _⟩ := h
  exact h1
theorem SentsK.none_ {ad : Int → Addr} {w : World} (h : SentsK ad w) : w.cell? ⟨1, 0, none⟩ = some (.iface 190 (.pointer (some (ad 15)))) := by
  obtain ⟨⟨h1, h2, h3, h4, h5, h6, h7, h8, h9, h10, h11, h12, h13, h14, h15⟩, _, _⟩ := h
  exact h15
theorem Check_any (ad : Int → Addr) (A0 : Option Addr) (c0 : Nat) (l0 : List ByteArray) (A1 : Option Addr) (c1 : Nat) (l1 : List ByteArray) (a2 : Int) (A3 : Option Addr) (c3 : Nat) (l3 : List S41) (w : World) (hs : SentsK ad w) (hr0 : Kd.C Kd.string w A0 l0.length l0) (hc0 : l0.length ≤ c0) (hr1 : Kd.C Kd.string w A1 l1.length l1) (hc1 : l1.length ≤ c1) (hr3 : Kd.C k41 w A3 l3.length l3) (hc3 : l3.length ≤ c3) :
    Calls Tryd.prog 52 #[.agg #[.slice A0 l0.length c0, .slice A1 l1.length c1, .int .i64 a2, .slice A3 l3.length c3]] w fun e w' => (∃ v, e = .returned v ∧ ErrV ad w' v (chk (namesOK l0) (namesOK l1) l0.length l1.length a2 l3)) ∧ Below w.heap.size w w' := by
  have m0 := C_max hr0
  have m1 := C_max hr1
  exact Check_full ad _ A0 c0 l0 A1 c1 l1 a2 A3 c3 l3 _ _ w (SentsK.three hs) hr0 hc0 hr1 hc1 hr3 hc3 (Names_f l0 (l0.length + l0.length + l1.length + l1.length + 2) m0 (by omega)) (Names_f l1 (l0.length + l0.length + l1.length + l1.length + 2) m1 (by omega))
def dovetailkit_Kind.f (a0 : Option Int) : Option Int := some (kindE a0)
theorem Kind_e (ad : Int → Addr) (a0 : Option Int) (r : Int) {tx : TypeId × Value} (w : World) (hs : SentsK ad w) (hpe : ErrF ad w (errV tx a0) a0) (h : dovetailkit_Kind.f a0 = some r) :
    Calls Tryd.prog 18 #[errV tx a0] w fun e w' => e = .returned (.int .i64 r) ∧ Below w.heap.size w w' := by
  obtain rfl := Option.some.inj h
  obtain ⟨p, hv, hp⟩ := hpe
  have hk := ErrW.kinds hv
  have hc := Kind_w hs hv
  rw [← kindE_enc hk.1 hk.2.1, ← hp] at hc
  exact hc
theorem dovetailkit_Kind.calls (ad : Int → Addr) (a0 : Option Int) (r : Int) {tx : TypeId × Value} (w : World) (hs : SentsK ad w) (hg : HandleP w) (hpe : ErrF ad w (errV tx a0) a0) (h : dovetailkit_Kind.f a0 = some r) :
    Calls Tryd.prog 18 #[errV tx a0] w fun e w' => e = .returned (.int .i64 r) ∧ Below w.heap.size w w' := Kind_e ad a0 r w hs hpe h
def dovetailkit_Rule.f (a0 : Option Int) : Option Int := some (ruleE a0)
theorem dovetailkit_Rule.calls (ad : Int → Addr) (a0 : Option Int) (r : Int) {tx : TypeId × Value} (w : World) (hs : SentsK ad w) (hg : HandleP w) (hpe : ErrF ad w (errV tx a0) a0) (h : dovetailkit_Rule.f a0 = some r) :
    Calls Tryd.prog 28 #[errV tx a0] w fun e w' => e = .returned (.int .i64 r) ∧ Below w.heap.size w w' := by
  obtain rfl := Option.some.inj h
  obtain ⟨p, hv, hp⟩ := hpe
  have hk := ErrW.kinds hv
  have hc := Rule_w hg hv
  rw [← ruleE_enc hk.1 hk.2.1 hk.2.2.2, ← hp] at hc
  exact hc
end Go.Proofs.YtjkifeladmhkoaaDoor.F
/- Rows that are read and lie in a block of their own, whatever is left behind their end (cut with a capacity, too): the print's movers for them. -/
set_option linter.unusedVariables false
namespace Go.Proofs.YtjkifeladmhkoaaDoor.Kq
open Go.RowKit Go.Proofs.YtjkifeladmhkoaaDoorW.PrintWords

def R {α : Type} (d : Kd α) (e : Nat) (w : World) (base : Nat) (ok : Nat → Prop) (v : Value) (xs : List α) : Prop :=
  (∀ k, v.ownBlock = some k → ok k ∧ base ≤ k ∧ k < w.heap.size ∧ ∃ cells, w.heap[k]? = some (.cells cells e (0, 0))) ∧ (∃ A c, v = .slice A xs.length c ∧ xs.length ≤ c ∧ d.C w A xs.length xs) ∧ (∀ {W W' : World} {x : α} {cs : List Value}, d.K W x cs → d.K W' x cs)
section
variable {α : Type} {d : Kd α} {e : Nat} {w w1 : World} {base base' : Nat} {ok ok' : Nat → Prop} {v : Value} {xs : List α}
theorem R_of (hd : ∀ {W W' : World} {x : α} {cs : List Value}, d.K W x cs → d.K W' x cs) (h : d.R e w base ok v xs) : R d e w base ok v xs :=
  ⟨fun k hk => ⟨h.1 k hk, Kd.R_base h k hk, Kd.R_lt h k hk, by obtain ⟨inner, ho⟩ := Kd.R_own h; exact own_typed ho k hk⟩, Kd.R_reads h, hd⟩
theorem R_step (h : R d e w base ok v xs) (hs : w.heap.size ≤ w1.heap.size) (hm : ∀ k, ok k → k < w.heap.size → w1.heap[k]? = w.heap[k]?) : R d e w1 base ok v xs := by
  obtain ⟨h1, ⟨A, c, hv, hc, hr⟩, hd⟩ := h
  refine ⟨fun k hk => ?_, ⟨A, c, hv, hc, hr.1, hr.2.1, fun hp => ?_⟩, hd⟩
  · obtain ⟨h2, h3, h4, cells, h5⟩ := h1 k hk
    exact ⟨h2, h3, by omega, cells, (hm k h2 h4).trans h5⟩
  · obtain ⟨ad, e1, hx⟩ := hr.2.2 hp
    refine ⟨ad, e1, fun j p hj => ?_⟩
    obtain ⟨cs, h2, h3, h4⟩ := hx j p hj
    refine ⟨cs, h2, hd h3, fun i u hu => ?_⟩
    rw [← h4 i u hu]
    obtain ⟨q1, _, q2, _⟩ := h1 ad.block (by rw [hv, e1]; rfl)
    exact World.cell?_of_block (by rw [add_block]; exact hm ad.block q1 q2)
theorem R_mono (h : R d e w base ok v xs) (hok : ∀ k, ok k → ok' k) : R d e w base ok' v xs := ⟨fun k hk => ⟨hok k (h.1 k hk).1, (h.1 k hk).2⟩, h.2⟩
theorem R_bound (h : R d e w base ok v xs) : R d e w base (fun k => ok k ∧ base ≤ k ∧ k < w.heap.size ∧ ∃ cells, w.heap[k]? = some (.cells cells e (0, 0))) v xs := ⟨fun k hk => ⟨h.1 k hk, (h.1 k hk).2⟩, h.2⟩
theorem R_lower (h : R d e w base ok v xs) (hb : base' ≤ base) : R d e w base' ok v xs := ⟨fun k hk => ⟨(h.1 k hk).1, Nat.le_trans hb (h.1 k hk).2.1, (h.1 k hk).2.2⟩, h.2⟩
theorem R_below (h : R d e w base ok v xs) (hb : Below w.heap.size w w1) : R d e w1 base ok v xs := R_step h hb.size (fun k _ hk => hb.block k hk)
theorem R_alloc (h : R d e w base ok v xs) (o : Obj) : R d e (w.alloc o) base ok v xs := R_below h (below_alloc (Below.refl _ _) o)
theorem R_drew (h : R d e w base ok v xs) : R d e w.drew base ok v xs := R_below h (below_drew (Below.refl _ _))
theorem R_drewN (h : R d e w base ok v xs) (m : Nat) : R d e (w.drewN m) base ok v xs := R_below h (pw_below_drewN (Below.refl _ _) m)
theorem R_far (h : R d e w base ok v xs) {p : Addr} (hok : ∀ k, ok k → k ≠ p.block) (u : Value) : R d e (w.setCell p u) base ok v xs := R_step h (by simp) (fun k ho _ => Below.heap_setCell w p u k (hok k ho))
theorem R_types (h : R d e w base ok v xs) {g t : Nat} {cells : Array Value} (hb : w.heap[g]? = some (.cells cells t (0, 0))) (ht : ∀ q, q ∈ e :: d.E → q ≠ t) : R d e w base (fun k => ok k ∧ k ≠ g) v xs :=
  R_mono (R_bound h) (fun k hk => ⟨hk.1, by
    obtain ⟨_, _, _, cells', hc⟩ := hk
    rintro rfl
    rw [hc] at hb
    injection hb with hb
    injection hb with _ hb
    exact ht e List.mem_cons_self hb⟩)
theorem R_reads' {A : Option Addr} {n c : Nat} (h : R d e w base ok (.slice A n c) xs) : n = xs.length ∧ n ≤ c ∧ d.C w A xs.length xs := by
  obtain ⟨_, ⟨A', c', he, hl, hr⟩, _⟩ := h
  injection he with h1 h2 h3
  subst h1 h2 h3
  exact ⟨rfl, hl, hr⟩
theorem R_slice (h : R d e w base ok v xs) : ∃ A c, v = .slice A xs.length c := by
  obtain ⟨_, ⟨A, c, he, _⟩, _⟩ := h
  exact ⟨A, c, he⟩
theorem R_lt (h : R d e w base ok v xs) : ∀ k, v.ownBlock = some k → k < w.heap.size := fun k hk => (h.1 k hk).2.2.1
theorem R_base (h : R d e w base ok v xs) : ∀ k, v.ownBlock = some k → base ≤ k := fun k hk => (h.1 k hk).2.1
theorem R_nil (hd : ∀ {W W' : World} {x : α} {cs : List Value}, d.K W x cs → d.K W' x cs) (e : Nat) (w : World) (base : Nat) (ok : Nat → Prop) : R d e w base ok (.slice none 0 0) [] := R_of hd (Kd.R_nil _ _ _ _ _)
end
theorem K_int (k : IntKind) {W W' : World} {x : Int} {cs : List Value} (h : (Kd.int k).K W x cs) : (Kd.int k).K W' x cs := h
/-- A row that has been cut with a capacity. -/
theorem R_clip (k : IntKind) (e : Nat) (w : World) (base g c : Nat) (cur : Array Value) (X : List Int) (hc : X.length ≤ c) (hm : X.length ≤ 9223372036854775807) (hb : base ≤ g) (hg : w.heap[g]? = some (.cells cur e (0, 0))) (ht : cur.toList.take X.length = nums k X) : R (Kd.int k) e w base (fun k => k = g) (.slice (some ⟨g, 0, none⟩) X.length c) X := by
  have hlt : g < w.heap.size := (Array.getElem?_eq_some_iff.1 hg).1
  refine ⟨fun q hq => ?_, ⟨_, c, rfl, hc, rfl, hm, fun hp => ⟨_, rfl, fun j p hj => ⟨[.int k p], rfl, rfl, fun i u hu => ?_⟩⟩⟩, K_int k⟩
  · have : g = q := by simpa [Value.ownBlock] using hq
    subst this
    exact ⟨rfl, hb, hlt, cur, hg⟩
  · obtain rfl : i = 0 := by
      rcases i with _ | i
      · rfl
      · simp at hu
    have hu' : u = .int k p := by simpa using hu.symm
    subst hu'
    have hjl := (List.getElem?_eq_some_iff.1 hj).1
    have h1 : (cur.toList.take X.length)[j]? = some (.int k p) := by rw [ht]; simp [nums, hj]
    rw [List.getElem?_take_of_lt hjl] at h1
    show w.cell? ((⟨g, 0, none⟩ : Addr).add (j * 1 + 0)) = _
    rw [add_plain]
    have h2 : cur[j]? = some (.int k p) := by rw [← h1]; simp
    simp [World.cell?, hg, h2]
end Go.Proofs.YtjkifeladmhkoaaDoor.Kq
/- ends.Of, ends.Chain in the print's form: errors told by a number. -/
set_option linter.unusedVariables false
set_option linter.unusedSimpArgs false
namespace Go.Proofs.YtjkifeladmhkoaaDoor.E8
open Go.RowKit Go.Proofs.YtjkifeladmhkoaaDoorW.PrintWords Go.Proofs.YtjkifeladmhkoaaDoorW.PrintLast Go.Proofs.YtjkifeladmhkoaaDoorW.PrintMore
open Go.Proofs.YtjkifeladmhkoaaDoor.B Go.Proofs.YtjkifeladmhkoaaDoor.Es Go.Proofs.YtjkifeladmhkoaaDoor.F

theorem ErrW_far {ad : Int → Addr} {w : World} {v : Value} {p : Int × Int} (h : ErrW ad w v p) {g : Nat} {cs : Array Value} {t : TypeId} (hb : Box g cs t w) (ht : 123 ≠ t) (j : Nat) (u : Value) : ErrW ad (w.setCell ⟨g, j, none⟩ u) v p := by
  rcases h with h | h | ⟨h1, h2, h3, b, hv, hx⟩
  · exact .inl h
  · exact .inr (.inl h)
  · refine .inr (.inr ⟨h1, h2, h3, b, hv, ?_⟩)
    have h' : w.heap[g]? = some (.cells cs t (0, 0)) := hb
    rw [Below.heap_setCell w ⟨g, j, none⟩ u b (fun e => ?_)]
    · exact hx
    · have e' : b = g := e
      rw [e', h'] at hx
      injection hx with hx
      injection hx with _ hx
      exact ht hx.symm
/-- The cells that a contract at the start wants. -/
theorem C0i_start (w : World) (cs : Array Value) (i tm : Int) : Below w.heap.size w (((w.alloc (.cells cs 32)).alloc (.cells #[.int .i64 i] 3)).alloc (.cells #[.int .i64 tm] 3)) :=
  (((Below.refl _ w).alloc (Nat.le_refl _) _).alloc (by simp) _).alloc (by simp; omega) _
set_option maxHeartbeats 4000000 in
set_option maxRecDepth 100000 in
theorem Chain_bad (ad : Int → Addr) (p : Int × Int) (hp : p.1 ≠ 0) (A0 : Option Addr) (n0 c0 : Nat) (A1 : Option Addr) (n1 c1 : Nat) (a2 : Int) (A3 : Option Addr) (n3 c3 : Nat) (i tm : Int) (r : Bool) (w : World)
    (hC : ∀ W, Below w.heap.size w W → Calls Tryd.prog 52 #[.agg #[.slice A0 n0 c0, .slice A1 n1 c1, .int .i64 a2, .slice A3 n3 c3]] W fun e w' => (∃ v, e = .returned v ∧ ErrW ad w' v p) ∧ Below W.heap.size W w') :
    Calls Tryd.prog 15 #[.agg #[.slice A0 n0 c0, .slice A1 n1 c1, .int .i64 a2, .slice A3 n3 c3], .int .i64 i, .int .i64 tm, .bool r] w fun e w' => ∃ t u, e = .returned (.tuple #[.slice none 0 0, .iface t u]) ∧ ErrW ad w' (.iface t u) p ∧ Below w.heap.size w w' := by
  have hb0 := C0i_start w #[.slice A0 n0 c0, .slice A1 n1 c1, .int .i64 a2, .slice A3 n3 c3] i tm
  have KC : Aside0 (Calls Tryd.prog 52 #[.agg #[.slice A0 n0 c0, .slice A1 n1 c1, .int .i64 a2, .slice A3 n3 c3]] _ fun e w' => ∃ t u, e = .returned (.iface t u) ∧ Aside0 (ErrW ad w' (.iface t u) p ∧ Below w.heap.size w w')) := ⟨(hC _ hb0).mono fun e w' ⟨⟨v, he, hv⟩, hb⟩ => by
    obtain ⟨t, u, rfl⟩ := hv.any hp
    exact ⟨t, u, he, ⟨hv, hb0.trans (hb.mono hb0.size)⟩⟩⟩
  clear hC hb0
  go_enter Tryd.func15, Tryd.ntmps15
  go_wp2
  go_step3
  go_wp2_with (first
    | (go_at_call 52; (with_reducible refine KC.out.mono ?_); rintro e w1 ⟨t, u, rfl, t1⟩))
  (try rw [Exit.noGoto_ret])
  refine bodyPost_ret (v := .tuple #[.slice none 0 0, .iface t u]) (by simp [results, Tryd.results15, go_sem]) rfl ⟨t, u, rfl, t1.out.1, t1.out.2⟩
set_option maxHeartbeats 8000000 in
set_option maxRecDepth 100000 in
theorem Chain_arg (E1 : Value) (A0 : Option Addr) (n0 c0 : Nat) (A1 : Option Addr) (n1 c1 : Nat) (a2 : Int) (A3 : Option Addr) (n3 c3 : Nat) (i tm : Int) (r : Bool) (w : World) (h1 : w.cell? ⟨0, 0, none⟩ = some E1) (h0 : n0 ≤ 60) (h1' : n1 ≤ 60)
    (hC : ∀ W, Below w.heap.size w W → Calls Tryd.prog 52 #[.agg #[.slice A0 n0 c0, .slice A1 n1 c1, .int .i64 a2, .slice A3 n3 c3]] W fun e w' => e = .returned .nilIface ∧ Below W.heap.size W w')
    (ho : i < 0 ∨ (n1 : Int) ≤ i ∨ tm < 0 ∨ (n0 : Int) ≤ tm) :
    Calls Tryd.prog 15 #[.agg #[.slice A0 n0 c0, .slice A1 n1 c1, .int .i64 a2, .slice A3 n3 c3], .int .i64 i, .int .i64 tm, .bool r] w fun e w' => e = .returned (.tuple #[.slice none 0 0, E1]) ∧ Below w.heap.size w w' := by
  have hb0 := C0i_start w #[.slice A0 n0 c0, .slice A1 n1 c1, .int .i64 a2, .slice A3 n3 c3] i tm
  have hx0 := ((Box.new w #[.slice A0 n0 c0, .slice A1 n1 c1, .int .i64 a2, .slice A3 n3 c3] 32).alloc (.cells #[.int .i64 i] 3)).alloc (.cells #[.int .i64 tm] 3)
  have hx1 : Box (w.heap.size + 1) #[.int .i64 i] 3 (((w.alloc (.cells #[.slice A0 n0 c0, .slice A1 n1 c1, .int .i64 a2, .slice A3 n3 c3] 32)).alloc (.cells #[.int .i64 i] 3)).alloc (.cells #[.int .i64 tm] 3)) := by
    have := (Box.new (w.alloc (.cells #[.slice A0 n0 c0, .slice A1 n1 c1, .int .i64 a2, .slice A3 n3 c3] 32)) #[.int .i64 i] 3).alloc (.cells #[.int .i64 tm] 3)
    simpa using this
  have hx2 : Box (w.heap.size + 2) #[.int .i64 tm] 3 (((w.alloc (.cells #[.slice A0 n0 c0, .slice A1 n1 c1, .int .i64 a2, .slice A3 n3 c3] 32)).alloc (.cells #[.int .i64 i] 3)).alloc (.cells #[.int .i64 tm] 3)) := by
    have := Box.new ((w.alloc (.cells #[.slice A0 n0 c0, .slice A1 n1 c1, .int .i64 a2, .slice A3 n3 c3] 32)).alloc (.cells #[.int .i64 i] 3)) #[.int .i64 tm] 3
    simpa using this
  have KC : Aside0 (Calls Tryd.prog 52 #[.agg #[.slice A0 n0 c0, .slice A1 n1 c1, .int .i64 a2, .slice A3 n3 c3]] _ fun e w' => e = .returned .nilIface ∧ Aside0 (Below w.heap.size w w') ∧ w'.cell? ⟨w.heap.size, 0, none⟩ = some (.slice A0 n0 c0) ∧ w'.cell? ⟨w.heap.size, 1, none⟩ = some (.slice A1 n1 c1) ∧ w'.cell? ⟨w.heap.size + 1, 0, none⟩ = some (.int .i64 i) ∧ w'.cell? ⟨w.heap.size + 2, 0, none⟩ = some (.int .i64 tm) ∧ w'.cell? ⟨0, 0, none⟩ = some E1) := ⟨(hC _ hb0).mono fun e w' ⟨he, hb⟩ =>
    ⟨he, ⟨hb0.trans (hb.mono hb0.size)⟩, (hx0.below hb).cell 0 _ rfl, (hx0.below hb).cell 1 _ rfl, (hx1.below hb).cell 0 _ rfl, (hx2.below hb).cell 0 _ rfl, ((hb0.trans (hb.mono hb0.size)).cell (World.block_lt_of_cell? w _ h1)).trans h1⟩⟩
  clear hC hb0 hx0 hx1 hx2
  have hcase : (i < 0) ∨ (¬ i < 0 ∧ (n1 : Int) ≤ i) ∨ (¬ i < 0 ∧ ¬ (n1 : Int) ≤ i ∧ tm < 0) ∨ (¬ i < 0 ∧ ¬ (n1 : Int) ≤ i ∧ ¬ tm < 0 ∧ (n0 : Int) ≤ tm) := by omega
  have H0 := Lib.hid h0
  have H1 := Lib.hid h1'
  clear ho
  rcases hcase with a1 | ⟨a1, a3⟩ | ⟨a1, a3, a4⟩ | ⟨a1, a3, a4, a5⟩
  · have d1 := decide_eq_true a1
    have HA := Lib.hid a1
    clear a1
    go_enter Tryd.func15, Tryd.ntmps15
    go_wp2
    go_step3
    go_wp2_with (go_at_call 52; (with_reducible refine KC.out.mono ?_); rintro e w1 ⟨rfl, t1, f0, f1, f2, f3, f4⟩)
    go_quiet (fail)
    go_wp2_with fail
    (try rw [Exit.noGoto_ret])
    exact bodyPost_ret (v := .tuple #[.slice none 0 0, E1]) (by simp [results, Tryd.results15, go_sem]) rfl ⟨rfl, pw_below_drewN t1.out _⟩
  · have d1 := decide_eq_false a1
    have d2 := decide_eq_true a3
    have HA := Lib.hid a1
    have HB := Lib.hid a3
    clear a1 a3
    go_enter Tryd.func15, Tryd.ntmps15
    go_wp2
    go_step3
    go_wp2_with (go_at_call 52; (with_reducible refine KC.out.mono ?_); rintro e w1 ⟨rfl, t1, f0, f1, f2, f3, f4⟩)
    go_quiet (fail)
    go_wp2_with fail
    (try rw [Exit.noGoto_ret])
    exact bodyPost_ret (v := .tuple #[.slice none 0 0, E1]) (by simp [results, Tryd.results15, go_sem]) rfl ⟨rfl, pw_below_drewN t1.out _⟩
  · have d1 := decide_eq_false a1
    have d2 := decide_eq_false a3
    have d3 := decide_eq_true a4
    have HA := Lib.hid a1
    have HB := Lib.hid a3
    have HC := Lib.hid a4
    clear a1 a3 a4
    go_enter Tryd.func15, Tryd.ntmps15
    go_wp2
    go_step3
    go_wp2_with (go_at_call 52; (with_reducible refine KC.out.mono ?_); rintro e w1 ⟨rfl, t1, f0, f1, f2, f3, f4⟩)
    go_quiet (fail)
    go_wp2_with fail
    (try rw [Exit.noGoto_ret])
    exact bodyPost_ret (v := .tuple #[.slice none 0 0, E1]) (by simp [results, Tryd.results15, go_sem]) rfl ⟨rfl, pw_below_drewN t1.out _⟩
  · have d1 := decide_eq_false a1
    have d2 := decide_eq_false a3
    have d3 := decide_eq_false a4
    have d4 := decide_eq_true a5
    have HA := Lib.hid a1
    have HB := Lib.hid a3
    have HC := Lib.hid a4
    have HD := Lib.hid a5
    clear a1 a3 a4 a5
    go_enter Tryd.func15, Tryd.ntmps15
    go_wp2
    go_step3
    go_wp2_with (go_at_call 52; (with_reducible refine KC.out.mono ?_); rintro e w1 ⟨rfl, t1, f0, f1, f2, f3, f4⟩)
    go_quiet (fail)
    go_wp2_with fail
    (try rw [Exit.noGoto_ret])
    exact bodyPost_ret (v := .tuple #[.slice none 0 0, E1]) (by simp [results, Tryd.results15, go_sem]) rfl ⟨rfl, pw_below_drewN t1.out _⟩
set_option maxHeartbeats 4000000 in
set_option maxRecDepth 100000 in
theorem Of_err (ad : Int → Addr) (p : Int × Int) (hp : p.1 ≠ 0) (A0 : Option Addr) (n0 c0 : Nat) (A1 : Option Addr) (n1 c1 : Nat) (a2 : Int) (A3 : Option Addr) (n3 c3 : Nat) (w : World)
    (hC : ∀ W, Below w.heap.size w W → Calls Tryd.prog 52 #[.agg #[.slice A0 n0 c0, .slice A1 n1 c1, .int .i64 a2, .slice A3 n3 c3]] W fun e w' => (∃ v, e = .returned v ∧ ErrW ad w' v p) ∧ Below W.heap.size W w') :
    Calls Tryd.prog 17 #[.agg #[.slice A0 n0 c0, .slice A1 n1 c1, .int .i64 a2, .slice A3 n3 c3]] w fun e w' => ∃ t u, e = .returned (.tuple #[.agg #[.slice none 0 0, .slice none 0 0], .iface t u]) ∧ ErrW ad w' (.iface t u) p ∧ Below w.heap.size w w' := by
  obtain ⟨cs, hcs⟩ : ∃ cs : Array Value, cs = #[.slice A0 n0 c0, .slice A1 n1 c1, .int .i64 a2, .slice A3 n3 c3] := ⟨_, rfl⟩
  have CE : ∀ W, GO w cs W → CO w (.slice A0 n0 c0) (.slice A1 n1 c1) (.int .i64 a2) (.slice A3 n3 c3) W := by
    intro W hW; subst hcs; exact hW.cells
  have st : GO w cs ((w.alloc (.cells #[.slice A0 n0 c0, .slice A1 n1 c1, .int .i64 a2, .slice A3 n3 c3] 32)).alloc (.cells #[.slice none 0 0, .slice none 0 0] 36)) := by subst hcs; exact GO.start w _
  have kC : ∀ W, GO w cs W → Calls Tryd.prog 52 #[.agg #[.slice A0 n0 c0, .slice A1 n1 c1, .int .i64 a2, .slice A3 n3 c3]] W fun e w' => ∃ t u, e = .returned (.iface t u) ∧ Aside0 (GO w cs w' ∧ ErrW ad w' (.iface t u) p) := fun W hW => (hC W hW.low).mono fun e w' ⟨⟨v, he, hv⟩, hb⟩ => by
    obtain ⟨t, u, rfl⟩ := hv.any hp
    exact ⟨t, u, he, ⟨hW.more hb, hv⟩⟩
  have ST := Aside0.mk st
  have CE' := Aside0.mk CE
  have HCS := Lib.hid hcs
  have KC := Aside0.mk kC
  clear st CE hcs kC hC
  go_enter Tryd.func17, Tryd.ntmps17
  go_wp2_with (first
    | (go_at_call 52; (with_reducible refine (KC.out _ ST.out).mono ?_); rintro e w1 ⟨te, ue, rfl, t1⟩; obtain ⟨f0, f1, f2, f3, f4, f5, f6, f7⟩ := CE'.out _ t1.out.1))
  have hb := t1.out.1.low
  have hx : Box (w.heap.size + 1) #[.slice none 0 0, .slice none 0 0] 36 w1 := t1.out.1.2.2
  have hE1 := ErrW_far t1.out.2 hx (by decide) 0 (.slice none 0 0)
  have hx2 : Box (w.heap.size + 1) #[.slice none 0 0, .slice none 0 0] 36 (w1.setCell ⟨w.heap.size + 1, 0, none⟩ (.slice none 0 0)) := by
    have := blk_put (w := w1) (g := w.heap.size + 1) (cs := #[.slice none 0 0, .slice none 0 0]) (t := 36) hx 0 (.slice none 0 0) rfl
    exact this
  have hE2 := ErrW_far hE1 hx2 (by decide) 1 (.slice none 0 0)
  exact bodyPost_ret (v := .tuple #[.agg #[.slice none 0 0, .slice none 0 0], .iface te ue]) (by simp [results, Tryd.results17, go_sem, f4, f5]) rfl ⟨te, ue, rfl, hE2, (hb.setCell (p := ⟨w.heap.size + 1, 0, none⟩) (by dsimp only; omega) _).setCell (p := ⟨w.heap.size + 1, 1, none⟩) (by dsimp only; omega) _⟩

/-- The sets that ends.sets comes to. -/
noncomputable def endsS (l0 l1 : List ByteArray) (a2 : Int) (R : List S41) (a : Int) : List Int := open Classical in if h : ∃ S, ∃ k, ends_sets.f k l0 l1 a2 R a = some S then Classical.choose h else []
theorem endsS_is {l0 l1 : List ByteArray} {a2 : Int} {R : List S41} {a : Int} {k : Nat} {S : List Int} (h : ends_sets.f k l0 l1 a2 R a = some S) : endsS l0 l1 a2 R a = S := by
  have hex : ∃ S, ∃ k, ends_sets.f k l0 l1 a2 R a = some S := ⟨S, k, h⟩
  unfold endsS
  rw [dif_pos hex]
  obtain ⟨k', h'⟩ := Classical.choose_spec hex
  have e1 := at_rounds (g := fun k => ends_sets.f k l0 l1 a2 R a) (fun k => ends_sets.mono _ _ _ _ _ k) (Nat.le_max_left k k') h
  have e2 := at_rounds (g := fun k => ends_sets.f k l0 l1 a2 R a) (fun k => ends_sets.mono _ _ _ _ _ k) (Nat.le_max_right k k') h'
  exact Option.some.inj (e2.symm.trans e1)
/-- What Check tells. -/
def chkG (l0 l1 : List ByteArray) (a2 : Int) (R : List S41) : Int × Int := chk (namesOK l0) (namesOK l1) l0.length l1.length a2 R
noncomputable def ends_Of.f (l0 l1 : List ByteArray) (a2 : Int) (R : List S41) : Option (List Int × List Int × Option Int) :=
  some (if (chkG l0 l1 a2 R).1 = 0 then (endsS l0 l1 a2 R 0, endsS l0 l1 a2 R 1, none) else ([], [], encE (chkG l0 l1 a2 R)))
/-- The chain, or what is wrong. -/
def chainG (l0 l1 : List ByteArray) (a2 : Int) (R : List S41) (i tm : Int) (r : Bool) : List Int × Option Int :=
  if (chkG l0 l1 a2 R).1 = 0 then
    if i < 0 ∨ (l1.length : Int) ≤ i ∨ tm < 0 ∨ (l0.length : Int) ≤ tm then ([], encE (1, -1)) else
    if (farF r tm.toNat l1.length R).getD i.toNat 0 = 0 then ([], encE (15, -1)) else
    (walkC r tm.toNat (farF r tm.toNat l1.length R) R ((farF r tm.toNat l1.length R).getD i.toNat 0).toNat i.toNat, none)
  else ([], encE (chkG l0 l1 a2 R))
def ends_Chain.f (l0 l1 : List ByteArray) (a2 : Int) (R : List S41) (i tm : Int) (r : Bool) : Option (List Int × Option Int) := some (chainG l0 l1 a2 R i tm r)
theorem encE_ne {p : Int × Int} (h : p.1 ≠ 0) : ∃ c, encE p = some c := ⟨_, if_neg h⟩
theorem ends_Of.calls (ad : Int → Addr) (A0 : Option Addr) (c0 : Nat) (l0 : List ByteArray) (A1 : Option Addr) (c1 : Nat) (l1 : List ByteArray) (a2 : Int) (A3 : Option Addr) (c3 : Nat) (l3 : List S41) (r1 r2 : List Int) (r3 : Option Int) (w : World) (hs : SentsK ad w) (hr0 : Kd.C Kd.string w A0 l0.length l0) (hc0 : l0.length ≤ c0) (hr1 : Kd.C Kd.string w A1 l1.length l1) (hc1 : l1.length ≤ c1) (hr3 : Kd.C k41 w A3 l3.length l3) (hc3 : l3.length ≤ c3) (h : ends_Of.f l0 l1 a2 l3 = some (r1, r2, r3)) :
    Calls Tryd.prog 17 #[.agg #[.slice A0 l0.length c0, .slice A1 l1.length c1, .int .i64 a2, .slice A3 l3.length c3]] w fun e w' => ∃ v0 v1 tx, e = .returned (.tuple #[.agg #[v0, v1], errV tx r3]) ∧ Kq.R (Kd.int .u64) 45 w' w.heap.size (fun k => w.heap.size ≤ k ∧ some k ≠ v1.ownBlock) v0 r1 ∧ Kq.R (Kd.int .u64) 45 w' w.heap.size (fun k => w.heap.size ≤ k ∧ some k ≠ v0.ownBlock) v1 r2 ∧ ErrF ad w' (errV tx r3) r3 ∧ Below w.heap.size w w' := by
  have h' := Option.some.inj h
  have kC := fun W (hb : Below w.heap.size w W) => Check_any ad A0 c0 l0 A1 c1 l1 a2 A3 c3 l3 W (hs.below hb) (Kd.C_below hr0 hb) hc0 (Kd.C_below hr1 hb) hc1 (Kd.C_below hr3 hb) hc3
  by_cases hp : (chkG l0 l1 a2 l3).1 = 0
  · rw [if_pos hp] at h'
    obtain ⟨q1, q2, q3, q4, q5, q6, q7⟩ := chk_ok hp
    obtain ⟨k1, S1, e1, _⟩ := Sets_ev l0.length 0 l0 l1 a2 l3 (by omega) (by omega) q7 q2
    obtain ⟨k2, S2, e2, _⟩ := Sets_ev l0.length 1 l0 l1 a2 l3 (by omega) (by omega) q7 q2
    rw [endsS_is e1, endsS_is e2] at h'
    injection h' with h1 h2
    injection h2 with h2 h3
    subst h1 h2 h3
    have f1 := at_rounds (g := fun k => ends_sets.f k l0 l1 a2 l3 0) (fun k => ends_sets.mono _ _ _ _ _ k) (Nat.le_max_left k1 k2) e1
    have f2 := at_rounds (g := fun k => ends_sets.f k l0 l1 a2 l3 1) (fun k => ends_sets.mono _ _ _ _ _ k) (Nat.le_max_right k1 k2) e2
    refine (Of_ok (fun _ => ⟨0, 0, none⟩) A0 c0 l0 A1 c1 l1 a2 A3 c3 l3 _ S1 S2 w hr0 hc0 hr1 hc1 hr3 hc3 (fun W hb => (kC W hb).mono fun e w' ⟨⟨v, he, hv⟩, hb'⟩ => ⟨by rw [he, hv.nil hp], hb'⟩) f1 f2).mono ?_
    rintro e w' ⟨v0, v1, rfl, R0, R1, hap, hb⟩
    refine ⟨v0, v1, (0, .nilIface), rfl, Kq.R_mono (Kq.R_bound (Kq.R_of (fun h => h) (Kd.R_of_own (enc := Value.int .u64) (h1 := fun _ => rfl) (ok := fun k => v0.ownBlock = some k) (Kd.own_of_R R0) (fun k hk => hk)))) (fun k hk => ⟨hk.2.1, fun e => ?_⟩), Kq.R_mono (Kq.R_bound (Kq.R_of (fun h => h) (Kd.R_of_own (enc := Value.int .u64) (h1 := fun _ => rfl) (ok := fun k => v1.ownBlock = some k) (Kd.own_of_R R1) (fun k hk => hk)))) (fun k hk => ⟨hk.2.1, fun e => ?_⟩), ⟨(0, -1), .inl ⟨rfl, rfl, rfl⟩, rfl⟩, hb⟩
    · rcases hap with h0 | h0
      · rw [hk.1] at h0; cases h0
      · exact h0 (hk.1.trans e)
    · rcases hap with h0 | h0
      · rw [h0] at e; cases e
      · exact h0 (e.symm.trans hk.1.symm)
  · rw [if_neg hp] at h'
    injection h' with h1 h2
    injection h2 with h2 h3
    subst h1 h2
    refine (Of_err ad (chkG l0 l1 a2 l3) hp A0 l0.length c0 A1 l1.length c1 a2 A3 l3.length c3 w (fun W hb => (kC W hb).mono fun e w' ⟨⟨v, he, hv⟩, hb'⟩ => ⟨⟨v, he, ErrW.of hv⟩, hb'⟩)).mono ?_
    rintro e w' ⟨t, u, rfl, hE, hb⟩
    obtain ⟨c, hc⟩ := encE_ne hp
    rw [hc] at h3
    subst h3
    exact ⟨_, _, (t, u), rfl, Kq.R_nil (fun h => h) _ _ _ _, Kq.R_nil (fun h => h) _ _ _ _, ⟨_, hE, hc.symm⟩, hb⟩
theorem ends_Chain.calls (ad : Int → Addr) (A0 : Option Addr) (c0 : Nat) (l0 : List ByteArray) (A1 : Option Addr) (c1 : Nat) (l1 : List ByteArray) (a2 : Int) (A3 : Option Addr) (c3 : Nat) (l3 : List S41) (i tm : Int) (r : Bool) (r1 : List Int) (r2 : Option Int) (w : World) (hs : SentsK ad w) (hr0 : Kd.C Kd.string w A0 l0.length l0) (hc0 : l0.length ≤ c0) (hr1 : Kd.C Kd.string w A1 l1.length l1) (hc1 : l1.length ≤ c1) (hr3 : Kd.C k41 w A3 l3.length l3) (hc3 : l3.length ≤ c3) (h : ends_Chain.f l0 l1 a2 l3 i tm r = some (r1, r2)) :
    Calls Tryd.prog 15 #[.agg #[.slice A0 l0.length c0, .slice A1 l1.length c1, .int .i64 a2, .slice A3 l3.length c3], .int .i64 i, .int .i64 tm, .bool r] w fun e w' => ∃ v0 tx, e = .returned (.tuple #[v0, errV tx r2]) ∧ Kq.R (Kd.int .i64) 3 w' w.heap.size (fun k => w.heap.size ≤ k) v0 r1 ∧ ErrF ad w' (errV tx r2) r2 ∧ Below w.heap.size w w' := by
  have h' := Option.some.inj h
  have kC := fun W (hb : Below w.heap.size w W) => Check_any ad A0 c0 l0 A1 c1 l1 a2 A3 c3 l3 W (hs.below hb) (Kd.C_below hr0 hb) hc0 (Kd.C_below hr1 hb) hc1 (Kd.C_below hr3 hb) hc3
  unfold chainG at h'
  by_cases hp : (chkG l0 l1 a2 l3).1 = 0
  · rw [if_pos hp] at h'
    obtain ⟨q1, q2, q3, q4, q5, q6, q7⟩ := chk_ok hp
    have kC0 : ∀ W, Below w.heap.size w W → Calls Tryd.prog 52 #[.agg #[.slice A0 l0.length c0, .slice A1 l1.length c1, .int .i64 a2, .slice A3 l3.length c3]] W fun e w' => e = .returned .nilIface ∧ Below W.heap.size W w' := fun W hb => (kC W hb).mono fun e w' ⟨⟨v, he, hv⟩, hb'⟩ => ⟨by rw [he, hv.nil hp], hb'⟩
    by_cases ho : i < 0 ∨ (l1.length : Int) ≤ i ∨ tm < 0 ∨ (l0.length : Int) ≤ tm
    · rw [if_pos ho] at h'
      injection h' with h1 h2
      subst h1 h2
      refine (Chain_arg _ A0 l0.length c0 A1 l1.length c1 a2 A3 l3.length c3 i tm r w (SentsK.arg hs) (by omega) (by omega) kC0 ho).mono ?_
      rintro e w' ⟨rfl, hb⟩
      exact ⟨_, (190, .pointer (some (ad 1))), rfl, Kq.R_nil (fun h => h) _ _ _ _, ⟨(1, -1), ErrW.sent (by decide) (by decide), rfl⟩, hb⟩
    · rw [if_neg ho] at h'
      obtain ⟨i, rfl⟩ : ∃ n : Nat, i = n := ⟨i.toNat, by omega⟩
      obtain ⟨tm, rfl⟩ : ∃ n : Nat, tm = n := ⟨tm.toNat, by omega⟩
      rw [Int.toNat_natCast, Int.toNat_natCast] at h'
      refine (Chain_ok _ A0 c0 l0 A1 c1 l1 a2 A3 c3 l3 r i tm w hr3 hc3 (SentsK.none_ hs) kC0 q7 (by omega) (by omega) q2 (by omega) (by omega)).mono ?_
      rintro e w' ⟨hb, ⟨hz, rfl⟩ | ⟨hz, g, n, cur, rfl, rfl, hg, hh, ht⟩⟩
      · rw [if_pos hz] at h'
        injection h' with h1 h2
        subst h1 h2
        exact ⟨_, (190, .pointer (some (ad 15))), rfl, Kq.R_nil (fun h => h) _ _ _ _, ⟨(15, -1), ErrW.sent (by decide) (by decide), rfl⟩, hb⟩
      · rw [if_neg hz] at h'
        injection h' with h1 h2
        subst h2
        rw [h1] at ht ⊢
        have hF := (farF_far (r := r) (tm := tm) q7).rng i (by omega)
        have hle : r1.length ≤ 60 := by
          have hW := (walkC_ch (farF_far (r := r) (tm := tm) q7) q7 (((farF r tm l1.length l3).getD i 0).toNat - 1) i (by omega) (by omega)).2
          rw [show ((farF r tm l1.length l3).getD i 0).toNat - 1 + 1 = ((farF r tm l1.length l3).getD i 0).toNat from by omega, h1] at hW
          omega
        exact ⟨_, (0, .nilIface), rfl, Kq.R_mono (Kq.R_clip .i64 3 w' w.heap.size g _ cur r1 (Nat.le_refl _) (by omega) hg hh ht) (fun k hk => by rw [hk]; exact hg), ⟨(0, -1), .inl ⟨rfl, rfl, rfl⟩, rfl⟩, hb⟩
  · rw [if_neg hp] at h'
    injection h' with h1 h2
    subst h1
    refine (Chain_bad ad (chkG l0 l1 a2 l3) hp A0 l0.length c0 A1 l1.length c1 a2 A3 l3.length c3 i tm r w (fun W hb => (kC W hb).mono fun e w' ⟨⟨v, he, hv⟩, hb'⟩ => ⟨⟨v, he, ErrW.of hv⟩, hb'⟩)).mono ?_
    rintro e w' ⟨t, u, rfl, hE, hb⟩
    obtain ⟨c, hc⟩ := encE_ne hp
    rw [hc] at h2
    subst h2
    exact ⟨_, (t, u), rfl, Kq.R_nil (fun h => h) _ _ _ _, ⟨_, hE, hc.symm⟩, hb⟩
end Go.Proofs.YtjkifeladmhkoaaDoor.E8
/- dovetaillaw08.awake, dovetaillaw08.chain: walked. -/
set_option linter.unusedVariables false
set_option linter.unusedSimpArgs false
namespace Go.Proofs.YtjkifeladmhkoaaDoor.E8
open Go.RowKit Go.Proofs.YtjkifeladmhkoaaDoorW.PrintWords Go.Proofs.YtjkifeladmhkoaaDoorW.PrintLast Go.Proofs.YtjkifeladmhkoaaDoorW.PrintMore
open Go.Proofs.YtjkifeladmhkoaaDoor.B Go.Proofs.YtjkifeladmhkoaaDoor.Es Go.Proofs.YtjkifeladmhkoaaDoor.F

theorem lit_C (k : IntKind) (W : World) (b : Nat) (t : TypeId) (xs : List Int) (hm : xs.length ≤ 9223372036854775807) (h : W.heap[b]? = some (.cells (nums k xs).toArray t (0, 0))) : Kd.C (Kd.int k) W (some ⟨b, 0, none⟩) xs.length xs :=
  (Kq.R_reads' (Kq.R_clip k t W 0 b xs.length _ xs (Nat.le_refl _) hm (Nat.zero_le _) h (by rw [List.take_of_length_le (by simp [nums])]))).2.2
theorem given_C (r1 r2 : List ByteArray) (r3 : Int) (r4 : List S41) (w : World) (h : dovetaillaw08_given.f = some (r1, r2, r3, r4)) :
    Calls Tryd.prog 16 #[] w fun e w' => ∃ A0 c0 A1 c1 A3 c3, e = .returned (.agg #[.slice A0 r1.length c0, .slice A1 r2.length c1, .int .i64 r3, .slice A3 r4.length c3]) ∧ Kd.C Kd.string w' A0 r1.length r1 ∧ r1.length ≤ c0 ∧ Kd.C Kd.string w' A1 r2.length r2 ∧ r2.length ≤ c1 ∧ Kd.C k41 w' A3 r4.length r4 ∧ r4.length ≤ c3 ∧ Below w.heap.size w w' := by
  refine (dovetaillaw08_given.calls r1 r2 r3 r4 w h).mono ?_
  rintro e w' ⟨v0, v1, v3, rfl, h0, h1, h3, hb⟩
  obtain ⟨A0, c0, rfl⟩ := Kd.R_slice h0
  obtain ⟨A1, c1, rfl⟩ := Kd.R_slice h1
  obtain ⟨A3, c3, rfl⟩ := Kd.N_slice h3
  exact ⟨A0, c0, A1, c1, A3, c3, rfl, (Kd.R_reads' h0).2.2, (Kd.R_reads' h0).2.1, (Kd.R_reads' h1).2.2, (Kd.R_reads' h1).2.1, (Kd.N_reads' h3).2.2, (Kd.N_reads' h3).2.1, hb⟩

def dovetaillaw08_awake.ok : Bool :=
  match dovetaillaw08_given.f with
  | some (g0, g1, g2, g3) =>
    decide ((chkG g0 g1 g2 g3).1 = 0) && decide (ends_sets.f 50 g0 g1 g2 g3 0 = some [23, 22, 20]) && decide (ends_sets.f 50 g0 g1 g2 g3 1 = some [27, 26, 24]) && decide (dovetailkit_Sets.f 50 [23, 22, 20] [23, 22, 20] = some true) && decide (dovetailkit_Sets.f 50 [27, 26, 24] [27, 26, 24] = some true)
  | _ => false
theorem dovetaillaw08_awake.ok_true : dovetaillaw08_awake.ok = true := by kernel_rfl
set_option maxHeartbeats 2000000 in
set_option maxRecDepth 100000 in
theorem Awake_calls (ad : Int → Addr) (w : World) (hs : SentsK ad w) : Calls Tryd.prog 13 #[] w fun e w' => e = .returned (.bool true) ∧ Below w.heap.size w w' := by
  obtain ⟨g0, g1, g2, g3, hgv, hof, hs1, hs2⟩ : ∃ g0 g1 g2 g3, dovetaillaw08_given.f = some (g0, g1, g2, g3) ∧ ends_Of.f g0 g1 g2 g3 = some ([23, 22, 20], [27, 26, 24], none) ∧ dovetailkit_Sets.f 50 [23, 22, 20] [23, 22, 20] = some true ∧ dovetailkit_Sets.f 50 [27, 26, 24] [27, 26, 24] = some true := by
    have h := dovetaillaw08_awake.ok_true
    unfold dovetaillaw08_awake.ok at h
    split at h
    · rename_i g0 g1 g2 g3 hg
      simp only [Bool.and_eq_true, decide_eq_true_eq] at h
      refine ⟨g0, g1, g2, g3, hg, ?_, h.1.2, h.2⟩
      unfold ends_Of.f
      rw [if_pos h.1.1.1.1, endsS_is h.1.1.1.2, endsS_is h.1.1.2]
    · cases h
  have HG := Aside0.mk hgv
  have HO := Aside0.mk hof
  have H1 := Aside0.mk hs1
  have H2 := Aside0.mk hs2
  have HSK := Aside0.mk hs
  have TR : Aside0 (∀ {W W' : World}, Below w.heap.size w W → Below W.heap.size W W' → Below w.heap.size w W') := ⟨fun h1 h2 => h1.trans (h2.mono h1.size)⟩
  clear hgv hof hs1 hs2 hs
  go_enter Tryd.func13, Tryd.ntmps13
  go_wp2_with (go_at_call 16; (with_reducible refine (given_C g0 g1 g2 g3 _ HG.out).mono ?_); rintro e w1 ⟨A0, c0, A1, c1, A3, c3, rfl, r0, l0, r1, l1, r3, l3, b1⟩; have R0 := Aside0.mk r0; have R1 := Aside0.mk r1; have R3 := Aside0.mk r3; have B1 := Aside0.mk b1; clear r0 r1 r3 b1)
  refine (ends_Of.calls ad A0 c0 g0 A1 c1 g1 g2 A3 c3 g3 _ _ none w1 (HSK.out.below B1.out) R0.out l0 R1.out l1 R3.out l3 HO.out).mono ?_
  rintro e w2 ⟨v0, v1, tx, rfl, q0, q1, _, b2⟩
  obtain ⟨L, C, e0⟩ : ∃ L C, v0 = .slice L 3 C := Kq.R_slice q0
  obtain ⟨M, D, e1⟩ : ∃ M D, v1 = .slice M 3 D := Kq.R_slice q1
  subst e0 e1
  obtain ⟨_, hC, hL⟩ := Kq.R_reads' q0
  obtain ⟨_, hD, hM⟩ := Kq.R_reads' q1
  have B2 := Aside0.mk (TR.out B1.out b2)
  have QL := Aside0.mk hL
  have QM := Aside0.mk hM
  clear b2 q0 q1 hL hM R0 R1 R3 B1 l0 l1 l3
  simp only [errV_none]
  have hb3 : Below w2.heap.size w2 (w2.alloc (.cells #[.slice L 3 C, .slice M 3 D] 36)) := (Below.refl _ w2).alloc (Nat.le_refl _) _
  have hx3 := Box.new w2 #[.slice L 3 C, .slice M 3 D] 36
  have B3 := Aside0.mk hb3
  have X3 := Aside0.mk hx3
  clear hb3 hx3
  have K1 : Aside0 (∀ W, Below w2.heap.size w2 W → Box w2.heap.size #[.slice L 3 C, .slice M 3 D] 36 W → W.cell? ⟨w2.heap.size, 0, none⟩ = some (.slice L 3 C) ∧ W.cell? ⟨w2.heap.size, 1, none⟩ = some (.slice M 3 D)) := ⟨fun W _ hx => ⟨hx.cell 0 _ rfl, hx.cell 1 _ rfl⟩⟩
  have KS1 : Aside0 (∀ (W : World) (q : Nat), q = W.heap.size → Below w2.heap.size w2 W → Calls Tryd.prog 19 #[.slice L 3 C, .slice (some ⟨q, 0, none⟩) 3 3] (W.alloc (.cells #[.int .u64 23, .int .u64 22, .int .u64 20] 45)) fun e w' => e = .returned (.bool true) ∧ Below W.heap.size W w') := ⟨fun W q hq hb => by
    subst hq
    have hb' : Below W.heap.size W (W.alloc (.cells #[.int .u64 23, .int .u64 22, .int .u64 20] 45)) := (Below.refl _ W).alloc (Nat.le_refl _) _
    exact (dovetailkit_Sets.calls 50 L C [23, 22, 20] (some ⟨W.heap.size, 0, none⟩) 3 [23, 22, 20] true _ (Kd.C_below (Kd.C_below QL.out hb) hb') hC (lit_C .u64 _ _ _ [23, 22, 20] (by simp) (heap_alloc_new W _)) (by simp) H1.out).mono fun _ _ ⟨he, hd⟩ => ⟨he, hb'.trans (hd.below.mono hb'.size)⟩⟩
  have KS2 : Aside0 (∀ (W : World) (q : Nat), q = W.heap.size → Below w2.heap.size w2 W → Calls Tryd.prog 19 #[.slice M 3 D, .slice (some ⟨q, 0, none⟩) 3 3] (W.alloc (.cells #[.int .u64 27, .int .u64 26, .int .u64 24] 45)) fun e w' => e = .returned (.bool true) ∧ Below W.heap.size W w') := ⟨fun W q hq hb => by
    subst hq
    have hb' : Below W.heap.size W (W.alloc (.cells #[.int .u64 27, .int .u64 26, .int .u64 24] 45)) := (Below.refl _ W).alloc (Nat.le_refl _) _
    exact (dovetailkit_Sets.calls 50 M D [27, 26, 24] (some ⟨W.heap.size, 0, none⟩) 3 [27, 26, 24] true _ (Kd.C_below (Kd.C_below QM.out hb) hb') hD (lit_C .u64 _ _ _ [27, 26, 24] (by simp) (heap_alloc_new W _)) (by simp) H2.out).mono fun _ _ ⟨he, hd⟩ => ⟨he, hb'.trans (hd.below.mono hb'.size)⟩⟩
  obtain ⟨f0, f1⟩ := K1.out _ B3.out X3.out
  go_wp2_with (first
    | (go_at_call 19; ((with_reducible refine (KS1.out _ _ ?hq B3.out).mono ?_); (case hq => simp); clear f0 f1; rintro e w4 ⟨rfl, b4⟩; have B4 := Aside0.mk (B3.out.trans (b4.mono B3.out.size)); have X4 := Aside0.mk (X3.out.below b4); clear b4; obtain ⟨f0, f1⟩ := K1.out _ B4.out X4.out))
    | (go_at_call 19; ((with_reducible refine (KS2.out _ _ ?hq B4.out).mono ?_); (case hq => simp); clear f0 f1; rintro e w5 ⟨rfl, b5⟩; have B5 := Aside0.mk (B4.out.trans (b5.mono B4.out.size)); clear b5)))
  go_ret
  exact ⟨rfl, B2.out.trans (B5.out.mono B2.out.size)⟩
def dovetaillaw08_awake.f : Option Bool := some true
theorem dovetaillaw08_awake.calls (ad : Int → Addr) (r : Bool) (w : World) (hs : SentsK ad w) (h : dovetaillaw08_awake.f = some r) :
    Calls Tryd.prog 13 #[] w fun e w' => e = .returned (.bool r) ∧ Below w.heap.size w w' := by
  obtain rfl := Option.some.inj h
  exact Awake_calls ad w hs
end Go.Proofs.YtjkifeladmhkoaaDoor.E8
/- ends.Of and ends.Chain at a grammar that may be: the sets, the chain; what chapter 8's laws carry along. -/
set_option linter.unusedVariables false
set_option linter.unusedSimpArgs false
namespace Go.Proofs.YtjkifeladmhkoaaDoor.E8
open Go.RowKit Go.Proofs.YtjkifeladmhkoaaDoorW.PrintWords Go.Proofs.YtjkifeladmhkoaaDoorW.PrintLast Go.Proofs.YtjkifeladmhkoaaDoorW.PrintMore
open Go.Proofs.YtjkifeladmhkoaaDoor.B Go.Proofs.YtjkifeladmhkoaaDoor.Es Go.Proofs.YtjkifeladmhkoaaDoor.F

theorem bad_of_f {l0 l1 : List ByteArray} {a2 : Int} {R : List S41} (h : (chkG l0 l1 a2 R).1 ≠ 0) : ends_Of.f l0 l1 a2 R = some ([], [], encE (chkG l0 l1 a2 R)) := by
  unfold ends_Of.f; rw [if_neg h]
/-- The grammar's box, the box of the sets, the sets. -/
structure EW (w : World) (cs : Array Value) (q : Nat) (V0 V1 : Value) (S0 S1 : List Int) (W : World) : Prop where
  low : Below w.heap.size w W
  bg : Box w.heap.size cs 32 W
  bx : Box q #[V0, V1] 36 W
  r0 : Kq.R (Kd.int .u64) 45 W w.heap.size (fun _ => True) V0 S0
  r1 : Kq.R (Kd.int .u64) 45 W w.heap.size (fun _ => True) V1 S1
theorem EW.below {w W W' : World} {cs : Array Value} {q : Nat} {V0 V1 : Value} {S0 S1 : List Int} (h : EW w cs q V0 V1 S0 S1 W) (hb : Below W.heap.size W W') : EW w cs q V0 V1 S0 S1 W' :=
  ⟨h.low.trans (hb.mono h.low.size), h.bg.below hb, h.bx.below hb, Kq.R_below h.r0 hb, Kq.R_below h.r1 hb⟩
/-- At the start. -/
structure EG (w : World) (cs : Array Value) (W : World) : Prop where
  low : Below w.heap.size w W
  bg : Box w.heap.size cs 32 W
theorem EG.below {w W W' : World} {cs : Array Value} (h : EG w cs W) (hb : Below W.heap.size W W') : EG w cs W' := ⟨h.low.trans (hb.mono h.low.size), h.bg.below hb⟩
theorem EG.start (w : World) (cs : Array Value) : EG w cs (w.alloc (.cells cs 32)) := ⟨(Below.refl _ w).alloc (Nat.le_refl _) _, Box.new w _ _⟩
theorem EG.cells {w W : World} {v0 v1 v2 v3 : Value} (h : EG w #[v0, v1, v2, v3] W) : W.cell? ⟨w.heap.size, 0, none⟩ = some v0 ∧ W.cell? ⟨w.heap.size, 1, none⟩ = some v1 ∧ W.cell? ⟨w.heap.size, 2, none⟩ = some v2 ∧ W.cell? ⟨w.heap.size, 3, none⟩ = some v3 :=
  ⟨h.bg.cell 0 _ rfl, h.bg.cell 1 _ rfl, h.bg.cell 2 _ rfl, h.bg.cell 3 _ rfl⟩
theorem EW.cells {w W : World} {v0 v1 v2 v3 V0 V1 : Value} {q : Nat} {S0 S1 : List Int} (h : EW w #[v0, v1, v2, v3] q V0 V1 S0 S1 W) : (W.cell? ⟨w.heap.size, 0, none⟩ = some v0 ∧ W.cell? ⟨w.heap.size, 1, none⟩ = some v1 ∧ W.cell? ⟨w.heap.size, 2, none⟩ = some v2 ∧ W.cell? ⟨w.heap.size, 3, none⟩ = some v3) ∧ W.cell? ⟨q, 0, none⟩ = some V0 ∧ W.cell? ⟨q, 1, none⟩ = some V1 :=
  ⟨⟨h.bg.cell 0 _ rfl, h.bg.cell 1 _ rfl, h.bg.cell 2 _ rfl, h.bg.cell 3 _ rfl⟩, h.bx.cell 0 _ rfl, h.bx.cell 1 _ rfl⟩
end Go.Proofs.YtjkifeladmhkoaaDoor.E8
/- dovetaillaw08.EndsKnown: the chapter's examples. -/
set_option linter.unusedVariables false
set_option linter.unusedSimpArgs false
namespace Go.Proofs.YtjkifeladmhkoaaDoor.E8
open Go.RowKit Go.Proofs.YtjkifeladmhkoaaDoorW.PrintWords Go.Proofs.YtjkifeladmhkoaaDoorW.PrintLast Go.Proofs.YtjkifeladmhkoaaDoorW.PrintMore
open Go.Proofs.YtjkifeladmhkoaaDoor.B Go.Proofs.YtjkifeladmhkoaaDoor.Es Go.Proofs.YtjkifeladmhkoaaDoor.F

/-- The chapter's chains. -/
def known8 : Bool :=
  match dovetaillaw08_given.f with
  | some (g0, g1, g2, g3) =>
    decide (chainG g0 g1 g2 g3 0 0 false = ([0], none)) && decide (chainG g0 g1 g2 g3 0 4 false = ([1, 3, 5], none)) && decide (chainG g0 g1 g2 g3 2 2 false = ([4], none)) && decide (chainG g0 g1 g2 g3 0 3 true = ([0, 2, 4], none)) &&
    decide (chainG g0 g1 g2 g3 0 2 true = ([], some 15)) && decide (chainG g0 g1 g2 g3 0 5 false = ([], some 1)) && decide (chainG g0 g1 g2 g3 3 0 false = ([], some 1)) && decide (chainG g0 g1 g2 g3 (-1) 0 false = ([], some 1)) &&
    decide (chkG [] [] 0 [] = (1, -1)) && decide (dovetailkit_Ints.f 50 [0] [0] = some true) && decide (dovetailkit_Ints.f 50 [1, 3, 5] [1, 3, 5] = some true) && decide (dovetailkit_Ints.f 50 [4] [4] = some true) && decide (dovetailkit_Ints.f 50 [0, 2, 4] [0, 2, 4] = some true)
  | _ => false
theorem known8_true : known8 = true := by kernel_rfl

set_option maxHeartbeats 2000000 in
set_option maxRecDepth 100000 in
/-- dovetaillaw08.chain: a chain of the chapter's grammar is this one. -/
theorem chain_yes (ad : Int → Addr) {g0 g1 : List ByteArray} {g2 : Int} {g3 : List S41} (hgv : dovetaillaw08_given.f = some (g0, g1, g2, g3)) (i tm : Int) (r : Bool) (L : List Int) (hch : ends_Chain.f g0 g1 g2 g3 i tm r = some (L, none)) (hin : dovetailkit_Ints.f 50 L L = some true) (A : Option Addr) (c : Nat) (w : World) (hs : SentsK ad w) (hr : Kd.C (Kd.int .i64) w A L.length L) (hc : L.length ≤ c) :
    Calls Tryd.prog 14 #[.int .i64 i, .int .i64 tm, .bool r, .slice A L.length c] w fun e w' => e = .returned (.bool true) ∧ Below w.heap.size w w' := by
  have HG := Aside0.mk hgv
  have KC : Aside0 (∀ {W A0 c0 A1 c1 A3 c3}, Below w.heap.size w W → Kd.C Kd.string W A0 g0.length g0 → g0.length ≤ c0 → Kd.C Kd.string W A1 g1.length g1 → g1.length ≤ c1 → Kd.C k41 W A3 g3.length g3 → g3.length ≤ c3 → Calls Tryd.prog 15 #[.agg #[.slice A0 g0.length c0, .slice A1 g1.length c1, .int .i64 g2, .slice A3 g3.length c3], .int .i64 i, .int .i64 tm, .bool r] W fun e w' => ∃ A' c', e = .returned (.tuple #[.slice A' L.length c', .nilIface]) ∧ Aside0 (Below w.heap.size w w' ∧ L.length ≤ c' ∧ Kd.C (Kd.int .i64) w' A' L.length L)) := ⟨fun hb h0 h1 h2 h3 h4 h5 => (ends_Chain.calls ad _ _ g0 _ _ g1 g2 _ _ g3 i tm r L none _ (hs.below hb) h0 h1 h2 h3 h4 h5 hch).mono fun e w' ⟨v0, tx, he, q0, _, hb'⟩ => by
    obtain ⟨A', c', rfl⟩ := Kq.R_slice q0
    exact ⟨A', c', he, ⟨hb.trans (hb'.mono hb.size), (Kq.R_reads' q0).2.1, (Kq.R_reads' q0).2.2⟩⟩⟩
  have KI : Aside0 (∀ {W A' c'}, Below w.heap.size w W → Kd.C (Kd.int .i64) W A' L.length L → L.length ≤ c' → Calls Tryd.prog 20 #[.slice A' L.length c', .slice A L.length c] W fun e w' => e = .returned (.bool true) ∧ Below W.heap.size W w') := ⟨fun {W A' c'} hb h h' => (dovetailkit_Ints.calls 50 A' c' L A c L true W h h' (Kd.C_below hr hb) hc hin).mono fun _ _ ⟨he, hd⟩ => ⟨he, hd.below⟩⟩
  clear hgv hs hr hin hch
  go_enter Tryd.func14, Tryd.ntmps14
  go_wp2_with (first
    | (go_at_call 16; (with_reducible refine (given_C g0 g1 g2 g3 _ HG.out).mono ?_); rintro e w1 ⟨A0, c0, A1, c1, A3, c3, rfl, r0, l0, r1, l1, r3, l3, b1⟩; have R0 := Aside0.mk r0; have R1 := Aside0.mk r1; have R3 := Aside0.mk r3; have B1 := Aside0.mk b1; clear r0 r1 r3 b1)
    | (go_at_call 15; (with_reducible refine (KC.out B1.out R0.out l0 R1.out l1 R3.out l3).mono ?_); rintro e w2 ⟨A', c', rfl, t2⟩)
    | (go_at_call 20; (with_reducible refine (KI.out t2.out.1 t2.out.2.2 t2.out.2.1).mono ?_); rintro e w3 ⟨rfl, b3⟩))
  go_ret
  exact ⟨rfl, t2.out.1.trans (b3.mono t2.out.1.size)⟩
theorem Chain_err (ad : Int → Addr) {g0 g1 : List ByteArray} {g2 : Int} {g3 : List S41} {i tm : Int} {r : Bool} {k : Int} (hch : ends_Chain.f g0 g1 g2 g3 i tm r = some ([], some k)) {W : World} {A0 : Option Addr} {c0 : Nat} {A1 : Option Addr} {c1 : Nat} {A3 : Option Addr} {c3 : Nat} (hs : SentsK ad W) (h0 : Kd.C Kd.string W A0 g0.length g0) (h1 : g0.length ≤ c0) (h2 : Kd.C Kd.string W A1 g1.length g1) (h3 : g1.length ≤ c1) (h4 : Kd.C k41 W A3 g3.length g3) (h5 : g3.length ≤ c3) :
    Calls Tryd.prog 15 #[.agg #[.slice A0 g0.length c0, .slice A1 g1.length c1, .int .i64 g2, .slice A3 g3.length c3], .int .i64 i, .int .i64 tm, .bool r] W fun e w' => ∃ v tx, e = .returned (.tuple #[v, errV tx (some k)]) ∧ Aside0 (Below W.heap.size W w' ∧ ErrF ad w' (errV tx (some k)) (some k)) :=
  (ends_Chain.calls ad _ _ g0 _ _ g1 g2 _ _ g3 i tm r [] (some k) _ hs h0 h1 h2 h3 h4 h5 hch).mono fun e w' ⟨v0, tx, he, q0, hp, hb'⟩ => ⟨v0, tx, he, ⟨hb', hp⟩⟩
/-- Errors that have come back, and lie. -/
def EFs (ad : Int → Addr) (w0 : World) (l : List (Int × (TypeId × Value))) (W : World) : Prop := Below w0.heap.size w0 W ∧ ∀ p ∈ l, ErrF ad W (errV p.2 (some p.1)) (some p.1)
theorem EFs.below {ad : Int → Addr} {w0 W W' : World} {l : List (Int × (TypeId × Value))} (h : EFs ad w0 l W) (hb : Below W.heap.size W W') : EFs ad w0 l W' := ⟨h.1.trans (hb.mono h.1.size), fun p hp => (h.2 p hp).below hb⟩
theorem EFs.add {ad : Int → Addr} {w0 W W' : World} {l : List (Int × (TypeId × Value))} (h : EFs ad w0 l W) (hb : Below W.heap.size W W') {k : Int} {tx : TypeId × Value} (he : ErrF ad W' (errV tx (some k)) (some k)) : EFs ad w0 ((k, tx) :: l) W' :=
  ⟨(h.below hb).1, fun p hp => by
    rcases List.mem_cons.1 hp with rfl | hp
    · exact he
    · exact (h.below hb).2 p hp⟩
theorem Kind_in {ad : Int → Addr} {w0 W : World} {l : List (Int × (TypeId × Value))} (hs : SentsK ad w0) (h : EFs ad w0 l W) {k : Int} {tx : TypeId × Value} (hm : (k, tx) ∈ l) (h1 : 0 ≤ k) (h2 : k < 16) : Calls Tryd.prog 18 #[errV tx (some k)] W fun e w' => e = .returned (.int .i64 k) ∧ Aside0 (EFs ad w0 l w') := by
  have hk : kindE (some k) = k := by show k % 16 = k; omega
  exact (Kind_e ad (some k) k W (hs.below h.1) (h.2 _ hm) (by unfold dovetailkit_Kind.f; rw [hk])).mono fun _ _ ⟨he, hb⟩ => ⟨he, ⟨h.below hb⟩⟩
set_option maxHeartbeats 1500000 in
set_option maxRecDepth 100000 in
theorem EndsKnown_calls (ad : Int → Addr) (w : World) (hs : SentsK ad w) : Calls Tryd.prog 3 #[] w fun e w' => e = .returned (.bool true) ∧ Below w.heap.size w w' := by
  obtain ⟨g0, g1, g2, g3, hgv, c1, c2, c3, c4, x1, x2, x3, x4, x5, i1, i2, i3, i4⟩ : ∃ g0 g1 g2 g3, dovetaillaw08_given.f = some (g0, g1, g2, g3) ∧ ends_Chain.f g0 g1 g2 g3 0 0 false = some ([0], none) ∧ ends_Chain.f g0 g1 g2 g3 0 4 false = some ([1, 3, 5], none) ∧ ends_Chain.f g0 g1 g2 g3 2 2 false = some ([4], none) ∧ ends_Chain.f g0 g1 g2 g3 0 3 true = some ([0, 2, 4], none) ∧
      ends_Chain.f g0 g1 g2 g3 0 2 true = some ([], some 15) ∧ ends_Chain.f g0 g1 g2 g3 0 5 false = some ([], some 1) ∧ ends_Chain.f g0 g1 g2 g3 3 0 false = some ([], some 1) ∧ ends_Chain.f g0 g1 g2 g3 (-1) 0 false = some ([], some 1) ∧
      ends_Of.f [] [] 0 [] = some ([], [], some 1) ∧ dovetailkit_Ints.f 50 [0] [0] = some true ∧ dovetailkit_Ints.f 50 [1, 3, 5] [1, 3, 5] = some true ∧ dovetailkit_Ints.f 50 [4] [4] = some true ∧ dovetailkit_Ints.f 50 [0, 2, 4] [0, 2, 4] = some true := by
    have h := known8_true
    unfold known8 at h
    split at h
    · rename_i g0 g1 g2 g3 hg
      simp only [Bool.and_eq_true, decide_eq_true_eq] at h
      obtain ⟨⟨⟨⟨⟨⟨⟨⟨⟨⟨⟨⟨h1, h2⟩, h3⟩, h4⟩, h5⟩, h6⟩, h7⟩, h8⟩, h9⟩, h10⟩, h11⟩, h12⟩, h13⟩ := h
      refine ⟨g0, g1, g2, g3, hg, congrArg some h1, congrArg some h2, congrArg some h3, congrArg some h4, congrArg some h5, congrArg some h6, congrArg some h7, congrArg some h8, ?_, h10, h11, h12, h13⟩
      have hne : (chkG [] [] 0 []).1 ≠ 0 := by rw [h9]; decide
      rw [bad_of_f hne, h9]; rfl
    · cases h
  have LB : Aside0 (∀ {W W' : World}, Below w.heap.size w W → Below W.heap.size W W' → Below w.heap.size w W') := ⟨fun h1 h2 => h1.trans (h2.mono h1.size)⟩
  have KA : Aside0 (∀ (i tm : Int) (r : Bool) (L : List Int), ends_Chain.f g0 g1 g2 g3 i tm r = some (L, none) → dovetailkit_Ints.f 50 L L = some true → L.length ≤ 100 → ∀ (W : World) (q n : Nat), q = W.heap.size → n = L.length → Below w.heap.size w W → Calls Tryd.prog 14 #[.int .i64 i, .int .i64 tm, .bool r, .slice (some ⟨q, 0, none⟩) n n] (W.alloc (.cells (nums .i64 L).toArray 3)) fun e w' => e = .returned (.bool true) ∧ Below w.heap.size w w') := ⟨fun i tm r L hc hi hl W q n hq hn hb => by
    subst hq hn
    have hb' : Below W.heap.size W (W.alloc (.cells (nums .i64 L).toArray 3)) := (Below.refl _ W).alloc (Nat.le_refl _) _
    exact (chain_yes ad hgv i tm r L hc hi _ _ _ (hs.below (LB.out hb hb')) (lit_C .i64 _ _ _ L (by omega) (heap_alloc_new W _)) (Nat.le_refl _)).mono fun _ _ ⟨he, h⟩ => ⟨he, LB.out (LB.out hb hb') h⟩⟩
  have KG : Aside0 (∀ {l W}, EFs ad w l W → Calls Tryd.prog 16 #[] W fun e w' => ∃ A0 c0 A1 c1 A3 c3, e = .returned (.agg #[.slice A0 g0.length c0, .slice A1 g1.length c1, .int .i64 g2, .slice A3 g3.length c3]) ∧ Aside0 (EFs ad w l w' ∧ Kd.C Kd.string w' A0 g0.length g0 ∧ g0.length ≤ c0 ∧ Kd.C Kd.string w' A1 g1.length g1 ∧ g1.length ≤ c1 ∧ Kd.C k41 w' A3 g3.length g3 ∧ g3.length ≤ c3)) := ⟨fun h => (given_C g0 g1 g2 g3 _ hgv).mono fun e w' ⟨A0, c0, A1, c1, A3, c3, he, r0, q0, r1, q1, r3, q3, hb⟩ => ⟨A0, c0, A1, c1, A3, c3, he, ⟨h.below hb, r0, q0, r1, q1, r3, q3⟩⟩⟩
  have KC : Aside0 (∀ {l W A0 c0 A1 c1 A3 c3 i tm r k}, ends_Chain.f g0 g1 g2 g3 i tm r = some ([], some k) → (EFs ad w l W ∧ Kd.C Kd.string W A0 g0.length g0 ∧ g0.length ≤ c0 ∧ Kd.C Kd.string W A1 g1.length g1 ∧ g1.length ≤ c1 ∧ Kd.C k41 W A3 g3.length g3 ∧ g3.length ≤ c3) → Calls Tryd.prog 15 #[.agg #[.slice A0 g0.length c0, .slice A1 g1.length c1, .int .i64 g2, .slice A3 g3.length c3], .int .i64 i, .int .i64 tm, .bool r] W fun e w' => ∃ v tx, e = .returned (.tuple #[v, errV tx (some k)]) ∧ Aside0 (EFs ad w ((k, tx) :: l) w')) := ⟨fun hf ⟨h, r0, q0, r1, q1, r3, q3⟩ => (Chain_err ad hf (hs.below h.1) r0 q0 r1 q1 r3 q3).mono fun e w' ⟨v, tx, he, hh⟩ => ⟨v, tx, he, ⟨h.add hh.out.1 hh.out.2⟩⟩⟩
  have KO : Aside0 (∀ {l W}, EFs ad w l W → Calls Tryd.prog 17 #[.agg #[.slice none 0 0, .slice none 0 0, .int .i64 0, .slice none 0 0]] W fun e w' => ∃ a0 d0 a1 d1 tx, e = .returned (.tuple #[.agg #[.slice a0 0 d0, .slice a1 0 d1], errV tx (some 1)]) ∧ Aside0 (EFs ad w ((1, tx) :: l) w')) := ⟨fun {l W} h => (ends_Of.calls ad none 0 [] none 0 [] 0 none 0 [] [] [] (some 1) W (hs.below h.1) (Kd.C_nil _ _) (Nat.le_refl _) (Kd.C_nil _ _) (Nat.le_refl _) (Kd.C_nil _ _) (Nat.le_refl _) x5).mono fun e w' ⟨v0, v1, tx, he, q0, q1, hp, hb⟩ => by
    obtain ⟨a0, d0, rfl⟩ := Kq.R_slice q0
    obtain ⟨a1, d1, rfl⟩ := Kq.R_slice q1
    exact ⟨a0, d0, a1, d1, tx, he, ⟨h.add hb hp⟩⟩⟩
  have KK15 : Aside0 (∀ {l W tx}, EFs ad w l W → ((15 : Int), tx) ∈ l → Calls Tryd.prog 18 #[errV tx (some 15)] W fun e w' => e = .returned (.int .i64 15) ∧ Aside0 (EFs ad w l w')) := ⟨fun h hm => Kind_in hs h hm (by decide) (by decide)⟩
  have KK1 : Aside0 (∀ {l W tx}, EFs ad w l W → ((1 : Int), tx) ∈ l → Calls Tryd.prog 18 #[errV tx (some 1)] W fun e w' => e = .returned (.int .i64 1) ∧ Aside0 (EFs ad w l w')) := ⟨fun h hm => Kind_in hs h hm (by decide) (by decide)⟩
  have KW := Aside0.mk (Awake_calls ad w hs)
  have HX := Aside0.mk (And.intro c1 (And.intro c2 (And.intro c3 (And.intro c4 (And.intro x1 (And.intro x2 (And.intro x3 (And.intro x4 (And.intro i1 (And.intro i2 (And.intro i3 i4)))))))))))
  clear c1 c2 c3 c4 x1 x2 x3 x4 x5 i1 i2 i3 i4 hgv hs
  obtain ⟨c1, c2, c3, c4, x1, x2, x3, x4, i1, i2, i3, i4⟩ := HX.out
  have K1 : Aside0 (∀ (W : World) (q : Nat), q = W.heap.size → Below w.heap.size w W → Calls Tryd.prog 14 #[.int .i64 0, .int .i64 0, .bool false, .slice (some ⟨q, 0, none⟩) 1 1] (W.alloc (.cells #[.int .i64 0] 3)) fun e w' => e = .returned (.bool true) ∧ Below w.heap.size w w') := ⟨fun W q hq hb => KA.out 0 0 false [0] c1 i1 (by decide) W q 1 hq rfl hb⟩
  have K2 : Aside0 (∀ (W : World) (q : Nat), q = W.heap.size → Below w.heap.size w W → Calls Tryd.prog 14 #[.int .i64 0, .int .i64 4, .bool false, .slice (some ⟨q, 0, none⟩) 3 3] (W.alloc (.cells #[.int .i64 1, .int .i64 3, .int .i64 5] 3)) fun e w' => e = .returned (.bool true) ∧ Below w.heap.size w w') := ⟨fun W q hq hb => KA.out 0 4 false [1, 3, 5] c2 i2 (by decide) W q 3 hq rfl hb⟩
  have K3 : Aside0 (∀ (W : World) (q : Nat), q = W.heap.size → Below w.heap.size w W → Calls Tryd.prog 14 #[.int .i64 2, .int .i64 2, .bool false, .slice (some ⟨q, 0, none⟩) 1 1] (W.alloc (.cells #[.int .i64 4] 3)) fun e w' => e = .returned (.bool true) ∧ Below w.heap.size w w') := ⟨fun W q hq hb => KA.out 2 2 false [4] c3 i3 (by decide) W q 1 hq rfl hb⟩
  have K4 : Aside0 (∀ (W : World) (q : Nat), q = W.heap.size → Below w.heap.size w W → Calls Tryd.prog 14 #[.int .i64 0, .int .i64 3, .bool true, .slice (some ⟨q, 0, none⟩) 3 3] (W.alloc (.cells #[.int .i64 0, .int .i64 2, .int .i64 4] 3)) fun e w' => e = .returned (.bool true) ∧ Below w.heap.size w w') := ⟨fun W q hq hb => KA.out 0 3 true [0, 2, 4] c4 i4 (by decide) W q 3 hq rfl hb⟩
  have X1 := Aside0.mk x1
  have X2 := Aside0.mk x2
  have X3 := Aside0.mk x3
  have X4 := Aside0.mk x4
  clear c1 c2 c3 c4 x1 x2 x3 x4 i1 i2 i3 i4
  go_enter Tryd.func3, Tryd.ntmps3
  go_wp2_with (first
    | (go_at_call 13; (with_reducible refine KW.out.mono ?_); rintro e w1 ⟨rfl, b1⟩; have B1 := Aside0.mk b1; clear b1)
    | (go_at_call 14; (with_reducible refine (K1.out _ _ ?hq B1.out).mono ?_); (case hq => simp); rintro e w2 ⟨rfl, b2⟩; have B2 := Aside0.mk b2; clear b2)
    | (go_at_call 14; (with_reducible refine (K2.out _ _ ?hq B2.out).mono ?_); (case hq => simp); rintro e w3 ⟨rfl, b3⟩; have B3 := Aside0.mk b3; clear b3)
    | (go_at_call 14; (with_reducible refine (K3.out _ _ ?hq B3.out).mono ?_); (case hq => simp); rintro e w4 ⟨rfl, b4⟩; have B4 := Aside0.mk b4; clear b4)
    | (go_at_call 14; (with_reducible refine (K4.out _ _ ?hq B4.out).mono ?_); (case hq => simp); rintro e w5 ⟨rfl, b5⟩; have s0 : Aside0 (EFs ad w [] w5) := ⟨b5, fun p hp => absurd hp List.not_mem_nil⟩; clear b5)
    | (go_at_call 16; (with_reducible refine (KG.out s0.out).mono ?_); rintro e v1 ⟨A0, c0, A1, c1, A3, c3, rfl, u1⟩)
    | (go_at_call 15; (with_reducible refine (KC.out X1.out u1.out).mono ?_); rintro e z1 ⟨vc1, tx1, rfl, s1⟩)
    | (go_at_call 16; (with_reducible refine (KG.out s1.out).mono ?_); rintro e v2 ⟨A0, c0, A1, c1, A3, c3, rfl, u2⟩)
    | (go_at_call 15; (with_reducible refine (KC.out X2.out u2.out).mono ?_); rintro e z2 ⟨vc2, tx2, rfl, s2⟩)
    | (go_at_call 16; (with_reducible refine (KG.out s2.out).mono ?_); rintro e v3 ⟨A0, c0, A1, c1, A3, c3, rfl, u3⟩)
    | (go_at_call 15; (with_reducible refine (KC.out X3.out u3.out).mono ?_); rintro e z3 ⟨vc3, tx3, rfl, s3⟩)
    | (go_at_call 16; (with_reducible refine (KG.out s3.out).mono ?_); rintro e v4 ⟨A0, c0, A1, c1, A3, c3, rfl, u4⟩)
    | (go_at_call 15; (with_reducible refine (KC.out X4.out u4.out).mono ?_); rintro e z4 ⟨vc4, tx4, rfl, s4⟩)
    | (go_at_call 17; (with_reducible refine (KO.out s4.out).mono ?_); rintro e z5 ⟨a0, d0, a1, d1, tx5, rfl, s5⟩; have r0 := Aside0.mk (EFs.below s5.out ((Below.refl _ z5).alloc (Nat.le_refl _) (.cells #[.slice a0 0 d0, .slice a1 0 d1] 36))))
    | (go_at_call 18; (with_reducible refine (KK15.out r0.out (tx := tx1) (List.mem_cons_of_mem _ (List.mem_cons_of_mem _ (List.mem_cons_of_mem _ (List.mem_cons_of_mem _ List.mem_cons_self))))).mono ?_); rintro e y1 ⟨rfl, r1⟩)
    | (go_at_call 18; (with_reducible refine (KK1.out r1.out (tx := tx2) (List.mem_cons_of_mem _ (List.mem_cons_of_mem _ (List.mem_cons_of_mem _ List.mem_cons_self)))).mono ?_); rintro e y2 ⟨rfl, r2⟩)
    | (go_at_call 18; (with_reducible refine (KK1.out r2.out (tx := tx3) (List.mem_cons_of_mem _ (List.mem_cons_of_mem _ List.mem_cons_self))).mono ?_); rintro e y3 ⟨rfl, r3⟩)
    | (go_at_call 18; (with_reducible refine (KK1.out r3.out (tx := tx4) (List.mem_cons_of_mem _ List.mem_cons_self)).mono ?_); rintro e y4 ⟨rfl, r4⟩)
    | (go_at_call 18; (with_reducible refine (KK1.out r4.out (tx := tx5) List.mem_cons_self).mono ?_); rintro e y5 ⟨rfl, r5⟩))
  go_ret
  exact ⟨rfl, r5.out.1⟩
end Go.Proofs.YtjkifeladmhkoaaDoor.E8
set_option linter.unusedVariables false
namespace Go.Proofs.YtjkifeladmhkoaaDoor.endsKnown
open Go.ChangeShapes Go.WideShapes Go.ChangeAt Go.RowKit Go.Proofs.YtjkifeladmhkoaaDoorW.PrintWords Go.Proofs.YtjkifeladmhkoaaDoor.H Go.Proofs.YtjkifeladmhkoaaDoor.B

theorem own : ownKnob Tryd.prog.godebug = none := by kernel_rfl
theorem laidOut : laidOutB Tryd.prog = true := by kernel_rfl

set_option maxRecDepth 100000 in
theorem contract (H : Type) (enc : TypeId × Value → H) (W : World) (base : Nat) (args : Array Value) (ds gs : List (DataW H)) (before : List MemPlace)
    (hval : ∀ (j : Nat) t v, Tryd.f3.params[j]? = some t → args[j]? = some v → Value.okWide Tryd.prog W .any base t v)
    (ad : Int → Addr) (hs : SentsK ad W)
    (hz : (DataW.weightsEach Tryd.prog (Tryd.f3.params.toList ++ (OpenSpec.ofChange Rows.endsKnownSpec).bare.plain.varTypes Tryd.prog) (ds ++ gs)).all (· ≤ reachBytes) = true)
    (hW : DataW.Whole enc Tryd.prog Tryd.f3.params.toList Rows.endsKnownSpec.vars false W args.toList ds gs before) :
    Calls Tryd.prog 3 args W fun e W' => ∃ v, e = .returned v ∧ Rows.endsKnownSpec.post enc Tryd.prog Tryd.f3 false true false false W args v W' := by
  have hW' := hW
  obtain ⟨p, q, hA0, hV, rfl, hfz, hnd⟩ := hW
  have hA : DataW.TrodAll enc Tryd.prog W 0 (fun _ => true) true Tryd.f3.params.toList args.toList ds p := hA0
  rw [Tryd.params3] at hA hval
  obtain ⟨hargs, rfl, rfl⟩ := trodAll_nil hA
  obtain rfl : args = #[] := by cases args; simp_all
  obtain ⟨rfl, rfl⟩ := trodVars_none hV
  refine (E8.EndsKnown_calls ad  W hs ).mono fun e W' ⟨he, bel⟩ => ?_
  subst he
  simp only [List.append_nil] at hW'
  exact ⟨_, rfl, _, _, _, [], _, [], hW', trodAll_mk1 (shut_bool Tryd.underlying4 _), trodAll_mk0, rfl, bel.frame _, fun h => by cases h⟩

theorem laid_met (os : Os) (args : Array Value) : laidMetH Tryd.prog Rows.endsKnownRow.laid ((laidWorld16 os).forCall (fun _ _ => 0) ⟨#[], args, []⟩).memory := L15.laid_met os args
theorem sents {W : World} (h : laidMetH Tryd.prog Rows.endsKnownRow.laid W) : ∃ ad, SentsK ad W := L15.sents h
theorem reads (os : Os) {H : Type} (enc : TypeId × Value → H) : ∃ places, DataW.whole enc Tryd.prog ((laidWorld16 os).forCall (fun _ _ => 0) ⟨#[], #[], []⟩).memory Tryd.f3.params.toList Rows.endsKnownSpec.vars false (#[] : Array Value).toList 8 = some ([], [], places) :=
  ⟨[], by kernel_rfl⟩

set_option maxRecDepth 100000 in
theorem lifted (os : Os) (started : os.Started) (H : Type) (enc : TypeId × Value → H) (F : Stop.Interp) :
    ReturnsInHanded {} Tryd.checked os 3 .any ((OpenSpec.ofChange Rows.endsKnownSpec).preRow enc Tryd.prog Tryd.f3 Rows.endsKnownRow.domain false Rows.endsKnownRow.laid) (((OpenSpec.ofChange Rows.endsKnownSpec).at F).post enc Tryd.prog Tryd.f3 false true false false) := by
  obtain ⟨places, hx⟩ := reads os enc
  refine returnsInHanded_of_row (C := Tryd.checked) (s := OpenSpec.ofChange Rows.endsKnownSpec) own started (by kernel_rfl) Tryd.func3
    (witness_row_atRef (enc := enc) (C := Tryd.checked) false (laidWorld16 os) #[] rfl (by kernel_rfl) (by kernel_rfl) (by kernel_rfl)
      (OpenSpec.preRow_of_cond 8 hx (by kernel_rfl) (fun k hk => by cases hk) (by kernel_rfl) (laid_met os _))) ?_
  intro W base args ds gs before hval hW _ hcond hz hL _ _
  obtain ⟨ad, hs⟩ := sents hL
  exact contract H enc W base args ds gs before hval ad hs hz hW

theorem said : Rows.EndsKnownSaid :=
  OpenClaim.holds_of_cond 3 Tryd.f3 rfl rfl rfl rfl rfl rfl rfl ⟨rfl, rfl, rfl, rfl, rfl⟩ rfl rfl rfl rfl rfl (by kernel_rfl) Tryd.func3 (by kernel_rfl)
    (of_decide_eq_true (by kernel_rfl)) (by unfold Func.isWrapper; first | (rw [if_pos (by decide +kernel)]; kernel_rfl) | (rw [if_neg (by decide +kernel)]; exact ⟨rfl, rfl⟩))
    (fun os started H enc _ F => by rw [OpenClaim.pre_eq_preRow]; exact lifted os started H enc F)

theorem plain (f : FuncId) (fn : Func) (hf : Tryd.pinned.checked.prog.funcNamed "dovetail/dovetaillaw08.EndsKnown" = some f) (hfn : Tryd.pinned.checked.prog.funcs[f]? = some fn) :
    true = Tryd.pinned.checked.prog.looks [] ∧ ∀ (j : Nat) t, fn.params[j]? = some t → Tryd.pinned.checked.prog.wantsStandIn t = false := by
  obtain rfl : f = 3 := Option.some.inj ((show Tryd.prog.funcNamed "dovetail/dovetaillaw08.EndsKnown" = some 3 by kernel_rfl).symm.trans hf) |>.symm
  obtain rfl : fn = Tryd.f3 := (Option.some.inj (Tryd.func3.symm.trans hfn)).symm
  refine ⟨by kernel_rfl, fun j t ht => ?_⟩
  rw [Tryd.params3] at ht
  simp at ht

theorem proved : Rows.EndsKnownCardSaid :=
  Claim7.holds_tied_plain_at .later [] _ _ _ _ said (fun _ h => by cases h) (by kernel_rfl) (fun _ h => by cases h) endsKnown_row_tie rfl ⟨rfl, rfl⟩ (by kernel_rfl) rfl plain (by kernel_rfl)
#print axioms proved
end Go.Proofs.YtjkifeladmhkoaaDoor.endsKnown
