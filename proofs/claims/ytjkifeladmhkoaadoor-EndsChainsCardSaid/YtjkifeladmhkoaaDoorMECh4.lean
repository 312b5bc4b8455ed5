/- Texts of this claim, one behind the other. -/
import Derived.Test.YtjkifeladmhkoaaDoorMECh3
import Derived.OneCell
import Derived.Laws.EntriesVeiled
import Derived.Test.YtjkifeladmhkoaaDoorMECh1
import Derived.Test.YtjkifeladmhkoaaDoorMECh2
import Derived.Deep.Onto
import Derived.StillTailTactics
import Derived.Deep.RegionHeld3
import Derived.ArgAppend
import Derived.OwnWalk
/- ends.Chain: walked. -/
set_option linter.unusedVariables false
set_option linter.unusedSimpArgs false
namespace Go.Proofs.YtjkifeladmhkoaaDoor.E8
open Go.RowKit YtjkifeladmhkoaaDoorW.PrintWords YtjkifeladmhkoaaDoorW.PrintLast YtjkifeladmhkoaaDoorW.PrintMore
open B Es

theorem infoInt : (Tryd.prog.info? 3).map (fun i => (i.zero, i.size, i.bytes)) = some (some (.int .i64 0), 1, 8) := by kernel_rfl
theorem From_any (r : Bool) (w : World) : Calls Tryd.prog 53 #[.bool r] w fun e w' => e = .returned (fv r) ∧ Below w.heap.size w w' := by
 cases r
 · exact FromF_calls w
 · exact FromT_calls w
theorem Box.far {b : Nat} {cs : Array Value} {t : TypeId} {W : World} (h : Box b cs t W) (p : Addr) (u : Value) (hne : b ≠ p.block) : Box b cs t (W.setCell p u) := by
 have h' : W.heap[b]? = some (.cells cs t (0, 0)) := h
 show (W.setCell p u).heap[b]? = _
 rw [Below.heap_setCell W p u b hne]; exact h'
theorem Box.put1 {b : Nat} {v : Value} {t : TypeId} {W : World} (h : Box b #[v] t W) (u : Value) : Box b #[u] t (W.setCell ⟨b, 0, none⟩ u) := by
 exact one_setCell (u := u) h
theorem fv_form (r : Bool) : ∃ fk, fv r = .func (.func fk) #[] #[] := by cases r <;> exact ⟨_, rfl⟩
structure CH (w : World) (cs : Array Value) (q : Nat) (r : Bool) (i tm N : Nat) (far : List Int) (W : World) : Prop where
 low : Below w.heap.size w W
 bg : Box w.heap.size cs 32 W
 bi : Box (w.heap.size + 1) #[.int .i64 (i : Int)] 3 W
 bt : Box (w.heap.size + 2) #[.int .i64 (tm : Int)] 3 W
 bf : Box q #[fv r] 98 W
 bq : Box (q + 2) #[.slice (some ⟨q + 1, 0, none⟩) N N] 24 W
 row : Kd.R (Kd.int .i64) 3 W (q + 1) (fun k => k = q + 1) (.slice (some ⟨q + 1, 0, none⟩) N N) far
 lt : w.heap.size + 3 ≤ q
section
variable {w W W' : World} {cs : Array Value} {q : Nat} {r : Bool} {i tm N : Nat} {far : List Int}
theorem CH.below (h : CH w cs q r i tm N far W) (hb : Below W.heap.size W W') : CH w cs q r i tm N far W' :=
 ⟨h.low.trans (hb.mono h.low.size), h.bg.below hb, h.bi.below hb, h.bt.below hb, h.bf.below hb, h.bq.below hb, Kd.R_below h.row hb, h.lt⟩
theorem CH.store (h : CH w cs q r i tm N far W) (k : Nat) (x : Int) : CH w cs q r i tm N (far.set k x) (W.setCell ⟨q + 1, k, none⟩ (.int .i64 x)) := by
 have := h.lt
 refine ⟨h.low.setCell (by dsimp only; omega) _, Box.far h.bg _ _ (by dsimp only; omega), Box.far h.bi _ _ (by dsimp only; omega), Box.far h.bt _ _ (by dsimp only; omega), Box.far h.bf _ _ (by dsimp only; omega), Box.far h.bq _ _ (by dsimp only; omega), ?_, h.lt⟩
 have := Kd.R_putn h.row (k : Int) x
 rwa [Int.toNat_natCast] at this
theorem CH.putI (h : CH w cs q r i tm N far W) (j : Nat) : CH w cs q r j tm N far (W.setCell ⟨w.heap.size + 1, 0, none⟩ (.int .i64 (j : Int))) := by
 have := h.lt
 exact ⟨h.low.setCell (by dsimp only; omega) _, Box.far h.bg _ _ (by dsimp only; omega), Box.put1 h.bi _, Box.far h.bt _ _ (by dsimp only; omega), Box.far h.bf _ _ (by dsimp only; omega), Box.far h.bq _ _ (by dsimp only; omega), Kd.R_far (p := ⟨w.heap.size + 1, 0, none⟩) h.row (fun k hk => by dsimp only; omega) _, h.lt⟩
theorem CH.size (h : CH w cs q r i tm N far W) : q + 3 ≤ W.heap.size := Box.lt h.bq
theorem CH.grown (h : CH w cs q r i tm N far W) {row : Option Nat} (hg : W.grownBy W' row) (hr : ∀ k, row = some k → q + 3 ≤ k) : CH w cs q r i tm N far W' := by
 have hl := h.lt
 have hs := h.size
 have hne : ∀ b, b < q + 3 → some b ≠ row := fun b hb e => by have := hr b e.symm; omega
 have bx : ∀ {b : Nat} {c : Array Value} {t : TypeId}, b < q + 3 → Box b c t W → Box b c t W' := fun {b c t} hb hx => by
  have h' : W.heap[b]? = some (.cells c t (0, 0)) := hx
  show W'.heap[b]? = _
  rw [hg.block b (by omega) (hne b hb)]; exact h'
 exact ⟨h.low.grown hg h.low.size (fun k hk => by have := hr k hk; omega), bx (by omega) h.bg, bx (by omega) h.bi, bx (by omega) h.bt, bx (by omega) h.bf, bx (by omega) h.bq, Kd.R_grown h.row hg (fun k hk => hk ▸ hne _ (by omega)), h.lt⟩
theorem CH.far_at (h : CH w cs q r i tm N far W) (k : Nat) (hk : k < N) : W.cell? ⟨q + 1, k, none⟩ = some (.int .i64 (far.getD k 0)) ∧ W.frozen? ⟨q + 1, k, none⟩ = false := by
 obtain ⟨hc, hf⟩ := Kd.R_celln 0 h.row (k : Int) (by omega) (by omega)
 rw [Int.toNat_natCast] at hc hf
 exact ⟨by rw [hc, ← rd_D]; rfl, hf⟩
theorem CH.cb (h : CH w cs q r i tm N far W) {b n : Nat} (hb : Box b #[.int .i64 (n : Int)] 3 W) : CB q (w.heap.size + 1) b (w.heap.size + 2) (q + 2) (q + 1) r i n tm N far W := by
 have hr := (Kd.R_reads' h.row)
 exact ⟨h.bf, h.bi, hb, h.bt, h.bq, by have := hr.2.2; rwa [← hr.1] at this⟩
end
def CC (w : World) (v0 v1 v2 v3 : Value) (q : Nat) (fr : Value) (i tm : Int) (N : Nat) (W : World) : Prop := W.cell? ⟨w.heap.size, 0, none⟩ = some v0 ∧ W.cell? ⟨w.heap.size, 1, none⟩ = some v1 ∧ W.cell? ⟨w.heap.size, 2, none⟩ = some v2 ∧ W.cell? ⟨w.heap.size, 3, none⟩ = some v3 ∧ W.cell? ⟨w.heap.size + 1, 0, none⟩ = some (.int .i64 i) ∧ W.cell? ⟨w.heap.size + 2, 0, none⟩ = some (.int .i64 tm) ∧ W.cell? ⟨q, 0, none⟩ = some fr ∧ W.cell? ⟨q + 2, 0, none⟩ = some (.slice (some ⟨q + 1, 0, none⟩) N N)
theorem CH.cells {w W : World} {v0 v1 v2 v3 : Value} {q : Nat} {r : Bool} {i tm N : Nat} {far : List Int} (h : CH w #[v0, v1, v2, v3] q r i tm N far W) : CC w v0 v1 v2 v3 q (fv r) (i : Int) (tm : Int) N W :=
 ⟨h.bg.cell 0 _ rfl, h.bg.cell 1 _ rfl, h.bg.cell 2 _ rfl, h.bg.cell 3 _ rfl, h.bi.cell 0 _ rfl, h.bt.cell 0 _ rfl, h.bf.cell 0 _ rfl, h.bq.cell 0 _ rfl⟩
structure C0 (w : World) (cs : Array Value) (i tm : Nat) (W : World) : Prop where
 low : Below w.heap.size w W
 g : Box w.heap.size cs 32 W
 i : Box (w.heap.size + 1) #[.int .i64 (i : Int)] 3 W
 t : Box (w.heap.size + 2) #[.int .i64 (tm : Int)] 3 W
theorem C0.below {w W W' : World} {cs : Array Value} {i tm : Nat} (h : C0 w cs i tm W) (hb : Below W.heap.size W W') : C0 w cs i tm W' :=
 ⟨h.low.trans (hb.mono h.low.size), h.g.below hb, h.i.below hb, h.t.below hb⟩
theorem C0.start (w : World) (cs : Array Value) (i tm : Nat) : C0 w cs i tm (((w.alloc (.cells cs 32)).alloc (.cells #[.int .i64 (i : Int)] 3)).alloc (.cells #[.int .i64 (tm : Int)] 3)) := by
 refine ⟨(((Below.refl _ w).alloc (Nat.le_refl _) _).alloc (by simp) _).alloc (by simp; omega) _, ((Box.new w _ _).alloc _).alloc _, ?_, ?_⟩
 · have := (Box.new (w.alloc (.cells cs 32)) #[.int .i64 (i : Int)] 3).alloc (.cells #[.int .i64 (tm : Int)] 3)
   simpa using this
 · have := Box.new ((w.alloc (.cells cs 32)).alloc (.cells #[.int .i64 (i : Int)] 3)) #[.int .i64 (tm : Int)] 3
   simpa using this
theorem C0.cells {w W : World} {v0 v1 v2 v3 : Value} {i tm : Nat} (h : C0 w #[v0, v1, v2, v3] i tm W) : W.cell? ⟨w.heap.size, 0, none⟩ = some v0 ∧ W.cell? ⟨w.heap.size, 1, none⟩ = some v1 ∧ W.cell? ⟨w.heap.size, 2, none⟩ = some v2 ∧ W.cell? ⟨w.heap.size, 3, none⟩ = some v3 ∧ W.cell? ⟨w.heap.size + 1, 0, none⟩ = some (.int .i64 (i : Int)) ∧ W.cell? ⟨w.heap.size + 2, 0, none⟩ = some (.int .i64 (tm : Int)) :=
 ⟨h.g.cell 0 _ rfl, h.g.cell 1 _ rfl, h.g.cell 2 _ rfl, h.g.cell 3 _ rfl, h.i.cell 0 _ rfl, h.t.cell 0 _ rfl⟩

theorem ringStep_no {r : Bool} {tm n : Nat} {p1 : List Int} {p2 : Bool} {x : S41} (h : p1.getD x.f0.toNat 0 ≠ 0 ∨ hit r tm p1 n x.f1 = false) : ringStep r tm n (p1, p2) x = (p1, p2) := by
 unfold ringStep
 rw [if_neg]
 rintro ⟨h1, h2⟩
 rcases h with h | h
 · exact h h1
 · rw [h] at h2; cases h2
theorem ringStep_yes {r : Bool} {tm n : Nat} {p1 : List Int} {p2 : Bool} {x : S41} {a : Nat} (ha : x.f0 = (a : Int)) (h1 : p1.getD a 0 = 0) (h2 : hit r tm p1 n x.f1 = true) : ringStep r tm n (p1, p2) x = (p1.set a (n : Int), true) := by
 unfold ringStep
 rw [ha, Int.toNat_natCast, if_pos ⟨h1, h2⟩]
theorem idxC_ex {R : List S41} {r : Bool} {tm N : Nat} {far : List Int} (hf : Far R r tm N far) {i q : Nat} (hi : i < N) (hq : far.getD i 0 = (q : Int)) (h1 : 1 ≤ q) : ∃ kk x, idxC r tm far R q i = kk ∧ kk < R.length ∧ R[kk]? = some x ∧ x.f0 = (i : Int) ∧ hit r tm far q x.f1 = true := by
 obtain ⟨h, h2, h3⟩ := idxC_lt hf hi hq h1
 exact ⟨_, _, rfl, h, List.getElem?_eq_getElem h, h2, h3⟩
theorem sub1 {m : Nat} (h : 1 ≤ m) : ((m - 1 : Nat) : Int) = (m : Int) - 1 := by omega
theorem next_ex {R : List S41} {r : Bool} {t tm N : Nat} {far : List Int} (hf : Far R r tm N far) (hR : ∀ x ∈ R, okR t N x = true) {kk m : Nat} {x : S41} (hkx : R[kk]? = some x) (hh : hit r tm far m x.f1 = true) (hm : 2 ≤ m) : nextC r R kk < N ∧ far.getD (nextC r R kk) 0 = ((m - 1 : Nat) : Int) ∧ led r x.f1 = some (nextC r R kk) := by
 obtain ⟨hk, rfl⟩ := List.getElem?_eq_some_iff.1 hkx
 obtain ⟨q, rfl⟩ : ∃ q, m = q + 2 := ⟨m - 2, by omega⟩
 exact nextC_far hR hk hh
theorem box_frozen {b : Nat} {cs : Array Value} {t : TypeId} {W : World} (h : Box b cs t W) (j : Nat) : W.frozen? ⟨b, j, none⟩ = false := by
 have h' : W.heap[b]? = some (.cells cs t (0, 0)) := h
 unfold World.frozen?
 rw [show W.heap[(⟨b, j, none⟩ : Addr).block]? = _ from h']; rfl
structure C2 (w : World) (cs : Array Value) (q : Nat) (r : Bool) (i tm N : Nat) (far : List Int) (b m : Nat) (v : Value) (L : List Int) (W : World) : Prop where
 ch : CH w cs q r i tm N far W
 nb : Box b #[.int .i64 (m : Int)] 3 W
 lb : q + 3 ≤ b
 own : Kd.R (Kd.int .i64) 3 W (q + 3) (fun k => k ≠ b) v L
section
variable {w W W' : World} {cs : Array Value} {q : Nat} {r : Bool} {i tm N : Nat} {far : List Int} {b m : Nat} {v v' : Value} {L L' : List Int}
theorem C2.below (h : C2 w cs q r i tm N far b m v L W) (hb : Below W.heap.size W W') : C2 w cs q r i tm N far b m v L W' :=
 ⟨h.ch.below hb, h.nb.below hb, h.lb, Kd.R_below h.own hb⟩
theorem C2.start (h : CH w cs q r i tm N far W) (d : Nat) : C2 w cs q r i tm N far W.heap.size d (.slice none 0 0) [] (W.alloc (.cells #[.int .i64 (d : Int)] 3)) :=
 ⟨h.below ((Below.refl _ _).alloc (Nat.le_refl _) _), Box.new W _ _, h.size, Kd.R_nil _ _ _ _ _⟩
theorem C2.next (h : C2 w cs q r i tm N far b m v L W) (d : Nat) : C2 w cs q r i tm N far W.heap.size d v L (W.alloc (.cells #[.int .i64 (d : Int)] 3)) :=
 ⟨h.ch.below ((Below.refl _ _).alloc (Nat.le_refl _) _), Box.new W _ _, h.ch.size, Kd.R_below (Kd.R_mono (Kd.R_bound h.own) fun k hk => by have := hk.2.2.1; omega) ((Below.refl _ _).alloc (Nat.le_refl _) _)⟩
theorem C2.putI (h : C2 w cs q r i tm N far b m v L W) (j : Nat) : C2 w cs q r j tm N far b m v L (W.setCell ⟨w.heap.size + 1, 0, none⟩ (.int .i64 (j : Int))) := by
 have hl := h.ch.lt
 have hb := h.lb
 exact ⟨h.ch.putI j, Box.far h.nb _ _ (by dsimp only; omega), h.lb, Kd.R_far (p := ⟨w.heap.size + 1, 0, none⟩) (Kd.R_mono (Kd.R_bound h.own) (ok' := fun k => k ≠ b ∧ q + 3 ≤ k) fun k hk => ⟨hk.1, hk.2.1⟩) (fun k hk => by dsimp only; omega) _ |> fun x => Kd.R_mono x fun k hk => hk.1⟩
theorem C2.grown (h : C2 w cs q r i tm N far b m v L W) (hg : W.grownBy W' v.ownBlock) (hR : Kd.R (Kd.int .i64) 3 W' (q + 3) (fun k => k ≠ b) v' L') : C2 w cs q r i tm N far b m v' L' W' := by
 have hlt := Box.lt h.nb
 refine ⟨h.ch.grown hg (fun k hk => Kd.R_base h.own k hk), ?_, h.lb, hR⟩
 have h' : W.heap[b]? = some (.cells #[.int .i64 (m : Int)] 3 (0, 0)) := h.nb
 show W'.heap[b]? = _
 rw [hg.block b hlt (fun e => h.own.1 b e.symm rfl)]; exact h'
end
def numAt (p : Value) (W : World) : Nat := match p with | .pointer (some a) => (match W.cell? a with | some v => (intOf v).toNat | none => 0) | _ => 0
theorem numAt_box {b m : Nat} {W : World} (h : Box b #[.int .i64 (m : Int)] 3 W) : numAt (.pointer (some ⟨b, 0, none⟩)) W = m := by
 have h1 : W.cell? ⟨b, 0, none⟩ = some (.int .i64 (m : Int)) := Box.cell h 0 _ rfl
 simp [numAt, h1, intOf]
theorem own_is {g n c k : Nat} (h : (Value.slice (some ⟨g, 0, none⟩) n c).ownBlock = some k) : k = g := by
 have : g = k := by simpa [Value.ownBlock] using h
 exact this.symm
theorem CH.start {w w2 : World} {cs : Array Value} {i tm N : Nat} {r : Bool} {v : Value} (hv : fv r = v) (h : C0 w cs i tm w2) (hN : N ≤ 1000) : CH w cs w2.heap.size r i tm N (List.replicate N 0) (((w2.alloc (.cells #[v] 98)).alloc (.cells (madeCells #[.int .i64 0] N) 3)).alloc (.cells #[.slice (some ⟨w2.heap.size + 1, 0, none⟩) N N] 24)) := by
 subst hv
 have b1 : Below w2.heap.size w2 (w2.alloc (.cells #[fv r] 98)) := (Below.refl _ _).alloc (Nat.le_refl _) _
 have b2 : Below w2.heap.size w2 ((w2.alloc (.cells #[fv r] 98)).alloc (.cells (madeCells #[.int .i64 0] N) 3)) := b1.alloc (by simp) _
 have b3 := b2.alloc (by simp; omega) (.cells #[.slice (some ⟨w2.heap.size + 1, 0, none⟩) N N] 24)
 have hb := h.below b3
 refine ⟨hb.low, hb.g, hb.i, hb.t, ((Box.new w2 _ _).alloc _).alloc _, ?_, ?_, Box.lt h.t⟩
 · have := Box.new ((w2.alloc (.cells #[fv r] 98)).alloc (.cells (madeCells #[.int .i64 0] N) 3)) #[.slice (some ⟨w2.heap.size + 1, 0, none⟩) N N] 24
   simpa using this
 · have ho := own_made (w2.alloc (.cells #[fv r] 98)) (w2.heap.size + 1) 3 .i64 N (by simp) (by omega)
   have ho2 := ho.alloc (.cells #[.slice (some ⟨w2.heap.size + 1, 0, none⟩) N N] 24)
   have hsz : (w2.alloc (.cells #[fv r] 98)).heap.size = w2.heap.size + 1 := by simp
   rw [hsz] at ho2
   exact Kd.R_of_own (enc := Value.int .i64) (h1 := fun _ => rfl) (by rw [List.length_replicate]; exact ho2) (fun k hk => own_is hk)

set_option maxHeartbeats 8000000 in
set_option maxRecDepth 100000 in
theorem Chain_ok (E15 : Value) (A0 : Option Addr) (c0 : Nat) (l0 : List ByteArray) (A1 : Option Addr) (c1 : Nat) (l1 : List ByteArray) (a2 : Int) (A3 : Option Addr) (c3 : Nat) (l3 : List S41) (r : Bool) (i tm : Nat) (w : World) (hr3 : Kd.C k41 w A3 l3.length l3) (hc3 : l3.length ≤ c3)
 (h15 : w.cell? ⟨1, 0, none⟩ = some E15)
 (hC : ∀ W, Below w.heap.size w W → Calls Tryd.prog 52 #[.agg #[.slice A0 l0.length c0, .slice A1 l1.length c1, .int .i64 a2, .slice A3 l3.length c3]] W fun e w' => e = .returned .nilIface ∧ Below W.heap.size W w')
 (hok : ∀ x ∈ l3, okR l0.length l1.length x = true) (h0 : l0.length ≤ 60) (h1 : l1.length ≤ 60) (h3 : l3.length ≤ 120) (hi : i < l1.length) (ht : tm < l0.length) :
 Calls Tryd.prog 15 #[.agg #[.slice A0 l0.length c0, .slice A1 l1.length c1, .int .i64 a2, .slice A3 l3.length c3], .int .i64 (i : Int), .int .i64 (tm : Int), .bool r] w fun e w' => Below w.heap.size w w' ∧
  (((farF r tm l1.length l3).getD i 0 = 0 ∧ e = .returned (.tuple #[.slice none 0 0, E15])) ∨
   ((farF r tm l1.length l3).getD i 0 ≠ 0 ∧ ∃ (g n : Nat) (cur : Array Value), n = (walkC r tm (farF r tm l1.length l3) l3 ((farF r tm l1.length l3).getD i 0).toNat i).length ∧ e = .returned (.tuple #[.slice (some ⟨g, 0, none⟩) n n, .nilIface]) ∧ w.heap.size ≤ g ∧ w'.heap[g]? = some (.cells cur 3 (0, 0)) ∧ cur.toList.take n = nums .i64 (walkC r tm (farF r tm l1.length l3) l3 ((farF r tm l1.length l3).getD i 0).toNat i))) := by
 have hF := farF_far (r := r) (tm := tm) hok
 obtain ⟨F, eF⟩ : ∃ F, farF r tm l1.length l3 = F := ⟨_, rfl⟩
 rw [eF] at hF ⊢
 obtain ⟨N, hN⟩ : ∃ N, N = l1.length := ⟨_, rfl⟩
 obtain ⟨cs, hcs⟩ : ∃ cs : Array Value, cs = #[.slice A0 l0.length c0, .slice A1 l1.length c1, .int .i64 a2, .slice A3 l3.length c3] := ⟨_, rfl⟩
 have st0 : C0 w cs i tm (((w.alloc (.cells #[.slice A0 l0.length c0, .slice A1 l1.length c1, .int .i64 a2, .slice A3 l3.length c3] 32)).alloc (.cells #[.int .i64 (i : Int)] 3)).alloc (.cells #[.int .i64 (tm : Int)] 3)) := by subst hcs; exact C0.start w _ i tm
 have ce0 : ∀ W, C0 w cs i tm W → W.cell? ⟨w.heap.size, 0, none⟩ = some (.slice A0 l0.length c0) ∧ W.cell? ⟨w.heap.size, 1, none⟩ = some (.slice A1 l1.length c1) ∧ W.cell? ⟨w.heap.size, 2, none⟩ = some (.int .i64 a2) ∧ W.cell? ⟨w.heap.size, 3, none⟩ = some (.slice A3 l3.length c3) ∧ W.cell? ⟨w.heap.size + 1, 0, none⟩ = some (.int .i64 (i : Int)) ∧ W.cell? ⟨w.heap.size + 2, 0, none⟩ = some (.int .i64 (tm : Int)) := by
  intro W hW; subst hcs; exact hW.cells
 have kC : ∀ W, C0 w cs i tm W → Calls Tryd.prog 52 #[.agg #[.slice A0 l0.length c0, .slice A1 l1.length c1, .int .i64 a2, .slice A3 l3.length c3]] W fun e w' => e = .returned .nilIface ∧ Aside0 (C0 w cs i tm w') := fun W hW => (hC W hW.low).mono fun _ _ h => ⟨h.1, ⟨hW.below h.2⟩⟩
 have kF : ∀ W, C0 w cs i tm W → Calls Tryd.prog 53 #[.bool r] W fun e w' => e = .returned (fv r) ∧ Aside0 (C0 w cs i tm w') := fun W hW => (From_any r W).mono fun _ _ h => ⟨h.1, ⟨hW.below h.2⟩⟩
 have hmk := print_make 24 3 .i64 8 Tryd.underlying24 infoInt (by decide) l1.length (by omega)
 have d1 : decide ((i : Int) < 0) = false := decide_eq_false (by omega)
 have d2 : decide ((tm : Int) < 0) = false := decide_eq_false (by omega)
 have d3 : decide ((l1.length : Int) ≤ (i : Int)) = false := decide_eq_false (by omega)
 have d4 : decide ((l0.length : Int) ≤ (tm : Int)) = false := decide_eq_false (by omega)
 have d3' : decide (l1.length ≤ i) = false := decide_eq_false (by omega)
 have d4' : decide (l0.length ≤ tm) = false := decide_eq_false (by omega)
 obtain ⟨f0, f1, f2, f3, f4, f5⟩ := ce0 _ st0
 have ST := Aside0.mk st0
 have CE := Aside0.mk ce0
 have KC := Aside0.mk kC
 have KF := Aside0.mk kF
 have HR := Aside0.mk hr3
 have HOK := Aside0.mk hok
 have HF := Aside0.mk hF
 have HN := Lib.hid hN
 have EF := Lib.hid eF
 have HCS := Lib.hid hcs
 have H15 := Aside0.mk h15
 clear st0 ce0 kC kF hr3 hok hF hN eF hcs h15 hC
 obtain ⟨fk, hfk⟩ := fv_form r
 rw [hfk] at KF
 have HFK := Lib.hid hfk
 clear hfk
 go_enter Tryd.func15, Tryd.ntmps15
 go_wp2
 go_step3
 go_wp2_with (first
  | (go_at_call 52; (with_reducible refine (KC.out _ ST.out).mono ?_); clear f0 f1 f2 f3 f4 f5; rintro e w1 ⟨rfl, t1⟩; obtain ⟨f0, f1, f2, f3, f4, f5⟩ := CE.out _ t1.out)
  | (go_at_call 53; (with_reducible refine (KF.out _ t1.out).mono ?_); clear f0 f1 f2 f3 f4 f5; rintro e w2 ⟨rfl, t2⟩; obtain ⟨f0, f1, f2, f3, f4, f5⟩ := CE.out _ t2.out; have f1a := fun o => Lib.cell?_alloc_some o f1))
 go_step3
 go_wp2_with fail
 have CE2 : Aside0 (∀ {i : Nat} W far, CH w cs w2.heap.size r i tm l1.length far W → CC w (.slice A0 l0.length c0) (.slice A1 l1.length c1) (.int .i64 a2) (.slice A3 l3.length c3) w2.heap.size (.func (.func fk) #[] #[]) (i : Int) (tm : Int) l1.length W) := ⟨fun W far hW => by have := HCS.out; subst this; rw [← HFK.out]; exact hW.cells⟩
 have ST2 : Aside0 (CH w cs w2.heap.size r i tm l1.length (List.replicate l1.length 0) (((w2.alloc (.cells #[.func (.func fk) #[] #[]] 98)).alloc (.cells (madeCells #[.int .i64 0] l1.length) 3)).alloc (.cells #[.slice (some ⟨w2.heap.size + 1, 0, none⟩) l1.length l1.length] 24))) := ⟨CH.start HFK.out t2.out (by omega)⟩
 have H15x : Aside0 (∀ W, Below w.heap.size w W → W.cell? ⟨1, 0, none⟩ = some E15) := ⟨fun W hW => (hW.cell (World.block_lt_of_cell? w _ H15.out)).trans H15.out⟩
 clear f0 f1 f2 f3 f4 f5 f1a hmk d1 d2 d3 d4 d3' d4'
 go_loopw [13, 14, 16, 17, 18, 19, 20] (fun n _ _ _ _ _ _ wr => ∃ (m : Nat) (far : List Int), 1 ≤ m ∧ m ≤ l1.length + 1 ∧ n = .int .i64 (m : Int) ∧ Hid (rings r tm l3 (l1.length + 1 - m) m far = F) ∧ Hid (far.length = l1.length) ∧ Aside0 (CH w cs w2.heap.size r i tm l1.length far wr)) (fun n _ _ _ _ _ _ _ => l1.length + 1 - (intOf n).toNat)
 case atStart => exact ⟨1, _, Nat.le_refl _, by omega, rfl, EF, Lib.hid (by simp), ST2⟩
 case round =>
  clear ST2
  obtain ⟨m, far, hm1, hm2, rfl, hrg, hfl, tr⟩ := hrel
  obtain ⟨wo, rfl⟩ : ∃ wo : World, wo = wr := ⟨_, rfl⟩
  obtain ⟨f0, f1, f2, f3, f4, f5, f6, f7⟩ := CE2.out _ far tr.out
  by_cases hlt : m ≤ l1.length
  · go_wp2_with fail
    go_loopw [14, 16, 17, 18, 19, 20, 66] (fun fnd _ _ _ _ _ j wq => ∃ (jj : Nat) (p : List Int × Bool), jj ≤ l3.length ∧ j = .int .i64 (jj : Int) ∧ fnd = .bool p.2 ∧ Hid ((l3.take jj).foldl (ringStep r tm m) (far, false) = p) ∧ Hid (p.1.length = l1.length) ∧ Aside0 (CH w cs w2.heap.size r i tm l1.length p.1 wq)) (fun _ _ _ _ _ _ j _ => l3.length - (intOf j).toNat)
    case atStart => exact ⟨0, (far, false), Nat.zero_le _, rfl, rfl, Lib.hid rfl, hfl, tr⟩
    case round =>
     clear f0 f1 f2 f3 f4 f5 f6 f7
     obtain ⟨jj, ⟨p1, p2⟩, hjj, rfl, rfl, hfo, hpl, tq⟩ := hrel
     dsimp only at tq hpl ⊢
     obtain ⟨f0, f1, f2, f3, f4, f5, f6, f7⟩ := CE2.out _ p1 tq.out
     by_cases hlt2 : jj < l3.length
     · skip
       obtain ⟨ad3, A3', c3', rfl, x0, x1, x2, x3⟩ := at_T41 (Kd.C_below HR.out tq.out.low) (jj : Int) (by omega) (by omega)
       have q0 : rd_T41 l3 (jj : Int) = l3[jj] := by rw [rdR_D, getD_lt _ _ _ hlt2]
       have hok := HOK.out l3[jj] (List.getElem_mem hlt2)
       have hfo2 : (l3.take (jj + 1)).foldl (ringStep r tm m) (far, false) = ringStep r tm m (p1, p2) l3[jj] := by
        rw [List.take_succ_eq_append_getElem hlt2, List.foldl_append, hfo.out]; rfl
       rw [Int.toNat_natCast] at x0 x1
       rw [q0] at x0 x1 x2 x3
       generalize l3[jj] = x at x0 x1 x2 x3 hok hfo2
       obtain ⟨_, ha0, ha1, hsd⟩ := okR_sides hok
       obtain ⟨a, ha⟩ : ∃ a : Nat, x.f0 = a := ⟨x.f0.toNat, by omega⟩
       have hll : ∀ s ∈ x.f1, (-9223372036854775808 : Int) ≤ s := fun s hs => by have := (hsd s hs).2; omega
       have haN : a < l1.length := by omega
       obtain ⟨a1, b1, a2', b2, hs1, hs2, hcase⟩ := hit_case r tm l1.length p1 m hm1 x.f1 (fun m' hm' => led_lt hok hm')
       obtain ⟨hv, hhv⟩ : ∃ hv, hit r tm p1 m x.f1 = hv := ⟨_, rfl⟩
       rw [hhv] at hcase
       obtain ⟨va, hva⟩ : ∃ va, p1.getD a 0 = va := ⟨_, rfl⟩
       rw [ha] at x0
       obtain ⟨Ti, hT⟩ : ∃ Ti : World → Prop, ∀ W, Ti W ↔ (CH w cs w2.heap.size r i tm l1.length p1 W ∧ Box wr.heap.size #[.int .i64 (a : Int), .slice A3' x.f1.length c3'] 41 W) := ⟨_, fun _ => Iff.rfl⟩
       have st3 : Ti (wr.alloc (.cells #[.int .i64 (a : Int), .slice A3' x.f1.length c3'] 41)) := (hT _).2 ⟨tq.out.below ((Below.refl _ _).alloc (Nat.le_refl _) _), Box.new wr _ _⟩
       have ti1 : ∀ W, Ti W → CH w cs w2.heap.size r i tm l1.length p1 W := fun W hW => ((hT W).1 hW).1
       have ce3 : ∀ W, Ti W → CC w (.slice A0 l0.length c0) (.slice A1 l1.length c1) (.int .i64 a2) (.slice (some ad3) l3.length c3) w2.heap.size (.func (.func fk) #[] #[]) (i : Int) (tm : Int) l1.length W ∧ W.cell? ⟨wr.heap.size, 0, none⟩ = some (.int .i64 (a : Int)) ∧ W.cell? ⟨wr.heap.size, 1, none⟩ = some (.slice A3' x.f1.length c3') ∧ W.cell? ⟨w2.heap.size + 1, a, none⟩ = some (.int .i64 va) ∧ W.frozen? ⟨w2.heap.size + 1, a, none⟩ = false := fun W hW => by
        obtain ⟨h1, h2⟩ := (hT W).1 hW
        obtain ⟨hc, hf⟩ := CH.far_at h1 a haN
        rw [hva] at hc
        exact ⟨CE2.out _ p1 h1, h2.cell 0 _ rfl, h2.cell 1 _ rfl, hc, hf⟩
       have more : ∀ W W', Ti W → Below W.heap.size W W' → Ti W' := fun W W' h hb => (hT W').2 ⟨((hT W).1 h).1.below hb, ((hT W).1 h).2.below hb⟩
       have low : ∀ W, Ti W → W.heap.size ≥ wr.heap.size ∧ Below wr.heap.size wr W → True := fun _ _ _ => trivial
       have x3' : ∀ W, Below wr.heap.size wr W → Kd.C (Kd.int .i64) W A3' x.f1.length x.f1 := fun W hb => Kd.C_below x3 hb
       have kS : ∀ W, Ti W → Below wr.heap.size wr W → Calls Tryd.prog 54 #[.func (.func fk) #[] #[], .slice A3' x.f1.length c3'] W fun e w' => e = .returned (.tuple #[.int .i64 a1, .bool b1]) ∧ Aside0 (Ti w' ∧ Below wr.heap.size wr w') := fun W hW hb0 => by
        have := Shows_calls r x.f1 A3' c3' W (x3' W hb0)
        rw [hs1, HFK.out] at this
        exact this.mono fun _ _ ⟨he, hb⟩ => ⟨he, ⟨more _ _ hW hb, hb0.trans (hb.mono hb0.size)⟩⟩
       have kL : ∀ W, Ti W → Below wr.heap.size wr W → Calls Tryd.prog 55 #[.func (.func fk) #[] #[], .slice A3' x.f1.length c3'] W fun e w' => e = .returned (.tuple #[.int .i64 a2', .bool b2]) ∧ Aside0 (Ti w' ∧ Below wr.heap.size wr w') := fun W hW hb0 => by
        have := Leads_calls r x.f1 A3' c3' W (x3' W hb0) hll
        rw [hs2, HFK.out] at this
        exact this.mono fun _ _ ⟨he, hb⟩ => ⟨he, ⟨more _ _ hW hb, hb0.trans (hb.mono hb0.size)⟩⟩
       have rows : ∀ W, Ti W → ∀ m' : Nat, m' < l1.length → W.cell? ⟨w2.heap.size + 1, m', none⟩ = some (.int .i64 (p1.getD m' 0)) := fun W hW m' hm' => (CH.far_at (ti1 W hW) m' hm').1
       obtain ⟨TT, hTT⟩ : ∃ TT : World → Prop, ∀ W, TT W ↔ (CH w cs w2.heap.size r i tm l1.length p1 W ∧ Ti W ∧ Below wr.heap.size wr W) := ⟨_, fun _ => Iff.rfl⟩
       have ST3 : Aside0 (CH w cs w2.heap.size r i tm l1.length p1 (wr.alloc (.cells #[.int .i64 (a : Int), .slice A3' x.f1.length c3'] 41)) ∧ Ti (wr.alloc (.cells #[.int .i64 (a : Int), .slice A3' x.f1.length c3'] 41)) ∧ Below wr.heap.size wr (wr.alloc (.cells #[.int .i64 (a : Int), .slice A3' x.f1.length c3'] 41))) := ⟨ti1 _ st3, st3, (Below.refl _ _).alloc (Nat.le_refl _) _⟩
       have KS : Aside0 (∀ W, (CH w cs w2.heap.size r i tm l1.length p1 W ∧ Ti W ∧ Below wr.heap.size wr W) → Calls Tryd.prog 54 #[.func (.func fk) #[] #[], .slice A3' x.f1.length c3'] W fun e w' => e = .returned (.tuple #[.int .i64 a1, .bool b1]) ∧ Aside0 (CH w cs w2.heap.size r i tm l1.length p1 w' ∧ Ti w' ∧ Below wr.heap.size wr w')) := ⟨fun W hW => (kS W hW.2.1 hW.2.2).mono fun _ _ ⟨he, h⟩ => ⟨he, ⟨ti1 _ h.out.1, h.out.1, h.out.2⟩⟩⟩
       have KL : Aside0 (∀ W, (CH w cs w2.heap.size r i tm l1.length p1 W ∧ Ti W ∧ Below wr.heap.size wr W) → Calls Tryd.prog 55 #[.func (.func fk) #[] #[], .slice A3' x.f1.length c3'] W fun e w' => e = .returned (.tuple #[.int .i64 a2', .bool b2]) ∧ Aside0 (CH w cs w2.heap.size r i tm l1.length p1 w' ∧ Ti w' ∧ Below wr.heap.size wr w')) := ⟨fun W hW => (kL W hW.2.1 hW.2.2).mono fun _ _ ⟨he, h⟩ => ⟨he, ⟨ti1 _ h.out.1, h.out.1, h.out.2⟩⟩⟩
       have CE3 : Aside0 (∀ W, (CH w cs w2.heap.size r i tm l1.length p1 W ∧ Ti W ∧ Below wr.heap.size wr W) → CC w (.slice A0 l0.length c0) (.slice A1 l1.length c1) (.int .i64 a2) (.slice (some ad3) l3.length c3) w2.heap.size (.func (.func fk) #[] #[]) (i : Int) (tm : Int) l1.length W ∧ W.cell? ⟨wr.heap.size, 0, none⟩ = some (.int .i64 (a : Int)) ∧ W.cell? ⟨wr.heap.size, 1, none⟩ = some (.slice A3' x.f1.length c3') ∧ W.cell? ⟨w2.heap.size + 1, a, none⟩ = some (.int .i64 va) ∧ W.frozen? ⟨w2.heap.size + 1, a, none⟩ = false) := ⟨fun W hW => ce3 W hW.2.1⟩
       have RO : Aside0 (∀ W, (CH w cs w2.heap.size r i tm l1.length p1 W ∧ Ti W ∧ Below wr.heap.size wr W) → ∀ m' : Nat, m' < l1.length → W.cell? ⟨w2.heap.size + 1, m', none⟩ = some (.int .i64 (p1.getD m' 0))) := ⟨fun W hW => rows W hW.2.1⟩
       have HFO := Lib.hid hfo2
       have HA := Lib.hid ha
       have HVA := Lib.hid hva
       have HHV := Lib.hid hhv
       obtain ⟨⟨g0, g1, g2, g3, g4, g5, g6, g7⟩, g8, g9, ga, gz⟩ := CE3.out _ ST3.out
       clear f0 f1 f2 f3 f4 f5 f6 f7 hT st3 ti1 ce3 more low x3 x3' kS kL rows hTT TT hfo2 ha hva hhv hs1 hs2 hll hsd q0 hok x2 ha0 ha1 hfo tq
       by_cases hz : va = 0
       · subst hz
         rcases hcase with ⟨qm, rfl, rfl⟩ | ⟨qm, rfl, q1, rfl⟩ | ⟨qm, rfl, rfl, rfl⟩ | ⟨q1, rfl, rfl⟩ | ⟨q1, rfl, m', rfl, hm', q2⟩
         · have HNO := Lib.hid (show p1.getD x.f0.toNat 0 ≠ 0 ∨ hit r tm p1 m x.f1 = false from .inr HHV.out)
           have b1 : decide ((m : Int) = 1) = true := decide_eq_true (by omega)
           have b2 : ((m : Int) == 1) = true := by simp; omega
           have b3 : decide (1 < (m : Int)) = false := decide_eq_false (by omega)
           have b4 : decide ((1 : Nat) < m) = false := decide_eq_false (by omega)
           have QM := Lib.hid qm
           clear qm
           go_wp2_with (first
            | (go_at_call 54; (with_reducible refine (KS.out _ ST3.out).mono ?_); clear g0 g1 g2 g3 g4 g5 g6 g7 g8 g9 ga gz; rintro e w4 ⟨rfl, t4⟩; obtain ⟨⟨g0, g1, g2, g3, g4, g5, g6, g7⟩, g8, g9, ga, gz⟩ := CE3.out _ t4.out)
            | (go_at_call 55; (with_reducible refine (KL.out _ t4.out).mono ?_); clear g0 g1 g2 g3 g4 g5 g6 g7 g8 g9 ga gz; rintro e w5 ⟨rfl, t5⟩; obtain ⟨⟨g0, g1, g2, g3, g4, g5, g6, g7⟩, g8, g9, ga, gz⟩ := CE3.out _ t5.out))
           go_roundw
           case measure => simp [intOf]; omega
           case rel => exact ⟨jj + 1, (p1, p2), by omega, by go_num, rfl, Lib.hid (HFO.out.trans (ringStep_no HNO.out)), hpl, ⟨t5.out.1⟩⟩
         · have HNO := Lib.hid (show p1.getD x.f0.toNat 0 ≠ 0 ∨ hit r tm p1 m x.f1 = false from .inr HHV.out)
           have b1 : decide ((m : Int) = 1) = true := decide_eq_true (by omega)
           have b2 : ((m : Int) == 1) = true := by simp; omega
           have b3 : decide (1 < (m : Int)) = false := decide_eq_false (by omega)
           have b4 : decide ((1 : Nat) < m) = false := decide_eq_false (by omega)
           have QM := Lib.hid qm
           clear qm
           have e1 : decide (a1 = (tm : Int)) = false := decide_eq_false q1
           have e2 : (a1 == (tm : Int)) = false := by simpa using q1
           have Q1 := Lib.hid q1
           clear q1
           go_wp2_with (first
            | (go_at_call 54; (with_reducible refine (KS.out _ ST3.out).mono ?_); clear g0 g1 g2 g3 g4 g5 g6 g7 g8 g9 ga gz; rintro e w4 ⟨rfl, t4⟩; obtain ⟨⟨g0, g1, g2, g3, g4, g5, g6, g7⟩, g8, g9, ga, gz⟩ := CE3.out _ t4.out)
            | (go_at_call 55; (with_reducible refine (KL.out _ t4.out).mono ?_); clear g0 g1 g2 g3 g4 g5 g6 g7 g8 g9 ga gz; rintro e w5 ⟨rfl, t5⟩; obtain ⟨⟨g0, g1, g2, g3, g4, g5, g6, g7⟩, g8, g9, ga, gz⟩ := CE3.out _ t5.out))
           go_roundw
           case measure => simp [intOf]; omega
           case rel => exact ⟨jj + 1, (p1, p2), by omega, by go_num, rfl, Lib.hid (HFO.out.trans (ringStep_no HNO.out)), hpl, ⟨t5.out.1⟩⟩
         · have HNO := Lib.hid (show p1.getD a 0 = 0 ∧ hit r tm p1 m x.f1 = true from ⟨HVA.out, HHV.out⟩)
           have b1 : decide ((m : Int) = 1) = true := decide_eq_true (by omega)
           have b2 : ((m : Int) == 1) = true := by simp; omega
           have b3 : decide (1 < (m : Int)) = false := decide_eq_false (by omega)
           have b4 : decide ((1 : Nat) < m) = false := decide_eq_false (by omega)
           have QM := Lib.hid qm
           clear qm
           go_wp2_with (first
            | (go_at_call 54; (with_reducible refine (KS.out _ ST3.out).mono ?_); clear g0 g1 g2 g3 g4 g5 g6 g7 g8 g9 ga gz; rintro e w4 ⟨rfl, t4⟩; obtain ⟨⟨g0, g1, g2, g3, g4, g5, g6, g7⟩, g8, g9, ga, gz⟩ := CE3.out _ t4.out)
            | (go_at_call 55; (with_reducible refine (KL.out _ t4.out).mono ?_); clear g0 g1 g2 g3 g4 g5 g6 g7 g8 g9 ga gz; rintro e w5 ⟨rfl, t5⟩; obtain ⟨⟨g0, g1, g2, g3, g4, g5, g6, g7⟩, g8, g9, ga, gz⟩ := CE3.out _ t5.out))
           go_roundw
           case measure => simp [intOf]; omega
           case rel => exact ⟨jj + 1, (p1.set a (m : Int), true), by omega, by go_num, rfl, Lib.hid (HFO.out.trans (ringStep_yes HA.out HNO.out.1 HNO.out.2)), Lib.hid (by rw [List.length_set]; exact hpl.out), ⟨t5.out.1.store a (m : Int)⟩⟩
         · have HNO := Lib.hid (show p1.getD x.f0.toNat 0 ≠ 0 ∨ hit r tm p1 m x.f1 = false from .inr HHV.out)
           have e1 : decide ((m : Int) = 1) = false := decide_eq_false (by omega)
           have e2 : ((m : Int) == 1) = false := by simp; omega
           have e3 : decide (1 < (m : Int)) = true := decide_eq_true (by omega)
           have e4 : decide ((1 : Nat) < m) = true := decide_eq_true q1
           go_wp2_with (first
            | (go_at_call 54; (with_reducible refine (KS.out _ ST3.out).mono ?_); clear g0 g1 g2 g3 g4 g5 g6 g7 g8 g9 ga gz; rintro e w4 ⟨rfl, t4⟩; obtain ⟨⟨g0, g1, g2, g3, g4, g5, g6, g7⟩, g8, g9, ga, gz⟩ := CE3.out _ t4.out)
            | (go_at_call 55; (with_reducible refine (KL.out _ t4.out).mono ?_); clear g0 g1 g2 g3 g4 g5 g6 g7 g8 g9 ga gz; rintro e w5 ⟨rfl, t5⟩; obtain ⟨⟨g0, g1, g2, g3, g4, g5, g6, g7⟩, g8, g9, ga, gz⟩ := CE3.out _ t5.out))
           go_roundw
           case measure => simp [intOf]; omega
           case rel => exact ⟨jj + 1, (p1, p2), by omega, by go_num, rfl, Lib.hid (HFO.out.trans (ringStep_no HNO.out)), hpl, ⟨t5.out.1⟩⟩
         · have e1 : decide ((m : Int) = 1) = false := decide_eq_false (by omega)
           have e2 : ((m : Int) == 1) = false := by simp; omega
           have e3 : decide (1 < (m : Int)) = true := decide_eq_true (by omega)
           have e4 : decide ((1 : Nat) < m) = true := decide_eq_true q1
           rcases q2 with ⟨q2, rfl⟩ | ⟨q2, rfl⟩
           · have HNO := Lib.hid (show p1.getD x.f0.toNat 0 ≠ 0 ∨ hit r tm p1 m x.f1 = false from .inr HHV.out)
             have e5 : decide (p1.getD m' 0 = (m : Int) - 1) = false := decide_eq_false q2
             have e6 : (p1.getD m' 0 == (m : Int) - 1) = false := by simpa using q2
             have Q2 := Lib.hid q2
             clear q2
             have rm := fun W hW => RO.out W hW m' hm'
             generalize p1.getD m' 0 = fm at e5 e6 rm Q2
             have RM := Aside0.mk rm
             clear rm
             go_wp2_with (first
              | (go_at_call 54; (with_reducible refine (KS.out _ ST3.out).mono ?_); clear g0 g1 g2 g3 g4 g5 g6 g7 g8 g9 ga gz; rintro e w4 ⟨rfl, t4⟩; obtain ⟨⟨g0, g1, g2, g3, g4, g5, g6, g7⟩, g8, g9, ga, gz⟩ := CE3.out _ t4.out)
              | (go_at_call 55; (with_reducible refine (KL.out _ t4.out).mono ?_); clear g0 g1 g2 g3 g4 g5 g6 g7 g8 g9 ga gz; rintro e w5 ⟨rfl, t5⟩; obtain ⟨⟨g0, g1, g2, g3, g4, g5, g6, g7⟩, g8, g9, ga, gz⟩ := CE3.out _ t5.out; have gy := RM.out _ t5.out))
             go_roundw
             case measure => simp [intOf]; omega
             case rel => exact ⟨jj + 1, (p1, p2), by omega, by go_num, rfl, Lib.hid (HFO.out.trans (ringStep_no HNO.out)), hpl, ⟨t5.out.1⟩⟩
           · have HNO := Lib.hid (show p1.getD a 0 = 0 ∧ hit r tm p1 m x.f1 = true from ⟨HVA.out, HHV.out⟩)
             have e5 : decide (p1.getD m' 0 = (m : Int) - 1) = true := decide_eq_true q2
             have e6 : (p1.getD m' 0 == (m : Int) - 1) = true := by simpa using q2
             have Q2 := Lib.hid q2
             clear q2
             have rm := fun W hW => RO.out W hW m' hm'
             generalize p1.getD m' 0 = fm at e5 e6 rm Q2
             have RM := Aside0.mk rm
             clear rm
             go_wp2_with (first
              | (go_at_call 54; (with_reducible refine (KS.out _ ST3.out).mono ?_); clear g0 g1 g2 g3 g4 g5 g6 g7 g8 g9 ga gz; rintro e w4 ⟨rfl, t4⟩; obtain ⟨⟨g0, g1, g2, g3, g4, g5, g6, g7⟩, g8, g9, ga, gz⟩ := CE3.out _ t4.out)
              | (go_at_call 55; (with_reducible refine (KL.out _ t4.out).mono ?_); clear g0 g1 g2 g3 g4 g5 g6 g7 g8 g9 ga gz; rintro e w5 ⟨rfl, t5⟩; obtain ⟨⟨g0, g1, g2, g3, g4, g5, g6, g7⟩, g8, g9, ga, gz⟩ := CE3.out _ t5.out; have gy := RM.out _ t5.out))
             go_roundw
             case measure => simp [intOf]; omega
             case rel => exact ⟨jj + 1, (p1.set a (m : Int), true), by omega, by go_num, rfl, Lib.hid (HFO.out.trans (ringStep_yes HA.out HNO.out.1 HNO.out.2)), Lib.hid (by rw [List.length_set]; exact hpl.out), ⟨t5.out.1.store a (m : Int)⟩⟩
       · have HNO := Lib.hid (show p1.getD x.f0.toNat 0 ≠ 0 ∨ hit r tm p1 m x.f1 = false from .inl (by rw [HA.out, Int.toNat_natCast, HVA.out]; exact hz))
         have e1 : decide (va = 0) = false := decide_eq_false hz
         have e2 : (va == 0) = false := by simpa using hz
         have HZ := Lib.hid hz
         clear hz hcase
         go_wp2_with (first
          | (go_at_call 54; (with_reducible refine (KS.out _ ST3.out).mono ?_); clear g0 g1 g2 g3 g4 g5 g6 g7 g8 g9 ga gz; rintro e w4 ⟨rfl, t4⟩; obtain ⟨⟨g0, g1, g2, g3, g4, g5, g6, g7⟩, g8, g9, ga, gz⟩ := CE3.out _ t4.out)
          | (go_at_call 55; (with_reducible refine (KL.out _ t4.out).mono ?_); clear g0 g1 g2 g3 g4 g5 g6 g7 g8 g9 ga gz; rintro e w5 ⟨rfl, t5⟩; obtain ⟨⟨g0, g1, g2, g3, g4, g5, g6, g7⟩, g8, g9, ga, gz⟩ := CE3.out _ t5.out))
         go_roundw
         case measure => simp [intOf]; omega
         case rel => exact ⟨jj + 1, (p1, p2), by omega, by go_num, rfl, Lib.hid (HFO.out.trans (ringStep_no HNO.out)), hpl, ⟨t5.out.1⟩⟩
     · have hjn : jj = l3.length := by omega
       subst hjn
       have hring : ring r tm m l3 far = (p1, p2) := by have := hfo.out; rwa [List.take_length] at this
       have hstep : rings r tm l3 (l1.length + 1 - m) m far = if p2 = true then rings r tm l3 (l1.length - m) (m + 1) p1 else p1 := by
        rw [show l1.length + 1 - m = (l1.length - m) + 1 from by omega, rings, hring]
       cases p2 with
       | true =>
        have HRG := Lib.hid (show rings r tm l3 (l1.length + 1 - (m + 1)) (m + 1) p1 = F by rw [← hrg.out, hstep, if_pos rfl, show l1.length + 1 - (m + 1) = l1.length - m from by omega])
        clear hstep hring
        go_wp2_with fail
        go_roundw
        case measure => simp [intOf]; omega
        case rel => exact ⟨m + 1, p1, by omega, by omega, by go_num, HRG, hpl, tq⟩
       | false =>
        have hpf : p1 = F := by rw [← hrg.out, hstep, if_neg (by decide)]
        have tF : Aside0 (CH w cs w2.heap.size r i tm l1.length F wr) := ⟨hpf ▸ tq.out⟩
        clear hstep hring tq hfo hpl hrg tr hfl hpf f0 f1 f2 f3 f4 f5 f6 f7
        obtain ⟨f0, f1, f2, f3, f4, f5, f6, f7⟩ := CE2.out _ F tF.out
        obtain ⟨ff, fz⟩ := CH.far_at tF.out i hi
        by_cases hz : F.getD i 0 = 0
        · rw [hz] at ff
          have g15 := H15x.out _ tF.out.low
          have HZ := Lib.hid hz
          clear hz
          go_wp2_with fail
          go_quiet (fail)
          go_wp2_with fail
          (try rw [Exit.noGoto_ret])
          refine bodyPost_ret (v := .tuple #[.slice none 0 0, E15]) (by simp [results, Tryd.results15, go_sem]) rfl ⟨pw_below_drewN tF.out.low _, .inl ⟨HZ.out, rfl⟩⟩
        · obtain ⟨d, hd⟩ : ∃ d : Nat, F.getD i 0 = (d : Int) := ⟨(F.getD i 0).toNat, by have := HF.out.rng i hi; omega⟩
          have hdr := (HF.out.rng i hi).resolve_left hz
          have hd1 : 1 ≤ d ∧ d ≤ l1.length := by omega
          rw [hd] at ff
          have e1 : decide ((d : Int) = 0) = false := decide_eq_false (by omega)
          have e2 : ((d : Int) == 0) = false := by simp; omega
          have HZ := Lib.hid hz
          have HD := Lib.hid hd
          have HD1 := Lib.hid hd1
          obtain ⟨hd1', hd2'⟩ := hd1
          have hdb : (d : Int) ≤ 60 := by omega
          clear hz hdr hd
          have ST5 := Aside0.mk (C2.start tF.out d)
          go_wp2_with fail
          go_loopw [21, 22, 23] (fun ch nb _ wq => ∃ (m i' b : Nat) (L : List Int), nb = .pointer (some ⟨b, 0, none⟩) ∧ Hid (L ++ walkC r tm F l3 m i' = walkC r tm F l3 d i) ∧ Hid (m = 0 ∨ (i' < l1.length ∧ F.getD i' 0 = (m : Int))) ∧ m ≤ l1.length ∧ Hid (L.length + m = d) ∧ Aside0 (C2 w cs w2.heap.size r i' tm l1.length F b m ch L wq)) (fun _ nb _ wq => numAt nb wq)
          case atStart => exact ⟨d, i, _, [], rfl, Lib.hid rfl, Lib.hid (.inr ⟨hi, HD.out⟩), by omega, Lib.hid (by simp), ST5⟩
          case round =>
           clear f0 f1 f2 f3 f4 f5 f6 f7 ff fz ST5
           obtain ⟨m, i', b, L, rfl, hwk, hat, hmN, hLm, tq5⟩ := hrel
           obtain ⟨f0, f1, f2, f3, f4, f5, f6, f7⟩ := CE2.out _ F tq5.out.ch
           have fn := Box.cell tq5.out.nb 0 _ rfl
           have ffz := box_frozen tq5.out.nb 0
           have fiz := box_frozen tq5.out.ch.bi 0
           by_cases hm0 : m = 0
           · subst hm0
             obtain ⟨vA, vc, rfl⟩ := Kd.R_slice tq5.out.own
             obtain ⟨hvc, hrd⟩ := (Kd.R_reads' tq5.out.own).2
             have KP := Aside0.mk (Clip_calls vA L.length vc wr hvc (C_max hrd))
             have HL := Lib.hid (show L = walkC r tm F l3 d i by have := hwk.out; simpa [walkC] using this)
             clear hvc hrd
             go_wp2_with (go_at_call 58; (with_reducible refine KP.out.mono ?_); rintro e w6 ⟨rfl, t6⟩; have T6 := Aside0.mk t6; clear t6)
             (try rw [Exit.noGoto_ret])
             have hown := Kd.own_of_R (enc := Value.int .i64) (h1 := fun _ => rfl) tq5.out.own
             have hLd : L.length = d := by have := hLm.out; omega
             obtain ⟨g, cur, rfl, hg, hh, htk⟩ : ∃ g cur, vA = some ⟨g, 0, none⟩ ∧ w.heap.size ≤ g ∧ w6.heap[g]? = some (.cells cur 3 (0, 0)) ∧ cur.toList.take L.length = nums .i64 L := by
              rcases hown.2 with ⟨_, h0⟩ | ⟨g, cap, cur, hv, hb, hh, _, _, _, htk⟩
              · have := HD1.out; omega
              · have e1 : vA = some ⟨g, 0, none⟩ := by injection hv
                refine ⟨g, cur, e1, by have := tq5.out.ch.lt; omega, ?_, by rw [Nat.mul_one] at htk; exact htk⟩
                rw [T6.out.block g (Array.getElem?_eq_some_iff.1 hh).1]; exact hh
             refine bodyPost_ret (v := .tuple #[.slice (some ⟨g, 0, none⟩) L.length L.length, .nilIface]) (by simp [results, Tryd.results15, go_sem]) rfl ⟨tq5.out.ch.low.trans (T6.out.mono tq5.out.ch.low.size), .inr ⟨HZ.out, g, L.length, cur, ?_, rfl, hg, hh, ?_⟩⟩
             · rw [HD.out, Int.toNat_natCast, ← HL.out]
             · rw [HD.out, Int.toNat_natCast, ← HL.out]; exact htk
           · have hm1' : 1 ≤ m := by omega
             obtain ⟨hiN, hFi⟩ := hat.out.resolve_left (by omega)
             obtain ⟨kk, x, hkk, hkl, hkx, k1, k2⟩ := idxC_ex HF.out hiN hFi hm1'
             have hx := HOK.out x (List.mem_of_getElem? hkx)
             have hwk2 : L ++ (((kk : Nat) : Int) :: walkC r tm F l3 (m - 1) (nextC r l3 kk)) = walkC r tm F l3 d i := by
              rw [← hwk.out]
              obtain ⟨m', rfl⟩ : ∃ m', m = m' + 1 := ⟨m - 1, by omega⟩
              rw [Nat.add_sub_cancel, walkC, hkk]
             have kI := Idx_calls w2.heap.size (w.heap.size + 1) b (w.heap.size + 2) (w2.heap.size + 2) (w2.heap.size + 1) r i' m tm l0.length l1.length F l3 A3 c3 wr (CH.cb tq5.out.ch tq5.out.nb) hm1' (by omega) HOK.out (Kd.C_below HR.out tq5.out.ch.low) hc3 h0 h1 (by rw [hkk]; exact hkl)
             rw [hkk] at kI
             have KI : Aside0 (Calls Tryd.prog 56 #[.slice A3 l3.length c3, .func (.func 57) #[] #[.pointer (some ⟨w2.heap.size, 0, none⟩), .pointer (some ⟨w.heap.size + 1, 0, none⟩), .pointer (some ⟨b, 0, none⟩), .pointer (some ⟨w.heap.size + 2, 0, none⟩), .pointer (some ⟨w2.heap.size + 2, 0, none⟩)]] wr fun e w' => e = .returned (.int .i64 (kk : Nat)) ∧ Aside0 (C2 w cs w2.heap.size r i' tm l1.length F b m u21 L w')) := ⟨kI.mono fun _ _ ⟨he, hb⟩ => ⟨he, ⟨tq5.out.below hb⟩⟩⟩
             obtain ⟨ad3, A3', c3', rfl, y0, y1, y2, y3⟩ := at_T41 HR.out (kk : Int) (by omega) (by omega)
             have q0 : rd_T41 l3 (kk : Int) = x := by rw [rdR_D, getD_lt _ _ _ hkl]; exact (List.getElem?_eq_some_iff.1 hkx).2
             rw [Int.toNat_natCast] at y0 y1
             rw [q0] at y0 y1 y2 y3
             have YC : Aside0 (∀ W, Below w.heap.size w W → W.cell? ⟨(ad3.add (kk * 2)).block, (ad3.add (kk * 2)).off + 1, none⟩ = some (.slice A3' x.f1.length c3')) := ⟨fun W hb => (hb.cell (World.block_lt_of_cell? w _ y1)).trans y1⟩
             have hLb : L.length ≤ 60 := by have := hLm.out; omega
             have HWK := Lib.hid hwk2
             have HK2 := Aside0.mk k2
             have HX := Aside0.mk hx
             have HKX := Aside0.mk hkx
             have Y3 := Aside0.mk y3
             have HFI := Lib.hid hFi
             have ARM : Aside0 (∀ {W}, C2 w cs w2.heap.size r i' tm l1.length F b m u21 L W → w2.heap.size + 3 ≤ W.heap.size ∧ b < W.heap.size) := ⟨fun hW => ⟨hW.ch.size, Box.lt hW.nb⟩⟩
             clear hkk k1 k2 hx hkx y0 y1 y2 y3 q0 hwk2 hwk kI hFi hat
             by_cases hm2 : m = 1
             · have e3 : decide (1 < (m : Int)) = false := decide_eq_false (by omega)
               have e4 : decide ((1 : Nat) < m) = false := decide_eq_false (by omega)
               have e5 : decide ((0 : Int) < (m : Int)) = true := decide_eq_true (by omega)
               have e6 : decide ((0 : Nat) < m) = true := decide_eq_true (by omega)
               have HM2 := Lib.hid hm2
               clear hm2
               go_wp2_with (first
                | (go_at_call 56; (with_reducible refine KI.out.mono ?_); clear f0 f1 f2 f3 f4 f5 f6 f7 fn ffz fiz; rintro e w4 ⟨rfl, t4⟩)
                | ((with_reducible refine gate_builtin (b := .append) (xs := #[.tmp 144, .tmp 146]) rfl ?_); at_builtin; go_loud (refine Kd.R_append (Kd.int .i64) (w0 := w4) (w2.heap.size + 3) rfl (.tmp 144) (.tmp 146) 24 3 (.int .i64 0) 8 rfl Tryd.underlying24 infoInt rfl (by decide) (by decide) u21 L (kk : Int) [.int .i64 (kk : Int)] (fun k => k ≠ b) (fun _ => False) rfl rfl rfl (fun _ hk => hk.elim) ?aF t4.out.own (Below.refl _ _) ?aS ?aL ?_; (case aF => exact fun k hk => by have := (ARM.out t4.out).2; omega); (case aS => exact (ARM.out t4.out).1); (case aL => omega); intro v1 w5 hR hB hg hat'; have T5 := Aside0.mk (C2.grown t4.out hg hR); clear hR hB hg hat'; obtain ⟨f0, f1, f2, f3, f4, f5, f6, f7⟩ := CE2.out _ F T5.out.ch; have fn := Box.cell T5.out.nb 0 _ rfl; have ffz := box_frozen T5.out.nb 0; have fiz := box_frozen T5.out.ch.bi 0)))
               refine ⟨⟨m - 1, i', _, L ++ [(kk : Int)], rfl, Lib.hid (by rw [← HWK.out, HM2.out, List.append_assoc]; rfl), Lib.hid (.inl (by have := HM2.out; omega)), by omega, Lib.hid (by have := hLm.out; rw [List.length_append, List.length_singleton]; omega), Aside0.mk (by have := C2.next T5.out (m - 1); rwa [sub1 hm1'] at this)⟩, ?_⟩
               rw [numAt_box tq5.out.nb, ← sub1 hm1', numAt_box (Box.new w5 #[.int .i64 ((m - 1 : Nat) : Int)] 3)]
               omega
             · have hm3 : 2 ≤ m := by omega
               obtain ⟨n1, n2, n3⟩ := next_ex HF.out HOK.out HKX.out HK2.out hm3
               obtain ⟨jn, hjn⟩ : ∃ jn, nextC r l3 kk = jn := ⟨_, rfl⟩
               rw [hjn] at n1 n2 n3
               have hlv : leV r x.f1 = ((jn : Int), true) := by unfold leV; rw [n3]
               have hll : ∀ s ∈ x.f1, (-9223372036854775808 : Int) ≤ s := fun s hs => by have := ((okR_sides HX.out).2.2.2 s hs).2; omega
               have kL : ∀ W, Below w.heap.size w W → Calls Tryd.prog 55 #[.func (.func fk) #[] #[], .slice A3' x.f1.length c3'] W fun e w' => e = .returned (.tuple #[.int .i64 (jn : Int), .bool true]) ∧ Below W.heap.size W w' := fun W hb => by
                have := Leads_calls r x.f1 A3' c3' W (Kd.C_below Y3.out hb) hll
                rw [hlv, HFK.out] at this
                exact this
               have HWJ := Lib.hid (show L ++ (((kk : Nat) : Int) :: walkC r tm F l3 (m - 1) jn) = walkC r tm F l3 d i by rw [← hjn]; exact HWK.out)
               have HN1 := Lib.hid n1
               have HN2 := Lib.hid n2
               have KL0 := Aside0.mk kL
               clear kL hll hlv n1 n2 n3 hjn
               have e3 : decide (1 < (m : Int)) = true := decide_eq_true (by omega)
               have e4 : decide ((1 : Nat) < m) = true := decide_eq_true (by omega)
               have e5 : decide ((0 : Int) < (m : Int)) = true := decide_eq_true (by omega)
               have e6 : decide ((0 : Nat) < m) = true := decide_eq_true (by omega)
               go_wp2_with (first
                | (go_at_call 56; (with_reducible refine KI.out.mono ?_); clear f0 f1 f2 f3 f4 f5 f6 f7 fn ffz fiz; rintro e w4 ⟨rfl, t4⟩)
                | ((with_reducible refine gate_builtin (b := .append) (xs := #[.tmp 144, .tmp 146]) rfl ?_); at_builtin; go_loud (refine Kd.R_append (Kd.int .i64) (w0 := w4) (w2.heap.size + 3) rfl (.tmp 144) (.tmp 146) 24 3 (.int .i64 0) 8 rfl Tryd.underlying24 infoInt rfl (by decide) (by decide) u21 L (kk : Int) [.int .i64 (kk : Int)] (fun k => k ≠ b) (fun _ => False) rfl rfl rfl (fun _ hk => hk.elim) ?aF t4.out.own (Below.refl _ _) ?aS ?aL ?_; (case aF => exact fun k hk => by have := (ARM.out t4.out).2; omega); (case aS => exact (ARM.out t4.out).1); (case aL => omega); intro v1 w5 hR hB hg hat'; have T5 := Aside0.mk (C2.grown t4.out hg hR); clear hR hB hg hat'; obtain ⟨f0, f1, f2, f3, f4, f5, f6, f7⟩ := CE2.out _ F T5.out.ch; have fn := Box.cell T5.out.nb 0 _ rfl; have ffz := box_frozen T5.out.nb 0; have fiz := box_frozen T5.out.ch.bi 0; have fy := YC.out _ T5.out.ch.low)))
               have KL5 : Aside0 (∀ {W}, C2 w cs w2.heap.size r i' tm l1.length F b m v1 (L ++ [(kk : Int)]) W → Calls Tryd.prog 55 #[.func (.func fk) #[] #[], .slice A3' x.f1.length c3'] W fun e w' => e = .returned (.tuple #[.int .i64 (jn : Int), .bool true]) ∧ Aside0 (C2 w cs w2.heap.size r i' tm l1.length F b m v1 (L ++ [(kk : Int)]) w') ∧ w'.cell? ⟨w2.heap.size, 0, none⟩ = some (.func (.func fk) #[] #[]) ∧ w'.cell? ⟨w.heap.size, 3, none⟩ = some (.slice (some ad3) l3.length c3) ∧ w'.cell? ⟨(ad3.add (kk * 2)).block, (ad3.add (kk * 2)).off + 1, none⟩ = some (.slice A3' x.f1.length c3') ∧ w'.cell? ⟨w.heap.size + 1, 0, none⟩ = some (.int .i64 (i' : Int)) ∧ w'.frozen? ⟨w.heap.size + 1, 0, none⟩ = false) := ⟨fun hW => (KL0.out _ hW.ch.low).mono fun _ _ ⟨he, hb⟩ => by
                have h' := hW.below hb
                obtain ⟨g0, g1, g2, g3, g4, g5, g6, g7⟩ := CE2.out _ F h'.ch
                exact ⟨he, ⟨h'⟩, g6, g3, YC.out _ h'.ch.low, g4, box_frozen h'.ch.bi 0⟩⟩
               have CSO : Aside0 (∀ (W : World) (u : Value), (W.setCell ⟨w.heap.size + 1, 0, none⟩ u).cell? ⟨w2.heap.size, 0, none⟩ = W.cell? ⟨w2.heap.size, 0, none⟩ ∧ (W.setCell ⟨w.heap.size + 1, 0, none⟩ u).cell? ⟨w.heap.size, 3, none⟩ = W.cell? ⟨w.heap.size, 3, none⟩ ∧ (W.setCell ⟨w.heap.size + 1, 0, none⟩ u).cell? ⟨(ad3.add (kk * 2)).block, (ad3.add (kk * 2)).off + 1, none⟩ = W.cell? ⟨(ad3.add (kk * 2)).block, (ad3.add (kk * 2)).off + 1, none⟩) := by
                have l1 := T5.out.ch.lt
                have l2 := World.block_lt_of_cell? w _ (YC.out w (Below.refl _ _))
                refine ⟨fun W u => ⟨?_, ?_, ?_⟩⟩ <;> refine World.cell?_setCell_other _ _ _ _ (fun e => ?_) <;> injection e with e1 e2 <;> omega
               go_region_held3 (fun W' => W'.cell? ⟨w2.heap.size, 0, none⟩ = some (.func (.func fk) #[] #[]) ∧ W'.cell? ⟨w.heap.size, 3, none⟩ = some (.slice (some ad3) l3.length c3) ∧ W'.cell? ⟨(ad3.add (kk * 2)).block, (ad3.add (kk * 2)).off + 1, none⟩ = some (.slice A3' x.f1.length c3'))
                (first | (go_keep; done) | exact ⟨(CSO.out _ _).1.trans g6, (CSO.out _ _).2.1.trans g3, (CSO.out _ _).2.2.trans gy⟩)
                ((go_at_call 55; (with_reducible refine (KL5.out ?_).mono ?_); exact (by first | exact T5.out | exact T5.out.below (Below.refl _ _).drew | exact T5.out.below (pw_below_drewN (Below.refl _ _) _)); rintro e w6 ⟨rfl, t6, g6, g3, gy, g4, gz⟩))
               have T7 := Aside0.mk (t6.out.putI jn)
               clear f0 f1 f2 f3 f4 f5 f6 f7 fn ffz fiz fy g6 g3 gy g4 gz CSO
               generalize w6.setCell ⟨w.heap.size + 1, 0, none⟩ (.int .i64 (jn : Int)) = w7 at T7 ⊢
               have fn := Box.cell T7.out.nb 0 _ rfl
               have ffz := box_frozen T7.out.nb 0
               go_wp2_with fail
               refine ⟨⟨m - 1, jn, _, L ++ [(kk : Int)], rfl, Lib.hid (by rw [← HWJ.out, List.append_assoc]; rfl), Lib.hid (.inr ⟨HN1.out, HN2.out⟩), by omega, Lib.hid (by have := hLm.out; rw [List.length_append, List.length_singleton]; omega), Aside0.mk (by have := C2.next T7.out (m - 1); rwa [sub1 hm1'] at this)⟩, ?_⟩
               rw [numAt_box tq5.out.nb, ← sub1 hm1', numAt_box (Box.new w7 #[.int .i64 ((m - 1 : Nat) : Int)] 3)]
               omega
  · have hpf : far = F := by rw [← hrg.out, show l1.length + 1 - m = 0 from by omega]; rfl
    have tF : Aside0 (CH w cs w2.heap.size r i tm l1.length F wo) := ⟨hpf ▸ tr.out⟩
    clear hrg hfl tr hpf f0 f1 f2 f3 f4 f5 f6 f7
    obtain ⟨f0, f1, f2, f3, f4, f5, f6, f7⟩ := CE2.out _ F tF.out
    obtain ⟨ff, fz⟩ := CH.far_at tF.out i hi
    by_cases hz : F.getD i 0 = 0
    · rw [hz] at ff
      have g15 := H15x.out _ tF.out.low
      have HZ := Lib.hid hz
      clear hz
      go_wp2_with fail
      go_quiet (fail)
      go_wp2_with fail
      (try rw [Exit.noGoto_ret])
      refine bodyPost_ret (v := .tuple #[.slice none 0 0, E15]) (by simp [results, Tryd.results15, go_sem]) rfl ⟨pw_below_drewN tF.out.low _, .inl ⟨HZ.out, rfl⟩⟩
    · obtain ⟨d, hd⟩ : ∃ d : Nat, F.getD i 0 = (d : Int) := ⟨(F.getD i 0).toNat, by have := HF.out.rng i hi; omega⟩
      have hdr := (HF.out.rng i hi).resolve_left hz
      have hd1 : 1 ≤ d ∧ d ≤ l1.length := by omega
      rw [hd] at ff
      have e1 : decide ((d : Int) = 0) = false := decide_eq_false (by omega)
      have e2 : ((d : Int) == 0) = false := by simp; omega
      have HZ := Lib.hid hz
      have HD := Lib.hid hd
      have HD1 := Lib.hid hd1
      obtain ⟨hd1', hd2'⟩ := hd1
      have hdb : (d : Int) ≤ 60 := by omega
      clear hz hdr hd
      have ST5 := Aside0.mk (C2.start tF.out d)
      go_wp2_with fail
      go_loopw [21, 22, 23] (fun ch nb _ wq => ∃ (m i' b : Nat) (L : List Int), nb = .pointer (some ⟨b, 0, none⟩) ∧ Hid (L ++ walkC r tm F l3 m i' = walkC r tm F l3 d i) ∧ Hid (m = 0 ∨ (i' < l1.length ∧ F.getD i' 0 = (m : Int))) ∧ m ≤ l1.length ∧ Hid (L.length + m = d) ∧ Aside0 (C2 w cs w2.heap.size r i' tm l1.length F b m ch L wq)) (fun _ nb _ wq => numAt nb wq)
      case atStart => exact ⟨d, i, _, [], rfl, Lib.hid rfl, Lib.hid (.inr ⟨hi, HD.out⟩), by omega, Lib.hid (by simp), ST5⟩
      case round =>
       clear f0 f1 f2 f3 f4 f5 f6 f7 ff fz ST5
       obtain ⟨m, i', b, L, rfl, hwk, hat, hmN, hLm, tq5⟩ := hrel
       obtain ⟨f0, f1, f2, f3, f4, f5, f6, f7⟩ := CE2.out _ F tq5.out.ch
       have fn := Box.cell tq5.out.nb 0 _ rfl
       have ffz := box_frozen tq5.out.nb 0
       have fiz := box_frozen tq5.out.ch.bi 0
       by_cases hm0 : m = 0
       · subst hm0
         obtain ⟨vA, vc, rfl⟩ := Kd.R_slice tq5.out.own
         obtain ⟨hvc, hrd⟩ := (Kd.R_reads' tq5.out.own).2
         have KP := Aside0.mk (Clip_calls vA L.length vc wr hvc (C_max hrd))
         have HL := Lib.hid (show L = walkC r tm F l3 d i by have := hwk.out; simpa [walkC] using this)
         clear hvc hrd
         go_wp2_with (go_at_call 58; (with_reducible refine KP.out.mono ?_); rintro e w6 ⟨rfl, t6⟩; have T6 := Aside0.mk t6; clear t6)
         (try rw [Exit.noGoto_ret])
         have hown := Kd.own_of_R (enc := Value.int .i64) (h1 := fun _ => rfl) tq5.out.own
         have hLd : L.length = d := by have := hLm.out; omega
         obtain ⟨g, cur, rfl, hg, hh, htk⟩ : ∃ g cur, vA = some ⟨g, 0, none⟩ ∧ w.heap.size ≤ g ∧ w6.heap[g]? = some (.cells cur 3 (0, 0)) ∧ cur.toList.take L.length = nums .i64 L := by
          rcases hown.2 with ⟨_, h0⟩ | ⟨g, cap, cur, hv, hb, hh, _, _, _, htk⟩
          · have := HD1.out; omega
          · have e1 : vA = some ⟨g, 0, none⟩ := by injection hv
            refine ⟨g, cur, e1, by have := tq5.out.ch.lt; omega, ?_, by rw [Nat.mul_one] at htk; exact htk⟩
            rw [T6.out.block g (Array.getElem?_eq_some_iff.1 hh).1]; exact hh
         refine bodyPost_ret (v := .tuple #[.slice (some ⟨g, 0, none⟩) L.length L.length, .nilIface]) (by simp [results, Tryd.results15, go_sem]) rfl ⟨tq5.out.ch.low.trans (T6.out.mono tq5.out.ch.low.size), .inr ⟨HZ.out, g, L.length, cur, ?_, rfl, hg, hh, ?_⟩⟩
         · rw [HD.out, Int.toNat_natCast, ← HL.out]
         · rw [HD.out, Int.toNat_natCast, ← HL.out]; exact htk
       · have hm1' : 1 ≤ m := by omega
         obtain ⟨hiN, hFi⟩ := hat.out.resolve_left (by omega)
         obtain ⟨kk, x, hkk, hkl, hkx, k1, k2⟩ := idxC_ex HF.out hiN hFi hm1'
         have hx := HOK.out x (List.mem_of_getElem? hkx)
         have hwk2 : L ++ (((kk : Nat) : Int) :: walkC r tm F l3 (m - 1) (nextC r l3 kk)) = walkC r tm F l3 d i := by
          rw [← hwk.out]
          obtain ⟨m', rfl⟩ : ∃ m', m = m' + 1 := ⟨m - 1, by omega⟩
          rw [Nat.add_sub_cancel, walkC, hkk]
         have kI := Idx_calls w2.heap.size (w.heap.size + 1) b (w.heap.size + 2) (w2.heap.size + 2) (w2.heap.size + 1) r i' m tm l0.length l1.length F l3 A3 c3 wr (CH.cb tq5.out.ch tq5.out.nb) hm1' (by omega) HOK.out (Kd.C_below HR.out tq5.out.ch.low) hc3 h0 h1 (by rw [hkk]; exact hkl)
         rw [hkk] at kI
         have KI : Aside0 (Calls Tryd.prog 56 #[.slice A3 l3.length c3, .func (.func 57) #[] #[.pointer (some ⟨w2.heap.size, 0, none⟩), .pointer (some ⟨w.heap.size + 1, 0, none⟩), .pointer (some ⟨b, 0, none⟩), .pointer (some ⟨w.heap.size + 2, 0, none⟩), .pointer (some ⟨w2.heap.size + 2, 0, none⟩)]] wr fun e w' => e = .returned (.int .i64 (kk : Nat)) ∧ Aside0 (C2 w cs w2.heap.size r i' tm l1.length F b m u21 L w')) := ⟨kI.mono fun _ _ ⟨he, hb⟩ => ⟨he, ⟨tq5.out.below hb⟩⟩⟩
         obtain ⟨ad3, A3', c3', rfl, y0, y1, y2, y3⟩ := at_T41 HR.out (kk : Int) (by omega) (by omega)
         have q0 : rd_T41 l3 (kk : Int) = x := by rw [rdR_D, getD_lt _ _ _ hkl]; exact (List.getElem?_eq_some_iff.1 hkx).2
         rw [Int.toNat_natCast] at y0 y1
         rw [q0] at y0 y1 y2 y3
         have YC : Aside0 (∀ W, Below w.heap.size w W → W.cell? ⟨(ad3.add (kk * 2)).block, (ad3.add (kk * 2)).off + 1, none⟩ = some (.slice A3' x.f1.length c3')) := ⟨fun W hb => (hb.cell (World.block_lt_of_cell? w _ y1)).trans y1⟩
         have hLb : L.length ≤ 60 := by have := hLm.out; omega
         have HWK := Lib.hid hwk2
         have HK2 := Aside0.mk k2
         have HX := Aside0.mk hx
         have HKX := Aside0.mk hkx
         have Y3 := Aside0.mk y3
         have HFI := Lib.hid hFi
         have ARM : Aside0 (∀ {W}, C2 w cs w2.heap.size r i' tm l1.length F b m u21 L W → w2.heap.size + 3 ≤ W.heap.size ∧ b < W.heap.size) := ⟨fun hW => ⟨hW.ch.size, Box.lt hW.nb⟩⟩
         clear hkk k1 k2 hx hkx y0 y1 y2 y3 q0 hwk2 hwk kI hFi hat
         by_cases hm2 : m = 1
         · have e3 : decide (1 < (m : Int)) = false := decide_eq_false (by omega)
           have e4 : decide ((1 : Nat) < m) = false := decide_eq_false (by omega)
           have e5 : decide ((0 : Int) < (m : Int)) = true := decide_eq_true (by omega)
           have e6 : decide ((0 : Nat) < m) = true := decide_eq_true (by omega)
           have HM2 := Lib.hid hm2
           clear hm2
           go_wp2_with (first
            | (go_at_call 56; (with_reducible refine KI.out.mono ?_); clear f0 f1 f2 f3 f4 f5 f6 f7 fn ffz fiz; rintro e w4 ⟨rfl, t4⟩)
            | ((with_reducible refine gate_builtin (b := .append) (xs := #[.tmp 144, .tmp 146]) rfl ?_); at_builtin; go_loud (refine Kd.R_append (Kd.int .i64) (w0 := w4) (w2.heap.size + 3) rfl (.tmp 144) (.tmp 146) 24 3 (.int .i64 0) 8 rfl Tryd.underlying24 infoInt rfl (by decide) (by decide) u21 L (kk : Int) [.int .i64 (kk : Int)] (fun k => k ≠ b) (fun _ => False) rfl rfl rfl (fun _ hk => hk.elim) ?aF t4.out.own (Below.refl _ _) ?aS ?aL ?_; (case aF => exact fun k hk => by have := (ARM.out t4.out).2; omega); (case aS => exact (ARM.out t4.out).1); (case aL => omega); intro v1 w5 hR hB hg hat'; have T5 := Aside0.mk (C2.grown t4.out hg hR); clear hR hB hg hat'; obtain ⟨f0, f1, f2, f3, f4, f5, f6, f7⟩ := CE2.out _ F T5.out.ch; have fn := Box.cell T5.out.nb 0 _ rfl; have ffz := box_frozen T5.out.nb 0; have fiz := box_frozen T5.out.ch.bi 0)))
           refine ⟨⟨m - 1, i', _, L ++ [(kk : Int)], rfl, Lib.hid (by rw [← HWK.out, HM2.out, List.append_assoc]; rfl), Lib.hid (.inl (by have := HM2.out; omega)), by omega, Lib.hid (by have := hLm.out; rw [List.length_append, List.length_singleton]; omega), Aside0.mk (by have := C2.next T5.out (m - 1); rwa [sub1 hm1'] at this)⟩, ?_⟩
           rw [numAt_box tq5.out.nb, ← sub1 hm1', numAt_box (Box.new w5 #[.int .i64 ((m - 1 : Nat) : Int)] 3)]
           omega
         · have hm3 : 2 ≤ m := by omega
           obtain ⟨n1, n2, n3⟩ := next_ex HF.out HOK.out HKX.out HK2.out hm3
           obtain ⟨jn, hjn⟩ : ∃ jn, nextC r l3 kk = jn := ⟨_, rfl⟩
           rw [hjn] at n1 n2 n3
           have hlv : leV r x.f1 = ((jn : Int), true) := by unfold leV; rw [n3]
           have hll : ∀ s ∈ x.f1, (-9223372036854775808 : Int) ≤ s := fun s hs => by have := ((okR_sides HX.out).2.2.2 s hs).2; omega
           have kL : ∀ W, Below w.heap.size w W → Calls Tryd.prog 55 #[.func (.func fk) #[] #[], .slice A3' x.f1.length c3'] W fun e w' => e = .returned (.tuple #[.int .i64 (jn : Int), .bool true]) ∧ Below W.heap.size W w' := fun W hb => by
            have := Leads_calls r x.f1 A3' c3' W (Kd.C_below Y3.out hb) hll
            rw [hlv, HFK.out] at this
            exact this
           have HWJ := Lib.hid (show L ++ (((kk : Nat) : Int) :: walkC r tm F l3 (m - 1) jn) = walkC r tm F l3 d i by rw [← hjn]; exact HWK.out)
           have HN1 := Lib.hid n1
           have HN2 := Lib.hid n2
           have KL0 := Aside0.mk kL
           clear kL hll hlv n1 n2 n3 hjn
           have e3 : decide (1 < (m : Int)) = true := decide_eq_true (by omega)
           have e4 : decide ((1 : Nat) < m) = true := decide_eq_true (by omega)
           have e5 : decide ((0 : Int) < (m : Int)) = true := decide_eq_true (by omega)
           have e6 : decide ((0 : Nat) < m) = true := decide_eq_true (by omega)
           go_wp2_with (first
            | (go_at_call 56; (with_reducible refine KI.out.mono ?_); clear f0 f1 f2 f3 f4 f5 f6 f7 fn ffz fiz; rintro e w4 ⟨rfl, t4⟩)
            | ((with_reducible refine gate_builtin (b := .append) (xs := #[.tmp 144, .tmp 146]) rfl ?_); at_builtin; go_loud (refine Kd.R_append (Kd.int .i64) (w0 := w4) (w2.heap.size + 3) rfl (.tmp 144) (.tmp 146) 24 3 (.int .i64 0) 8 rfl Tryd.underlying24 infoInt rfl (by decide) (by decide) u21 L (kk : Int) [.int .i64 (kk : Int)] (fun k => k ≠ b) (fun _ => False) rfl rfl rfl (fun _ hk => hk.elim) ?aF t4.out.own (Below.refl _ _) ?aS ?aL ?_; (case aF => exact fun k hk => by have := (ARM.out t4.out).2; omega); (case aS => exact (ARM.out t4.out).1); (case aL => omega); intro v1 w5 hR hB hg hat'; have T5 := Aside0.mk (C2.grown t4.out hg hR); clear hR hB hg hat'; obtain ⟨f0, f1, f2, f3, f4, f5, f6, f7⟩ := CE2.out _ F T5.out.ch; have fn := Box.cell T5.out.nb 0 _ rfl; have ffz := box_frozen T5.out.nb 0; have fiz := box_frozen T5.out.ch.bi 0; have fy := YC.out _ T5.out.ch.low)))
           have KL5 : Aside0 (∀ {W}, C2 w cs w2.heap.size r i' tm l1.length F b m v1 (L ++ [(kk : Int)]) W → Calls Tryd.prog 55 #[.func (.func fk) #[] #[], .slice A3' x.f1.length c3'] W fun e w' => e = .returned (.tuple #[.int .i64 (jn : Int), .bool true]) ∧ Aside0 (C2 w cs w2.heap.size r i' tm l1.length F b m v1 (L ++ [(kk : Int)]) w') ∧ w'.cell? ⟨w2.heap.size, 0, none⟩ = some (.func (.func fk) #[] #[]) ∧ w'.cell? ⟨w.heap.size, 3, none⟩ = some (.slice (some ad3) l3.length c3) ∧ w'.cell? ⟨(ad3.add (kk * 2)).block, (ad3.add (kk * 2)).off + 1, none⟩ = some (.slice A3' x.f1.length c3') ∧ w'.cell? ⟨w.heap.size + 1, 0, none⟩ = some (.int .i64 (i' : Int)) ∧ w'.frozen? ⟨w.heap.size + 1, 0, none⟩ = false) := ⟨fun hW => (KL0.out _ hW.ch.low).mono fun _ _ ⟨he, hb⟩ => by
            have h' := hW.below hb
            obtain ⟨g0, g1, g2, g3, g4, g5, g6, g7⟩ := CE2.out _ F h'.ch
            exact ⟨he, ⟨h'⟩, g6, g3, YC.out _ h'.ch.low, g4, box_frozen h'.ch.bi 0⟩⟩
           have CSO : Aside0 (∀ (W : World) (u : Value), (W.setCell ⟨w.heap.size + 1, 0, none⟩ u).cell? ⟨w2.heap.size, 0, none⟩ = W.cell? ⟨w2.heap.size, 0, none⟩ ∧ (W.setCell ⟨w.heap.size + 1, 0, none⟩ u).cell? ⟨w.heap.size, 3, none⟩ = W.cell? ⟨w.heap.size, 3, none⟩ ∧ (W.setCell ⟨w.heap.size + 1, 0, none⟩ u).cell? ⟨(ad3.add (kk * 2)).block, (ad3.add (kk * 2)).off + 1, none⟩ = W.cell? ⟨(ad3.add (kk * 2)).block, (ad3.add (kk * 2)).off + 1, none⟩) := by
            have l1 := T5.out.ch.lt
            have l2 := World.block_lt_of_cell? w _ (YC.out w (Below.refl _ _))
            refine ⟨fun W u => ⟨?_, ?_, ?_⟩⟩ <;> refine World.cell?_setCell_other _ _ _ _ (fun e => ?_) <;> injection e with e1 e2 <;> omega
           go_region_held3 (fun W' => W'.cell? ⟨w2.heap.size, 0, none⟩ = some (.func (.func fk) #[] #[]) ∧ W'.cell? ⟨w.heap.size, 3, none⟩ = some (.slice (some ad3) l3.length c3) ∧ W'.cell? ⟨(ad3.add (kk * 2)).block, (ad3.add (kk * 2)).off + 1, none⟩ = some (.slice A3' x.f1.length c3'))
            (first | (go_keep; done) | exact ⟨(CSO.out _ _).1.trans g6, (CSO.out _ _).2.1.trans g3, (CSO.out _ _).2.2.trans gy⟩)
            ((go_at_call 55; (with_reducible refine (KL5.out ?_).mono ?_); exact (by first | exact T5.out | exact T5.out.below (Below.refl _ _).drew | exact T5.out.below (pw_below_drewN (Below.refl _ _) _)); rintro e w6 ⟨rfl, t6, g6, g3, gy, g4, gz⟩))
           have T7 := Aside0.mk (t6.out.putI jn)
           clear f0 f1 f2 f3 f4 f5 f6 f7 fn ffz fiz fy g6 g3 gy g4 gz CSO
           generalize w6.setCell ⟨w.heap.size + 1, 0, none⟩ (.int .i64 (jn : Int)) = w7 at T7 ⊢
           have fn := Box.cell T7.out.nb 0 _ rfl
           have ffz := box_frozen T7.out.nb 0
           go_wp2_with fail
           refine ⟨⟨m - 1, jn, _, L ++ [(kk : Int)], rfl, Lib.hid (by rw [← HWJ.out, List.append_assoc]; rfl), Lib.hid (.inr ⟨HN1.out, HN2.out⟩), by omega, Lib.hid (by have := hLm.out; rw [List.length_append, List.length_singleton]; omega), Aside0.mk (by have := C2.next T7.out (m - 1); rwa [sub1 hm1'] at this)⟩, ?_⟩
           rw [numAt_box tq5.out.nb, ← sub1 hm1', numAt_box (Box.new w7 #[.int .i64 ((m - 1 : Nat) : Int)] 3)]
           omega
end Go.Proofs.YtjkifeladmhkoaaDoor.E8
/- errors.Is at a rule error, after the kit's worked example. -/
namespace Go.Proofs.YtjkifeladmhkoaaDoor.E
open Go.RowKit Go.Extern.Stop Go.Stop Go.Extern
theorem noIsWR (v : Value) (xT : TypeId) (w : World) : (Instr.typeAssert (.iface 119 v) xT 172 true).run Tryd.prog w = .ok (.tuple #[.nilIface, .bool false]) w := run_typeAssert_lacksB Tryd.underlying172 (by kernel_rfl) (by kernel_rfl) v xT w
theorem hasUnwrapWR (v : Value) (xT : TypeId) (w : World) : (Instr.typeAssert (.iface 119 v) xT 175 true).run Tryd.prog w = .ok (.tuple #[.iface 119 v, .bool true]) w := run_typeAssert_hasB Tryd.underlying175 (by kernel_rfl) v xT w
theorem methodUnwrapR (v : Value) (w : World) : (Go.method 323 119 v "Unwrap").run Tryd.prog w = .ok (130, v) w := by kernel_rfl

theorem isR_same (pb po : Nat) (b : Addr) (w : World) (h1 : w.cell? ⟨pb, po + 1, none⟩ = some (.iface 190 (.pointer (some b)))) :
 Calls Tryd.prog 60 #[.iface 119 (.pointer (some ⟨pb, po, none⟩)), .iface 190 (.pointer (some b))] w fun e w' => e = .returned (.bool true) ∧ w = w' := by
 obtain ⟨i, hi, hcmp⟩ := Option.map_eq_some_iff.1 isComp
 obtain ⟨j, hj, hjs⟩ := Option.map_eq_some_iff.1 isSize
 have h8 := @run_callFunc_extern Tryd.prog 85 _ Extern.ReflectliteType.typeOf Tryd.func85 (by kernel_rfl) (by kernel_rfl) (by kernel_rfl) (by kernel_rfl)
 have h32 := @run_callFunc_extern Tryd.prog 136 _ compF Tryd.func136 (by kernel_rfl) (by kernel_rfl) (by kernel_rfl) (by kernel_rfl)
 have tT := isTypeOf
 have cT := isComparable
 have mR := isMethodComparable
 have nE := noIsE
 have uE := noUnwrapE
 have vE := noUnwrapsE
 have nW := noIsWR
 have uW := hasUnwrapWR
 have mU := methodUnwrapR
 have heq := run_eql_iface_ptr_same (P := Tryd.prog) w b Tryd.underlying26 Tryd.underlying190 hi hcmp hj
 have hty := run_eql_iface_types (P := Tryd.prog) 119 190 (.pointer (some ⟨pb, po, none⟩)) (.pointer (some b)) Tryd.underlying26 (by decide) w
 go_enter Tryd.func60, Tryd.ntmps60
 go_wp2
 refine wp_loop_rounds 2 ?_
 rw [rounds_succ]
 go_wp2
 rw [rounds_succ]
 go_wp2
 go_ret
 exact ⟨rfl, rfl⟩

theorem isR_other (pb po : Nat) (b a : Addr) (ca cb : Array Value) (ta tb : TypeId) (w : World) (h1 : w.cell? ⟨pb, po + 1, none⟩ = some (.iface 190 (.pointer (some a)))) (hne : a ≠ b) (ha : w.heap[a.block]? = some (.cells ca ta (0, 0))) (hb : w.heap[b.block]? = some (.cells cb tb (0, 0))) :
 Calls Tryd.prog 60 #[.iface 119 (.pointer (some ⟨pb, po, none⟩)), .iface 190 (.pointer (some b))] w fun e w' => e = .returned (.bool false) ∧ w = w' := by
 obtain ⟨i, hi, hcmp⟩ := Option.map_eq_some_iff.1 isComp
 obtain ⟨j, hj, hjs⟩ := Option.map_eq_some_iff.1 isSize
 have h8 := @run_callFunc_extern Tryd.prog 85 _ Extern.ReflectliteType.typeOf Tryd.func85 (by kernel_rfl) (by kernel_rfl) (by kernel_rfl) (by kernel_rfl)
 have h32 := @run_callFunc_extern Tryd.prog 136 _ compF Tryd.func136 (by kernel_rfl) (by kernel_rfl) (by kernel_rfl) (by kernel_rfl)
 have tT := isTypeOf
 have cT := isComparable
 have mR := isMethodComparable
 have nE := noIsE
 have uE := noUnwrapE
 have vE := noUnwrapsE
 have nW := noIsWR
 have uW := hasUnwrapWR
 have mU := methodUnwrapR
 have heq := run_eql_iface_ptr_other (P := Tryd.prog) w Tryd.underlying26 Tryd.underlying190 hi hcmp hj (by rw [hjs]; decide) hne ha hb
 have hty := run_eql_iface_types (P := Tryd.prog) 119 190 (.pointer (some ⟨pb, po, none⟩)) (.pointer (some b)) Tryd.underlying26 (by decide) w
 go_enter Tryd.func60, Tryd.ntmps60
 go_wp2
 refine wp_loop_rounds 2 ?_
 rw [rounds_succ]
 go_wp2
 rw [rounds_succ]
 go_wp2
 go_ret
 exact ⟨rfl, rfl⟩
end Go.Proofs.YtjkifeladmhkoaaDoor.E
/- errors.As at a rule error, after the kit's worked example. -/
namespace Go.Proofs.YtjkifeladmhkoaaDoor.E
open Go.RowKit Go.Extern.Stop Go.Stop Go.Extern

theorem as_nilR (t : Value) (w : World) :
 Calls Tryd.prog 67 #[.nilIface, t] w fun e w' => e = .returned (.bool false) ∧ w' = w := by
 go_enter Tryd.func67, Tryd.ntmps67
 go_wp2
 go_ret
 exact ⟨rfl, rfl⟩

theorem valueOf27R (t : Addr) (w : World) : (ReflectliteValue.unpack (.iface 121 (.pointer (some t)))).run Tryd.prog w
 = .ok (.agg #[.pointer (some ⟨17, 121, none⟩), .pointer (some ⟨w.heap.size, 0, none⟩), .int .u64 150]) (w.alloc (.cells #[.pointer (some t)] 121)) := by kernel_rfl
theorem type27R (a : Addr) (w : World) : (ReflectliteValue.methodAny (ReflectliteValue.valueError "reflectlite.Value.Type" 0) (fun t _ _ _ => ReflectliteType.toType t) #[.agg #[.pointer (some ⟨17, 121, none⟩), .pointer (some a), .int .u64 150]]).run Tryd.prog w
 = .ok (.iface 170 (.agg #[.pointer (some ⟨17, 121, none⟩)])) w := by kernel_rfl
theorem methodKindR (h : Value) (w : World) : (Go.method 323 170 (.agg #[h]) "Kind").run Tryd.prog w = .ok (126, h) w := by kernel_rfl
theorem kind27R (w : World) : ((ReflectliteType.abiMethod fun t => (fun a : Nat => Value.int IntKind.u8 (a : Int)) <$> Rtype.kind t) #[.pointer (some ⟨17, 121, none⟩)]).run Tryd.prog w = .ok (.int .u8 22) w := by kernel_rfl
theorem kind25R (w : World) : ((ReflectliteType.abiMethod fun t => (fun a : Nat => Value.int IntKind.u8 (a : Int)) <$> Rtype.kind t) #[.pointer (some ⟨17, 119, none⟩)]).run Tryd.prog w = .ok (.int .u8 22) w := by kernel_rfl

theorem rlmR (z : Sem Value) (f : TypeId → Addr → Nat → Nat → Sem Value) (v : Value) :
 ReflectliteValue.method z f #[v] = (do match ← ReflectliteValue.parts v with | none => z | some (t, a, fl) => f t a fl (fl % 32)) := rfl
theorem parts27R (a : Addr) (w : World) : (ReflectliteValue.parts (.agg #[.pointer (some ⟨17, 121, none⟩), .pointer (some a), .int .u64 150])).run Tryd.prog w = .ok (some (121, a, 150)) w := by kernel_rfl
theorem isNil27R (a p : Addr) (W : World) (ha : W.cell? a = some (.pointer (some p))) :
 (ReflectliteValue.method (ReflectliteValue.valueError "reflectlite.Value.IsNil" 0) ReflectliteValue.isNil #[.agg #[.pointer (some ⟨17, 121, none⟩), .pointer (some a), .int .u64 150]]).run Tryd.prog W = .ok (.bool false) W := by
 rw [rlmR]
 simp only [Sem.run_bind, parts27R, Result.andThen]
 simp [ReflectliteValue.isNil, loadVar, isAgg, underlying, Tryd.underlying121, ha, Result.andThen]

theorem methodElemR (h : Value) (w : World) : (Go.method 323 170 (.agg #[h]) "Elem").run Tryd.prog w = .ok (137, .agg #[h]) w := by kernel_rfl
theorem methodImplementsR (h : Value) (w : World) : (Go.method 323 170 (.agg #[h]) "Implements").run Tryd.prog w = .ok (138, .agg #[h]) w := by kernel_rfl
theorem methodAssignableToR (h : Value) (w : World) : (Go.method 323 170 (.agg #[h]) "AssignableTo").run Tryd.prog w = .ok (135, .agg #[h]) w := by kernel_rfl
theorem elem27R (w : World) : (ReflectliteType.method ReflectliteType.elem #[.agg #[.pointer (some ⟨17, 121, none⟩)]]).run Tryd.prog w = .ok (.iface 170 (.agg #[.pointer (some ⟨17, 119, none⟩)])) w := by kernel_rfl
theorem implements25R (w : World) : (ReflectliteType.relation "Implements" ReflectliteType.implements_ #[.agg #[.pointer (some ⟨17, 119, none⟩)], .iface 170 (.agg #[.pointer (some ⟨17, 26, none⟩)])]).run Tryd.prog w = .ok (.bool true) w := by kernel_rfl
theorem typeOf25R (v : Value) (w : World) : (ReflectliteType.typeOf #[.iface 119 v]).run Tryd.prog w = .ok (.iface 170 (.agg #[.pointer (some ⟨17, 119, none⟩)])) w := by kernel_rfl
theorem assignable25R (w : World) : (ReflectliteType.relation "AssignableTo" ReflectliteType.assignableTo #[.agg #[.pointer (some ⟨17, 119, none⟩)], .iface 170 (.agg #[.pointer (some ⟨17, 119, none⟩)])]).run Tryd.prog w = .ok (.bool true) w := by kernel_rfl
theorem valueOf25R (e : Addr) (w : World) : (ReflectliteValue.unpack (.iface 119 (.pointer (some e)))).run Tryd.prog w
 = .ok (.agg #[.pointer (some ⟨17, 119, none⟩), .pointer (some ⟨w.heap.size, 0, none⟩), .int .u64 150]) (w.alloc (.cells #[.pointer (some e)] 119)) := by kernel_rfl

theorem elemOf27R (w : World) : (Rtype.elem? 121).run Tryd.prog w = .ok (some 119) w := by kernel_rfl
theorem mk25R (p : Addr) (w : World) : (ReflectliteValue.mk 119 p ReflectliteValue.flagAddr).run Tryd.prog w = .ok (.agg #[.pointer (some ⟨17, 119, none⟩), .pointer (some p), .int .u64 406]) w := by kernel_rfl
theorem elemV27R (a p : Addr) (W : World) (ha : W.cell? a = some (.pointer (some p))) :
 (ReflectliteValue.method (ReflectliteValue.valueError "reflectlite.Value.Elem" 0) ReflectliteValue.elem #[.agg #[.pointer (some ⟨17, 121, none⟩), .pointer (some a), .int .u64 150]]).run Tryd.prog W
  = .ok (.agg #[.pointer (some ⟨17, 119, none⟩), .pointer (some p), .int .u64 406]) W := by
 rw [rlmR]
 simp only [Sem.run_bind, parts27R, Result.andThen]
 simp [ReflectliteValue.elem, loadVar, isAgg, underlying, Tryd.underlying121, ha, Result.andThen, elemOf27R, mk25R]
theorem rlsR (v x : Value) : ReflectliteValue.set #[v, x] = (do
 let (some (dst, a, fl), some (src, b, _)) := (← ReflectliteValue.parts v, ← ReflectliteValue.parts x)
  | unsupported (.noEntry "extern/(internal/reflectlite.Value).Set.zeroValue")
 if fl / ReflectliteValue.flagAddr % 2 == 0 then unsupported (.noEntry "extern/(internal/reflectlite.Value).Set.unaddressable")
 let val ← loadVar src b
 if ← Rtype.directlyAssignable dst src then storeVar dst a val
 else if ← Rtype.implements dst src then
  if (← Rtype.kind src) == 20 then
   match val with
   | .nilIface => unsupported (.noEntry "extern/reflectlite: a nil value of one interface type handed on as a value of another")
   | _ => storeVar dst a val
  else storeVar dst a (.iface src val)
 else panicString ("reflectlite.Set: value of type " ++ (← Rtype.spelt src) ++ " is not assignable to type " ++ (← Rtype.spelt dst))
 pure (.tuple #[])) := rfl
theorem parts25aR (a : Addr) (w : World) : (ReflectliteValue.parts (.agg #[.pointer (some ⟨17, 119, none⟩), .pointer (some a), .int .u64 406])).run Tryd.prog w = .ok (some (119, a, 406)) w := by kernel_rfl
theorem parts25R (a : Addr) (w : World) : (ReflectliteValue.parts (.agg #[.pointer (some ⟨17, 119, none⟩), .pointer (some a), .int .u64 150])).run Tryd.prog w = .ok (some (119, a, 150)) w := by kernel_rfl
theorem direct25R (w : World) : (Rtype.directlyAssignable 119 119).run Tryd.prog w = .ok true w := by kernel_rfl
theorem set25R (ta b e : Addr) (old : Value) (W : World) (hb : W.cell? b = some (.pointer (some e))) (ht : W.cell? ta = some old) (hf : W.frozen? ta = false) :
 (ReflectliteValue.set #[.agg #[.pointer (some ⟨17, 119, none⟩), .pointer (some ta), .int .u64 406], .agg #[.pointer (some ⟨17, 119, none⟩), .pointer (some b), .int .u64 150]]).run Tryd.prog W
  = .ok (.tuple #[]) (W.setCell ta (.pointer (some e))) := by
 rw [rlsR]
 simp only [Sem.run_bind, parts25aR, parts25R, Result.andThen]
 simp [ReflectliteValue.flagAddr, loadVar, isAgg, underlying, Tryd.underlying119, hb, Result.andThen, direct25R, storeVar, Value.cells, storeCells, Addr.add]
 rw [run_store Tryd.prog W ta _ _ (by rfl)]
 simp [ht, hf]

set_option maxHeartbeats 4000000 in
theorem as_hitR (e t : Addr) (old : Value) (w : World) (hg : w.cell? ⟨15, 0, none⟩ = some (.iface 170 (.agg #[.pointer (some ⟨17, 26, none⟩)]))) (ht0 : w.cell? t = some old) (hf0 : w.frozen? t = false) :
 Calls Tryd.prog 67 #[.iface 119 (.pointer (some e)), .iface 121 (.pointer (some t))] w fun ev w' => ev = .returned (.bool true) ∧ w' = ((((w.alloc (.cells #[.pointer (some t)] 121)).alloc (.cells #[.pointer (some ⟨17, 121, none⟩), .pointer (some ⟨w.heap.size, 0, none⟩), .int .u64 150] 153)).alloc (.cells #[.pointer (some ⟨17, 121, none⟩), .pointer (some ⟨w.heap.size, 0, none⟩), .int .u64 150] 153)).alloc (.cells #[.pointer (some e)] 119)).setCell t (.pointer (some e)) := by
 have h6 := @run_callFunc_extern Tryd.prog 91 _ (fun args => ReflectliteValue.unpack (args.getD 0 (.tuple #[]))) Tryd.func91 (by kernel_rfl) (by kernel_rfl) (by kernel_rfl) (by kernel_rfl)
 have h7 := @run_callFunc_extern Tryd.prog 92 _ (ReflectliteValue.methodAny (ReflectliteValue.valueError "reflectlite.Value.Type" 0) (fun t _ _ _ => ReflectliteType.toType t)) Tryd.func92 (by kernel_rfl) (by kernel_rfl) (by kernel_rfl) (by kernel_rfl)
 have h8 := @run_callFunc_extern Tryd.prog 93 _ (ReflectliteValue.method (ReflectliteValue.valueError "reflectlite.Value.IsNil" 0) ReflectliteValue.isNil) Tryd.func93 (by kernel_rfl) (by kernel_rfl) (by kernel_rfl) (by kernel_rfl)
 have h27 := @run_callFunc_extern Tryd.prog 126 _ (ReflectliteType.abiMethod fun t => do pure (.int .u8 (← Rtype.kind t))) Tryd.func126 (by kernel_rfl) (by kernel_rfl) (by kernel_rfl) (by kernel_rfl)
 have h37 := @run_callFunc_extern Tryd.prog 137 _ (ReflectliteType.method ReflectliteType.elem) Tryd.func137 (by kernel_rfl) (by kernel_rfl) (by kernel_rfl) (by kernel_rfl)
 have h38 := @run_callFunc_extern Tryd.prog 138 _ (ReflectliteType.relation "Implements" ReflectliteType.implements_) Tryd.func138 (by kernel_rfl) (by kernel_rfl) (by kernel_rfl) (by kernel_rfl)
 have h10 := @run_callFunc_extern Tryd.prog 85 _ ReflectliteType.typeOf Tryd.func85 (by kernel_rfl) (by kernel_rfl) (by kernel_rfl) (by kernel_rfl)
 have h35 := @run_callFunc_extern Tryd.prog 135 _ (ReflectliteType.relation "AssignableTo" ReflectliteType.assignableTo) Tryd.func135 (by kernel_rfl) (by kernel_rfl) (by kernel_rfl) (by kernel_rfl)
 have h11 := @run_callFunc_extern Tryd.prog 106 _ (ReflectliteValue.method (ReflectliteValue.valueError "reflectlite.Value.Elem" 0) ReflectliteValue.elem) Tryd.func106 (by kernel_rfl) (by kernel_rfl) (by kernel_rfl) (by kernel_rfl)
 have h12 := @run_callFunc_extern Tryd.prog 107 _ ReflectliteValue.set Tryd.func107 (by kernel_rfl) (by kernel_rfl) (by kernel_rfl) (by kernel_rfl)
 have tO := typeOf25R
 have mA := methodAssignableToR
 have a25 := assignable25R
 have v25 := valueOf25R
 have f6 := valueOf27R
 have f7 := type27R
 have mK := methodKindR
 have mE := methodElemR
 have mI := methodImplementsR
 have k27 := kind27R
 have k25 := kind25R
 have e27 := elem27R
 have i25 := implements25R
 have n8 := isNil27R ⟨w.heap.size, 0, none⟩ t ((w.alloc (.cells #[.pointer (some t)] 121)).alloc (.cells #[.pointer (some ⟨17, 121, none⟩), .pointer (some ⟨w.heap.size, 0, none⟩), .int .u64 150] 153)) (by simp)
 have hlt : 15 < w.heap.size := by
  exact World.block_lt_of_cell? w _ hg
 have hg2 : ((w.alloc (.cells #[.pointer (some t)] 121)).alloc (.cells #[.pointer (some ⟨17, 121, none⟩), .pointer (some ⟨w.heap.size, 0, none⟩), .int .u64 150] 153)).cell? ⟨15, 0, none⟩ = some (.iface 170 (.agg #[.pointer (some ⟨17, 26, none⟩)])) := by
  rw [World.cell?_alloc_lt _ _ ⟨15, 0, none⟩ (by simp; omega), World.cell?_alloc_lt _ _ ⟨15, 0, none⟩ hlt]; exact hg
 have htl : t.block < w.heap.size := by
  rcases Nat.lt_or_ge t.block w.heap.size with h | h
  · exact h
  · simp [World.cell?, Array.getElem?_eq_none h] at ht0
 have el := elemV27R ⟨w.heap.size, 0, none⟩ t (((w.alloc (.cells #[.pointer (some t)] 121)).alloc (.cells #[.pointer (some ⟨17, 121, none⟩), .pointer (some ⟨w.heap.size, 0, none⟩), .int .u64 150] 153)).alloc (.cells #[.pointer (some ⟨17, 121, none⟩), .pointer (some ⟨w.heap.size, 0, none⟩), .int .u64 150] 153)) (by rw [World.cell?_alloc_lt _ _ ⟨w.heap.size, 0, none⟩ (by simp; omega)]; simp)
 have st := set25R t ⟨w.heap.size + 1 + 1 + 1, 0, none⟩ e old ((((w.alloc (.cells #[.pointer (some t)] 121)).alloc (.cells #[.pointer (some ⟨17, 121, none⟩), .pointer (some ⟨w.heap.size, 0, none⟩), .int .u64 150] 153)).alloc (.cells #[.pointer (some ⟨17, 121, none⟩), .pointer (some ⟨w.heap.size, 0, none⟩), .int .u64 150] 153)).alloc (.cells #[.pointer (some e)] 119))
  (by rw [World.cell?_alloc_at _ _ _ _ (by simp)]; rfl)
  (by rw [World.cell?_alloc_lt _ _ t (by simp; omega), World.cell?_alloc_lt _ _ t (by simp; omega), World.cell?_alloc_lt _ _ t (by simp; omega), World.cell?_alloc_lt _ _ t htl]; exact ht0)
  (by rw [World.frozen?_alloc_old _ _ t (by simp; omega), World.frozen?_alloc_old _ _ t (by simp; omega), World.frozen?_alloc_old _ _ t (by simp; omega), World.frozen?_alloc_old _ _ t (Nat.ne_of_lt htl)]; exact hf0)
 go_enter Tryd.func67, Tryd.ntmps67
 go_wp2
 refine wp_loop_rounds 1 ?_
 rw [rounds_succ]
 go_wp2
 go_ret
 exact ⟨rfl, rfl⟩
theorem typeOfER (v : Value) (w : World) : (ReflectliteType.typeOf #[.iface 190 v]).run Tryd.prog w = .ok (.iface 170 (.agg #[.pointer (some ⟨17, 190, none⟩)])) w := by kernel_rfl
theorem assignableER (w : World) : (ReflectliteType.relation "AssignableTo" ReflectliteType.assignableTo #[.agg #[.pointer (some ⟨17, 190, none⟩)], .iface 170 (.agg #[.pointer (some ⟨17, 119, none⟩)])]).run Tryd.prog w = .ok (.bool false) w := by kernel_rfl
theorem noAsER (v : Value) (xT : TypeId) (w : World) : (Instr.typeAssert (.iface 190 v) xT 182 true).run Tryd.prog w = .ok (.tuple #[.nilIface, .bool false]) w := run_typeAssert_lacksB Tryd.underlying182 (by kernel_rfl) (by kernel_rfl) v xT w
set_option maxHeartbeats 4000000 in
theorem as_esR (a t : Addr) (w : World) (hg : w.cell? ⟨15, 0, none⟩ = some (.iface 170 (.agg #[.pointer (some ⟨17, 26, none⟩)]))) :
 Calls Tryd.prog 67 #[.iface 190 (.pointer (some a)), .iface 121 (.pointer (some t))] w fun ev w' => ev = .returned (.bool false) ∧ Below w.heap.size w w' := by
 have h6 := @run_callFunc_extern Tryd.prog 91 _ (fun args => ReflectliteValue.unpack (args.getD 0 (.tuple #[]))) Tryd.func91 (by kernel_rfl) (by kernel_rfl) (by kernel_rfl) (by kernel_rfl)
 have h7 := @run_callFunc_extern Tryd.prog 92 _ (ReflectliteValue.methodAny (ReflectliteValue.valueError "reflectlite.Value.Type" 0) (fun t _ _ _ => ReflectliteType.toType t)) Tryd.func92 (by kernel_rfl) (by kernel_rfl) (by kernel_rfl) (by kernel_rfl)
 have h8 := @run_callFunc_extern Tryd.prog 93 _ (ReflectliteValue.method (ReflectliteValue.valueError "reflectlite.Value.IsNil" 0) ReflectliteValue.isNil) Tryd.func93 (by kernel_rfl) (by kernel_rfl) (by kernel_rfl) (by kernel_rfl)
 have h27 := @run_callFunc_extern Tryd.prog 126 _ (ReflectliteType.abiMethod fun t => do pure (.int .u8 (← Rtype.kind t))) Tryd.func126 (by kernel_rfl) (by kernel_rfl) (by kernel_rfl) (by kernel_rfl)
 have h37 := @run_callFunc_extern Tryd.prog 137 _ (ReflectliteType.method ReflectliteType.elem) Tryd.func137 (by kernel_rfl) (by kernel_rfl) (by kernel_rfl) (by kernel_rfl)
 have h38 := @run_callFunc_extern Tryd.prog 138 _ (ReflectliteType.relation "Implements" ReflectliteType.implements_) Tryd.func138 (by kernel_rfl) (by kernel_rfl) (by kernel_rfl) (by kernel_rfl)
 have h10 := @run_callFunc_extern Tryd.prog 85 _ ReflectliteType.typeOf Tryd.func85 (by kernel_rfl) (by kernel_rfl) (by kernel_rfl) (by kernel_rfl)
 have h35 := @run_callFunc_extern Tryd.prog 135 _ (ReflectliteType.relation "AssignableTo" ReflectliteType.assignableTo) Tryd.func135 (by kernel_rfl) (by kernel_rfl) (by kernel_rfl) (by kernel_rfl)
 have tO := typeOfER
 have a25 := assignableER
 have nA := noAsER
 have uE := noUnwrapE
 have vE := noUnwrapsE
 have mA := methodAssignableToR
 have f6 := valueOf27R
 have f7 := type27R
 have mK := methodKindR
 have mE := methodElemR
 have mI := methodImplementsR
 have k27 := kind27R
 have k25 := kind25R
 have e27 := elem27R
 have i25 := implements25R
 have n8 := isNil27R ⟨w.heap.size, 0, none⟩ t ((w.alloc (.cells #[.pointer (some t)] 121)).alloc (.cells #[.pointer (some ⟨17, 121, none⟩), .pointer (some ⟨w.heap.size, 0, none⟩), .int .u64 150] 153)) (by simp)
 have hlt : 15 < w.heap.size := by
  exact World.block_lt_of_cell? w _ hg
 have hg2 : ((w.alloc (.cells #[.pointer (some t)] 121)).alloc (.cells #[.pointer (some ⟨17, 121, none⟩), .pointer (some ⟨w.heap.size, 0, none⟩), .int .u64 150] 153)).cell? ⟨15, 0, none⟩ = some (.iface 170 (.agg #[.pointer (some ⟨17, 26, none⟩)])) := by
  rw [World.cell?_alloc_lt _ _ ⟨15, 0, none⟩ (by simp; omega), World.cell?_alloc_lt _ _ ⟨15, 0, none⟩ hlt]; exact hg
 go_enter Tryd.func67, Tryd.ntmps67
 go_wp2
 refine wp_loop_rounds 1 ?_
 rw [rounds_succ]
 go_wp2
 go_ret
 exact ⟨rfl, (((Below.refl _ w).alloc (Nat.le_refl _) _).alloc (by simp) _).alloc (by simp; omega) _⟩
end Go.Proofs.YtjkifeladmhkoaaDoor.E
/- kit.Kind and kit.Rule of what gram.Check answers. -/
namespace Go.Proofs.YtjkifeladmhkoaaDoor.B
open Go.RowKit YtjkifeladmhkoaaDoorW.PrintWords YtjkifeladmhkoaaDoorW.PrintLast YtjkifeladmhkoaaDoorW.PrintMore E

theorem IsK.rule {ad : Int → Addr} {w : World} (hs : SentsK ad w) (k : Int) (h1 : 1 ≤ k) (h2 : k ≤ 15) (b : Nat) (hc : w.cell? ⟨b, 1, none⟩ = some (.iface 190 (.pointer (some (ad k))))) : IsK ad w (.iface 119 (.pointer (some ⟨b, 0, none⟩))) k := by
 intro j hj1 hj2 W hW
 have hc' : W.cell? ⟨b, 0 + 1, none⟩ = some (.iface 190 (.pointer (some (ad k)))) := (hW.cell (World.block_lt_of_cell? w _ hc)).trans hc
 by_cases h : j = k
 · subst h
   rw [decide_eq_true rfl]
   exact isR_same b 0 (ad j) W hc'
 · rw [decide_eq_false h]
   obtain ⟨ca, ta, hca⟩ := (hs.below hW).box k h1 h2
   obtain ⟨cb, tb, hcb⟩ := (hs.below hW).box j hj1 hj2
   exact isR_other b 0 (ad j) (ad k) ca cb ta tb W hc' (hs.ne k j h1 h2 hj1 hj2 (fun e => h e.symm)) hca hcb
def Handle (w : World) : Prop := w.cell? ⟨15, 0, none⟩ = some (.iface 170 (.agg #[.pointer (some ⟨17, 26, none⟩)]))
theorem Handle.below {w w' : World} (h : Handle w) (hb : Below w.heap.size w w') : Handle w' := (hb.cell (World.block_lt_of_cell? w _ h)).trans h

set_option maxHeartbeats 1000000 in
set_option maxRecDepth 100000 in
theorem Rule_no (v : Value) (w : World) (hA : ∀ W, Below w.heap.size w W → ∀ a, Calls Tryd.prog 67 #[v, .iface 121 (.pointer (some a))] W fun e w' => e = .returned (.bool false) ∧ Below W.heap.size W w') :
 Calls Tryd.prog 28 #[v] w fun e w' => e = .returned (.int .i64 (-1)) ∧ Below w.heap.size w w' := by
 have hb : Below w.heap.size w (w.alloc (.cells #[.pointer none] 119)) := (Below.refl _ w).alloc (Nat.le_refl _) _
 have HA := Aside0.mk (hA _ hb ⟨w.heap.size, 0, none⟩)
 have HB := Aside0.mk hb
 clear hA hb
 go_enter Tryd.func28, Tryd.ntmps28
 go_wp2_with (go_at_call 67; (with_reducible refine HA.out.mono ?_); rintro e w' ⟨rfl, hb'⟩)
 go_ret
 exact ⟨rfl, HB.out.trans (hb'.mono HB.out.size)⟩
set_option maxHeartbeats 1000000 in
set_option maxRecDepth 100000 in
theorem Rule_yes (b : Nat) (r : Int) (w : World) (hg : Handle w) (hr : w.cell? ⟨b, 0, none⟩ = some (.int .i64 r)) :
 Calls Tryd.prog 28 #[.iface 119 (.pointer (some ⟨b, 0, none⟩))] w fun e w' => e = .returned (.int .i64 r) ∧ Below w.heap.size w w' := by
 have hb : Below w.heap.size w (w.alloc (.cells #[.pointer none] 119)) := (Below.refl _ w).alloc (Nat.le_refl _) _
 have hbl : b < w.heap.size := World.block_lt_of_cell? w _ hr
 have hA : Calls Tryd.prog 67 #[.iface 119 (.pointer (some ⟨b, 0, none⟩)), .iface 121 (.pointer (some ⟨w.heap.size, 0, none⟩))] (w.alloc (.cells #[.pointer none] 119)) fun e w' => e = .returned (.bool true) ∧ Aside0 (Below w.heap.size w w') ∧ w'.cell? ⟨w.heap.size, 0, none⟩ = some (.pointer (some ⟨b, 0, none⟩)) ∧ w'.cell? ⟨b, 0, none⟩ = some (.int .i64 r) := by
  have hx : Box w.heap.size #[.pointer none] 119 (w.alloc (.cells #[.pointer none] 119)) := Box.new w _ _
  have hx' : (w.alloc (.cells #[.pointer none] 119)).heap[w.heap.size]? = some (.cells #[.pointer none] 119 (0, 0)) := hx
  refine (as_hitR ⟨b, 0, none⟩ ⟨w.heap.size, 0, none⟩ (.pointer none) _ (hg.below hb) (hx.cell 0 _ rfl) (by unfold World.frozen?; rw [show (w.alloc (.cells #[.pointer none] 119)).heap[(⟨w.heap.size, 0, none⟩ : Addr).block]? = _ from hx']; rfl)).mono ?_
  rintro e w' ⟨rfl, rfl⟩
  have hb4 := ((((Below.refl _ (w.alloc (.cells #[.pointer none] 119))).alloc (Nat.le_refl _) (.cells #[.pointer (some ⟨w.heap.size, 0, none⟩)] 121)).alloc (by simp) (.cells #[.pointer (some ⟨17, 121, none⟩), .pointer (some ⟨(w.alloc (.cells #[.pointer none] 119)).heap.size, 0, none⟩), .int .u64 150] 153)).alloc (by first | (simp; done) | (simp; omega)) (.cells #[.pointer (some ⟨17, 121, none⟩), .pointer (some ⟨(w.alloc (.cells #[.pointer none] 119)).heap.size, 0, none⟩), .int .u64 150] 153)).alloc (by first | (simp; done) | (simp; omega)) (.cells #[.pointer (some ⟨b, 0, none⟩)] 119)
  have hbw := hb.trans (hb4.mono hb.size)
  have hc4 : _ := (hb4.cell (p := ⟨w.heap.size, 0, none⟩) (by simp)).trans (hx.cell 0 _ rfl)
  refine ⟨rfl, ⟨hbw.setCell (Nat.le_refl _) _⟩, ?_, ?_⟩
  · exact World.cell?_setCell_same' _ _ _ (by rw [hc4]; rfl)
  · rw [World.cell?_setCell_other _ _ _ _ (show (⟨w.heap.size, 0, none⟩ : Addr) ≠ ⟨b, 0, none⟩ from fun e => by injection e with e; omega)]
    exact (hbw.cell (p := ⟨b, 0, none⟩) hbl).trans hr
 have HA := Aside0.mk hA
 clear hA hb
 go_enter Tryd.func28, Tryd.ntmps28
 go_wp2_with (go_at_call 67; (with_reducible refine HA.out.mono ?_); rintro e w' ⟨rfl, hb', f0, f1⟩)
 go_ret
 exact ⟨rfl, hb'.out⟩
end Go.Proofs.YtjkifeladmhkoaaDoor.B
/- Errors of all kinds: none, a sentinel, a rule's; kit.Kind and kit.Rule of them; told by a number (kind + 16 * (rule + 1)). -/
namespace Go.Proofs.YtjkifeladmhkoaaDoor.F
open Go.RowKit YtjkifeladmhkoaaDoorW.PrintWords YtjkifeladmhkoaaDoorW.PrintLast YtjkifeladmhkoaaDoorW.PrintMore
open B E

def ErrW (ad : Int → Addr) (w : World) (v : Value) (p : Int × Int) : Prop :=
 (p.1 = 0 ∧ p.2 = -1 ∧ v = .nilIface) ∨ ((1 ≤ p.1 ∧ p.1 ≤ 15) ∧ p.2 = -1 ∧ v = .iface 190 (.pointer (some (ad p.1)))) ∨
 ((1 ≤ p.1 ∧ p.1 ≤ 15) ∧ 0 ≤ p.2 ∧ p.2 < 1000 ∧ ∃ b, v = .iface 119 (.pointer (some ⟨b, 0, none⟩)) ∧ w.heap[b]? = some (.cells #[.int .i64 p.2, .iface 190 (.pointer (some (ad p.1)))] 123 (0, 0)))
theorem ErrW.of {ad : Int → Addr} {w : World} {v : Value} {p : Int × Int} (h : ErrV ad w v p) : ErrW ad w v p := by
 rcases h with h | ⟨h1, h2, h3⟩ | ⟨h1, h2, h3, h4⟩
 · exact .inl h
 · exact .inr (.inl ⟨by omega, h2, h3⟩)
 · exact .inr (.inr ⟨by omega, h2, by omega, h4⟩)
theorem ErrW.below {ad : Int → Addr} {w w' : World} {v : Value} {p : Int × Int} (h : ErrW ad w v p) (hb : Below w.heap.size w w') : ErrW ad w' v p := by
 rcases h with h | h | ⟨h1, h2, h3, b, hv, hx⟩
 · exact .inl h
 · exact .inr (.inl h)
 · exact .inr (.inr ⟨h1, h2, h3, b, hv, Box.below (W := w) (W' := w') hx hb⟩)
theorem ErrW.nil {ad : Int → Addr} {w : World} {v : Value} {p : Int × Int} (h : ErrW ad w v p) (h0 : p.1 = 0) : v = .nilIface := by
 rcases h with h | h | h
 · exact h.2.2
 · have := h.1; omega
 · have := h.1; omega
theorem ErrW.any {ad : Int → Addr} {w : World} {v : Value} {p : Int × Int} (h : ErrW ad w v p) (h0 : p.1 ≠ 0) : ∃ t u, v = .iface t u := by
 rcases h with h | h | h
 · exact absurd h.1 h0
 · exact ⟨_, _, h.2.2⟩
 · obtain ⟨_, _, _, b, h, _⟩ := h; exact ⟨_, _, h⟩
theorem ErrW.sent {ad : Int → Addr} {w : World} {k : Int} (h1 : 1 ≤ k) (h2 : k ≤ 15) : ErrW ad w (.iface 190 (.pointer (some (ad k)))) (k, -1) := .inr (.inl ⟨⟨h1, h2⟩, rfl, rfl⟩)
theorem Kind_w {ad : Int → Addr} {w : World} (hs : SentsK ad w) {v : Value} {p : Int × Int} (hv : ErrW ad w v p) : Calls Tryd.prog 18 #[v] w fun e w' => e = .returned (.int .i64 p.1) ∧ Below w.heap.size w w' := by
 rcases hv with ⟨h0, _, rfl⟩ | ⟨h1, _, rfl⟩ | ⟨h1, _, _, b, rfl, hx⟩
 · rw [h0]; exact Kind_nil w
 · exact Kind_any ad _ _ p.1 h1.1 h1.2 w hs (IsK.sent hs p.1 h1.1 h1.2)
 · exact Kind_any ad _ _ p.1 h1.1 h1.2 w hs (IsK.rule hs p.1 h1.1 h1.2 b (Box.cell (W := w) hx 1 _ rfl))
theorem Rule_w {ad : Int → Addr} {w : World} (hg : HandleP w) {v : Value} {p : Int × Int} (hv : ErrW ad w v p) : Calls Tryd.prog 28 #[v] w fun e w' => e = .returned (.int .i64 p.2) ∧ Below w.heap.size w w' := by
 rcases hv with ⟨_, h2, rfl⟩ | ⟨_, h2, rfl⟩ | ⟨_, _, _, b, rfl, hx⟩
 · rw [h2]
   exact Rule_no _ w (fun W _ a => (as_nilR _ W).mono fun _ _ ⟨he, hw⟩ => by subst hw; exact ⟨he, Below.refl _ _⟩)
 · rw [h2]
   exact Rule_no _ w (fun W hW a => as_esR _ a W (Handle.below (w := w) hg hW))
 · exact Rule_yes b p.2 w hg (Box.cell (W := w) hx 0 _ rfl)
abbrev errV (tx : TypeId × Value) : Option Int → Value
 | none => .nilIface
 | some _ => .iface tx.1 tx.2
def encE (p : Int × Int) : Option Int := if p.1 = 0 then none else some (p.1 + 16 * (p.2 + 1))
def kindE : Option Int → Int
 | none => 0
 | some c => c % 16
def ruleE : Option Int → Int
 | none => -1
 | some c => c / 16 - 1
def ErrF (ad : Int → Addr) (w : World) (v : Value) (r : Option Int) : Prop := ∃ p, ErrW ad w v p ∧ r = encE p
theorem ErrF.below {ad : Int → Addr} {w w' : World} {v : Value} {r : Option Int} (h : ErrF ad w v r) (hb : Below w.heap.size w w') : ErrF ad w' v r := by
 obtain ⟨p, h1, h2⟩ := h
 exact ⟨p, h1.below hb, h2⟩
theorem SentsK.three {ad : Int → Addr} {w : World} (h : SentsK ad w) : Go.Proofs.YtjkifeladmhkoaaDoor.B.Sents ad w := by
 obtain ⟨⟨h1, h2, h3, h4, h5, h6, h7, h8, h9, h10, h11, h12, h13, h14, h15⟩, _, _⟩ := h
 exact ⟨h3, h10, h1⟩
theorem SentsK.arg {ad : Int → Addr} {w : World} (h : SentsK ad w) : w.cell? ⟨0, 0, none⟩ = some (.iface 190 (.pointer (some (ad 1)))) := by
 obtain ⟨⟨h1, h2, h3, h4, h5, h6, h7, h8, h9, h10, h11, h12, h13, h14, h15⟩, _, _⟩ := h
 exact h1
theorem SentsK.none_ {ad : Int → Addr} {w : World} (h : SentsK ad w) : w.cell? ⟨1, 0, none⟩ = some (.iface 190 (.pointer (some (ad 15)))) := by
 obtain ⟨⟨h1, h2, h3, h4, h5, h6, h7, h8, h9, h10, h11, h12, h13, h14, h15⟩, _, _⟩ := h
 exact h15
theorem Check_any (ad : Int → Addr) (A0 : Option Addr) (c0 : Nat) (l0 : List ByteArray) (A1 : Option Addr) (c1 : Nat) (l1 : List ByteArray) (a2 : Int) (A3 : Option Addr) (c3 : Nat) (l3 : List S41) (w : World) (hs : SentsK ad w) (hr0 : Kd.C Kd.string w A0 l0.length l0) (hc0 : l0.length ≤ c0) (hr1 : Kd.C Kd.string w A1 l1.length l1) (hc1 : l1.length ≤ c1) (hr3 : Kd.C k41 w A3 l3.length l3) (hc3 : l3.length ≤ c3) :
 Calls Tryd.prog 52 #[.agg #[.slice A0 l0.length c0, .slice A1 l1.length c1, .int .i64 a2, .slice A3 l3.length c3]] w fun e w' => (∃ v, e = .returned v ∧ ErrV ad w' v (chk (namesOK l0) (namesOK l1) l0.length l1.length a2 l3)) ∧ Below w.heap.size w w' := by
 have m0 := C_max hr0
 have m1 := C_max hr1
 exact Check_full ad _ A0 c0 l0 A1 c1 l1 a2 A3 c3 l3 _ _ w (SentsK.three hs) hr0 hc0 hr1 hc1 hr3 hc3 (Names_f l0 (l0.length + l0.length + l1.length + l1.length + 2) m0 (by omega)) (Names_f l1 (l0.length + l0.length + l1.length + l1.length + 2) m1 (by omega))
def dovetailkit_Kind.f (a0 : Option Int) : Option Int := some (kindE a0)
def dovetailkit_Rule.f (a0 : Option Int) : Option Int := some (ruleE a0)
end Go.Proofs.YtjkifeladmhkoaaDoor.F
/- Rows that are read and lie in a block of their own, whatever is left behind their end (cut with a capacity, too): the print's movers for them. -/
namespace Go.Proofs.YtjkifeladmhkoaaDoor.Kq
open Go.RowKit YtjkifeladmhkoaaDoorW.PrintWords

def R {α : Type} (d : Kd α) (e : Nat) (w : World) (base : Nat) (ok : Nat → Prop) (v : Value) (xs : List α) : Prop :=
 (∀ k, v.ownBlock = some k → ok k ∧ base ≤ k ∧ k < w.heap.size ∧ ∃ cells, w.heap[k]? = some (.cells cells e (0, 0))) ∧ (∃ A c, v = .slice A xs.length c ∧ xs.length ≤ c ∧ d.C w A xs.length xs) ∧ (∀ {W W' : World} {x : α} {cs : List Value}, d.K W x cs → d.K W' x cs)
section
variable {α : Type} {d : Kd α} {e : Nat} {w w1 : World} {base base' : Nat} {ok ok' : Nat → Prop} {v : Value} {xs : List α}
theorem R_of (hd : ∀ {W W' : World} {x : α} {cs : List Value}, d.K W x cs → d.K W' x cs) (h : d.R e w base ok v xs) : R d e w base ok v xs :=
 ⟨fun k hk => ⟨h.1 k hk, Kd.R_base h k hk, Kd.R_lt h k hk, by obtain ⟨inner, ho⟩ := Kd.R_own h; exact own_typed ho k hk⟩, Kd.R_reads h, hd⟩
theorem R_step (h : R d e w base ok v xs) (hs : w.heap.size ≤ w1.heap.size) (hm : ∀ k, ok k → k < w.heap.size → w1.heap[k]? = w.heap[k]?) : R d e w1 base ok v xs := by
 obtain ⟨h1, ⟨A, c, hv, hc, hr⟩, hd⟩ := h
 refine ⟨fun k hk => ?_, ⟨A, c, hv, hc, hr.1, hr.2.1, fun hp => ?_⟩, hd⟩
 · obtain ⟨h2, h3, h4, cells, h5⟩ := h1 k hk
   exact ⟨h2, h3, by omega, cells, (hm k h2 h4).trans h5⟩
 · obtain ⟨ad, e1, hx⟩ := hr.2.2 hp
   refine ⟨ad, e1, fun j p hj => ?_⟩
   obtain ⟨cs, h2, h3, h4⟩ := hx j p hj
   refine ⟨cs, h2, hd h3, fun i u hu => ?_⟩
   rw [← h4 i u hu]
   obtain ⟨q1, _, q2, _⟩ := h1 ad.block (by rw [hv, e1]; rfl)
   exact World.cell?_of_block (by rw [add_block]; exact hm ad.block q1 q2)
theorem R_mono (h : R d e w base ok v xs) (hok : ∀ k, ok k → ok' k) : R d e w base ok' v xs := ⟨fun k hk => ⟨hok k (h.1 k hk).1, (h.1 k hk).2⟩, h.2⟩
theorem R_bound (h : R d e w base ok v xs) : R d e w base (fun k => ok k ∧ base ≤ k ∧ k < w.heap.size ∧ ∃ cells, w.heap[k]? = some (.cells cells e (0, 0))) v xs := ⟨fun k hk => ⟨h.1 k hk, (h.1 k hk).2⟩, h.2⟩
theorem R_below (h : R d e w base ok v xs) (hb : Below w.heap.size w w1) : R d e w1 base ok v xs := R_step h hb.size (fun k _ hk => hb.block k hk)
theorem R_reads' {A : Option Addr} {n c : Nat} (h : R d e w base ok (.slice A n c) xs) : n = xs.length ∧ n ≤ c ∧ d.C w A xs.length xs := by
 obtain ⟨_, ⟨A', c', he, hl, hr⟩, _⟩ := h
 injection he with h1 h2 h3
 subst h1 h2 h3
 exact ⟨rfl, hl, hr⟩
theorem R_slice (h : R d e w base ok v xs) : ∃ A c, v = .slice A xs.length c := by
 obtain ⟨_, ⟨A, c, he, _⟩, _⟩ := h
 exact ⟨A, c, he⟩
theorem R_nil (hd : ∀ {W W' : World} {x : α} {cs : List Value}, d.K W x cs → d.K W' x cs) (e : Nat) (w : World) (base : Nat) (ok : Nat → Prop) : R d e w base ok (.slice none 0 0) [] := R_of hd (Kd.R_nil _ _ _ _ _)
end
theorem K_int (k : IntKind) {W W' : World} {x : Int} {cs : List Value} (h : (Kd.int k).K W x cs) : (Kd.int k).K W' x cs := h
theorem R_clip (k : IntKind) (e : Nat) (w : World) (base g c : Nat) (cur : Array Value) (X : List Int) (hc : X.length ≤ c) (hm : X.length ≤ 9223372036854775807) (hb : base ≤ g) (hg : w.heap[g]? = some (.cells cur e (0, 0))) (ht : cur.toList.take X.length = nums k X) : R (Kd.int k) e w base (fun k => k = g) (.slice (some ⟨g, 0, none⟩) X.length c) X := by
 have hlt : g < w.heap.size := (Array.getElem?_eq_some_iff.1 hg).1
 refine ⟨fun q hq => ?_, ⟨_, c, rfl, hc, rfl, hm, fun hp => ⟨_, rfl, fun j p hj => ⟨[.int k p], rfl, rfl, fun i u hu => ?_⟩⟩⟩, K_int k⟩
 · have : g = q := by simpa [Value.ownBlock] using hq
   subst this
   exact ⟨rfl, hb, hlt, cur, hg⟩
 · obtain rfl : i = 0 := by
    rcases i with _ | i
    · rfl
    · simp at hu
   have hu' : u = .int k p := by simpa using hu.symm
   subst hu'
   have hjl := (List.getElem?_eq_some_iff.1 hj).1
   have h1 : (cur.toList.take X.length)[j]? = some (.int k p) := by rw [ht]; simp [nums, hj]
   rw [List.getElem?_take_of_lt hjl] at h1
   show w.cell? ((⟨g, 0, none⟩ : Addr).add (j * 1 + 0)) = _
   rw [add_plain]
   have h2 : cur[j]? = some (.int k p) := by rw [← h1]; simp
   simp [World.cell?, hg, h2]
end Go.Proofs.YtjkifeladmhkoaaDoor.Kq
/- ends.Of, ends.Chain in the print's form: errors told by a number. -/
namespace Go.Proofs.YtjkifeladmhkoaaDoor.E8
open Go.RowKit YtjkifeladmhkoaaDoorW.PrintWords YtjkifeladmhkoaaDoorW.PrintLast YtjkifeladmhkoaaDoorW.PrintMore
open B Es F

theorem ErrW_far {ad : Int → Addr} {w : World} {v : Value} {p : Int × Int} (h : ErrW ad w v p) {g : Nat} {cs : Array Value} {t : TypeId} (hb : Box g cs t w) (ht : 123 ≠ t) (j : Nat) (u : Value) : ErrW ad (w.setCell ⟨g, j, none⟩ u) v p := by
 rcases h with h | h | ⟨h1, h2, h3, b, hv, hx⟩
 · exact .inl h
 · exact .inr (.inl h)
 · refine .inr (.inr ⟨h1, h2, h3, b, hv, ?_⟩)
   have h' : w.heap[g]? = some (.cells cs t (0, 0)) := hb
   rw [Below.heap_setCell w ⟨g, j, none⟩ u b (fun e => ?_)]
   · exact hx
   · have e' : b = g := e
     rw [e', h'] at hx
     injection hx with hx
     injection hx with _ hx
     exact ht hx.symm
theorem C0i_start (w : World) (cs : Array Value) (i tm : Int) : Below w.heap.size w (((w.alloc (.cells cs 32)).alloc (.cells #[.int .i64 i] 3)).alloc (.cells #[.int .i64 tm] 3)) :=
 (((Below.refl _ w).alloc (Nat.le_refl _) _).alloc (by simp) _).alloc (by simp; omega) _
set_option maxHeartbeats 4000000 in
set_option maxRecDepth 100000 in
theorem Chain_bad (ad : Int → Addr) (p : Int × Int) (hp : p.1 ≠ 0) (A0 : Option Addr) (n0 c0 : Nat) (A1 : Option Addr) (n1 c1 : Nat) (a2 : Int) (A3 : Option Addr) (n3 c3 : Nat) (i tm : Int) (r : Bool) (w : World)
 (hC : ∀ W, Below w.heap.size w W → Calls Tryd.prog 52 #[.agg #[.slice A0 n0 c0, .slice A1 n1 c1, .int .i64 a2, .slice A3 n3 c3]] W fun e w' => (∃ v, e = .returned v ∧ ErrW ad w' v p) ∧ Below W.heap.size W w') :
 Calls Tryd.prog 15 #[.agg #[.slice A0 n0 c0, .slice A1 n1 c1, .int .i64 a2, .slice A3 n3 c3], .int .i64 i, .int .i64 tm, .bool r] w fun e w' => ∃ t u, e = .returned (.tuple #[.slice none 0 0, .iface t u]) ∧ ErrW ad w' (.iface t u) p ∧ Below w.heap.size w w' := by
 have hb0 := C0i_start w #[.slice A0 n0 c0, .slice A1 n1 c1, .int .i64 a2, .slice A3 n3 c3] i tm
 have KC : Aside0 (Calls Tryd.prog 52 #[.agg #[.slice A0 n0 c0, .slice A1 n1 c1, .int .i64 a2, .slice A3 n3 c3]] _ fun e w' => ∃ t u, e = .returned (.iface t u) ∧ Aside0 (ErrW ad w' (.iface t u) p ∧ Below w.heap.size w w')) := ⟨(hC _ hb0).mono fun e w' ⟨⟨v, he, hv⟩, hb⟩ => by
  obtain ⟨t, u, rfl⟩ := hv.any hp
  exact ⟨t, u, he, ⟨hv, hb0.trans (hb.mono hb0.size)⟩⟩⟩
 clear hC hb0
 go_enter Tryd.func15, Tryd.ntmps15
 go_wp2
 go_step3
 go_wp2_with (first
  | (go_at_call 52; (with_reducible refine KC.out.mono ?_); rintro e w1 ⟨t, u, rfl, t1⟩))
 (try rw [Exit.noGoto_ret])
 refine bodyPost_ret (v := .tuple #[.slice none 0 0, .iface t u]) (by simp [results, Tryd.results15, go_sem]) rfl ⟨t, u, rfl, t1.out.1, t1.out.2⟩
set_option maxHeartbeats 8000000 in
set_option maxRecDepth 100000 in
theorem Chain_arg (E1 : Value) (A0 : Option Addr) (n0 c0 : Nat) (A1 : Option Addr) (n1 c1 : Nat) (a2 : Int) (A3 : Option Addr) (n3 c3 : Nat) (i tm : Int) (r : Bool) (w : World) (h1 : w.cell? ⟨0, 0, none⟩ = some E1) (h0 : n0 ≤ 60) (h1' : n1 ≤ 60)
 (hC : ∀ W, Below w.heap.size w W → Calls Tryd.prog 52 #[.agg #[.slice A0 n0 c0, .slice A1 n1 c1, .int .i64 a2, .slice A3 n3 c3]] W fun e w' => e = .returned .nilIface ∧ Below W.heap.size W w')
 (ho : i < 0 ∨ (n1 : Int) ≤ i ∨ tm < 0 ∨ (n0 : Int) ≤ tm) :
 Calls Tryd.prog 15 #[.agg #[.slice A0 n0 c0, .slice A1 n1 c1, .int .i64 a2, .slice A3 n3 c3], .int .i64 i, .int .i64 tm, .bool r] w fun e w' => e = .returned (.tuple #[.slice none 0 0, E1]) ∧ Below w.heap.size w w' := by
 have hb0 := C0i_start w #[.slice A0 n0 c0, .slice A1 n1 c1, .int .i64 a2, .slice A3 n3 c3] i tm
 have hx0 := ((Box.new w #[.slice A0 n0 c0, .slice A1 n1 c1, .int .i64 a2, .slice A3 n3 c3] 32).alloc (.cells #[.int .i64 i] 3)).alloc (.cells #[.int .i64 tm] 3)
 have hx1 : Box (w.heap.size + 1) #[.int .i64 i] 3 (((w.alloc (.cells #[.slice A0 n0 c0, .slice A1 n1 c1, .int .i64 a2, .slice A3 n3 c3] 32)).alloc (.cells #[.int .i64 i] 3)).alloc (.cells #[.int .i64 tm] 3)) := by
  have := (Box.new (w.alloc (.cells #[.slice A0 n0 c0, .slice A1 n1 c1, .int .i64 a2, .slice A3 n3 c3] 32)) #[.int .i64 i] 3).alloc (.cells #[.int .i64 tm] 3)
  simpa using this
 have hx2 : Box (w.heap.size + 2) #[.int .i64 tm] 3 (((w.alloc (.cells #[.slice A0 n0 c0, .slice A1 n1 c1, .int .i64 a2, .slice A3 n3 c3] 32)).alloc (.cells #[.int .i64 i] 3)).alloc (.cells #[.int .i64 tm] 3)) := by
  have := Box.new ((w.alloc (.cells #[.slice A0 n0 c0, .slice A1 n1 c1, .int .i64 a2, .slice A3 n3 c3] 32)).alloc (.cells #[.int .i64 i] 3)) #[.int .i64 tm] 3
  simpa using this
 have KC : Aside0 (Calls Tryd.prog 52 #[.agg #[.slice A0 n0 c0, .slice A1 n1 c1, .int .i64 a2, .slice A3 n3 c3]] _ fun e w' => e = .returned .nilIface ∧ Aside0 (Below w.heap.size w w') ∧ w'.cell? ⟨w.heap.size, 0, none⟩ = some (.slice A0 n0 c0) ∧ w'.cell? ⟨w.heap.size, 1, none⟩ = some (.slice A1 n1 c1) ∧ w'.cell? ⟨w.heap.size + 1, 0, none⟩ = some (.int .i64 i) ∧ w'.cell? ⟨w.heap.size + 2, 0, none⟩ = some (.int .i64 tm) ∧ w'.cell? ⟨0, 0, none⟩ = some E1) := ⟨(hC _ hb0).mono fun e w' ⟨he, hb⟩ =>
  ⟨he, ⟨hb0.trans (hb.mono hb0.size)⟩, (hx0.below hb).cell 0 _ rfl, (hx0.below hb).cell 1 _ rfl, (hx1.below hb).cell 0 _ rfl, (hx2.below hb).cell 0 _ rfl, ((hb0.trans (hb.mono hb0.size)).cell (World.block_lt_of_cell? w _ h1)).trans h1⟩⟩
 clear hC hb0 hx0 hx1 hx2
 have hcase : (i < 0) ∨ (¬ i < 0 ∧ (n1 : Int) ≤ i) ∨ (¬ i < 0 ∧ ¬ (n1 : Int) ≤ i ∧ tm < 0) ∨ (¬ i < 0 ∧ ¬ (n1 : Int) ≤ i ∧ ¬ tm < 0 ∧ (n0 : Int) ≤ tm) := by omega
 have H0 := Lib.hid h0
 have H1 := Lib.hid h1'
 clear ho
 rcases hcase with a1 | ⟨a1, a3⟩ | ⟨a1, a3, a4⟩ | ⟨a1, a3, a4, a5⟩
 · have d1 := decide_eq_true a1
   have HA := Lib.hid a1
   clear a1
   go_enter Tryd.func15, Tryd.ntmps15
   go_wp2
   go_step3
   go_wp2_with (go_at_call 52; (with_reducible refine KC.out.mono ?_); rintro e w1 ⟨rfl, t1, f0, f1, f2, f3, f4⟩)
   go_quiet (fail)
   go_wp2_with fail
   (try rw [Exit.noGoto_ret])
   exact bodyPost_ret (v := .tuple #[.slice none 0 0, E1]) (by simp [results, Tryd.results15, go_sem]) rfl ⟨rfl, pw_below_drewN t1.out _⟩
 · have d1 := decide_eq_false a1
   have d2 := decide_eq_true a3
   have HA := Lib.hid a1
   have HB := Lib.hid a3
   clear a1 a3
   go_enter Tryd.func15, Tryd.ntmps15
   go_wp2
   go_step3
   go_wp2_with (go_at_call 52; (with_reducible refine KC.out.mono ?_); rintro e w1 ⟨rfl, t1, f0, f1, f2, f3, f4⟩)
   go_quiet (fail)
   go_wp2_with fail
   (try rw [Exit.noGoto_ret])
   exact bodyPost_ret (v := .tuple #[.slice none 0 0, E1]) (by simp [results, Tryd.results15, go_sem]) rfl ⟨rfl, pw_below_drewN t1.out _⟩
 · have d1 := decide_eq_false a1
   have d2 := decide_eq_false a3
   have d3 := decide_eq_true a4
   have HA := Lib.hid a1
   have HB := Lib.hid a3
   have HC := Lib.hid a4
   clear a1 a3 a4
   go_enter Tryd.func15, Tryd.ntmps15
   go_wp2
   go_step3
   go_wp2_with (go_at_call 52; (with_reducible refine KC.out.mono ?_); rintro e w1 ⟨rfl, t1, f0, f1, f2, f3, f4⟩)
   go_quiet (fail)
   go_wp2_with fail
   (try rw [Exit.noGoto_ret])
   exact bodyPost_ret (v := .tuple #[.slice none 0 0, E1]) (by simp [results, Tryd.results15, go_sem]) rfl ⟨rfl, pw_below_drewN t1.out _⟩
 · have d1 := decide_eq_false a1
   have d2 := decide_eq_false a3
   have d3 := decide_eq_false a4
   have d4 := decide_eq_true a5
   have HA := Lib.hid a1
   have HB := Lib.hid a3
   have HC := Lib.hid a4
   have HD := Lib.hid a5
   clear a1 a3 a4 a5
   go_enter Tryd.func15, Tryd.ntmps15
   go_wp2
   go_step3
   go_wp2_with (go_at_call 52; (with_reducible refine KC.out.mono ?_); rintro e w1 ⟨rfl, t1, f0, f1, f2, f3, f4⟩)
   go_quiet (fail)
   go_wp2_with fail
   (try rw [Exit.noGoto_ret])
   exact bodyPost_ret (v := .tuple #[.slice none 0 0, E1]) (by simp [results, Tryd.results15, go_sem]) rfl ⟨rfl, pw_below_drewN t1.out _⟩
set_option maxHeartbeats 4000000 in
set_option maxRecDepth 100000 in
theorem Of_err (ad : Int → Addr) (p : Int × Int) (hp : p.1 ≠ 0) (A0 : Option Addr) (n0 c0 : Nat) (A1 : Option Addr) (n1 c1 : Nat) (a2 : Int) (A3 : Option Addr) (n3 c3 : Nat) (w : World)
 (hC : ∀ W, Below w.heap.size w W → Calls Tryd.prog 52 #[.agg #[.slice A0 n0 c0, .slice A1 n1 c1, .int .i64 a2, .slice A3 n3 c3]] W fun e w' => (∃ v, e = .returned v ∧ ErrW ad w' v p) ∧ Below W.heap.size W w') :
 Calls Tryd.prog 17 #[.agg #[.slice A0 n0 c0, .slice A1 n1 c1, .int .i64 a2, .slice A3 n3 c3]] w fun e w' => ∃ t u, e = .returned (.tuple #[.agg #[.slice none 0 0, .slice none 0 0], .iface t u]) ∧ ErrW ad w' (.iface t u) p ∧ Below w.heap.size w w' := by
 obtain ⟨cs, hcs⟩ : ∃ cs : Array Value, cs = #[.slice A0 n0 c0, .slice A1 n1 c1, .int .i64 a2, .slice A3 n3 c3] := ⟨_, rfl⟩
 have CE : ∀ W, GO w cs W → CO w (.slice A0 n0 c0) (.slice A1 n1 c1) (.int .i64 a2) (.slice A3 n3 c3) W := by
  intro W hW; subst hcs; exact hW.cells
 have st : GO w cs ((w.alloc (.cells #[.slice A0 n0 c0, .slice A1 n1 c1, .int .i64 a2, .slice A3 n3 c3] 32)).alloc (.cells #[.slice none 0 0, .slice none 0 0] 36)) := by subst hcs; exact GO.start w _
 have kC : ∀ W, GO w cs W → Calls Tryd.prog 52 #[.agg #[.slice A0 n0 c0, .slice A1 n1 c1, .int .i64 a2, .slice A3 n3 c3]] W fun e w' => ∃ t u, e = .returned (.iface t u) ∧ Aside0 (GO w cs w' ∧ ErrW ad w' (.iface t u) p) := fun W hW => (hC W hW.low).mono fun e w' ⟨⟨v, he, hv⟩, hb⟩ => by
  obtain ⟨t, u, rfl⟩ := hv.any hp
  exact ⟨t, u, he, ⟨hW.more hb, hv⟩⟩
 have ST := Aside0.mk st
 have CE' := Aside0.mk CE
 have HCS := Lib.hid hcs
 have KC := Aside0.mk kC
 clear st CE hcs kC hC
 go_enter Tryd.func17, Tryd.ntmps17
 go_wp2_with (first
  | (go_at_call 52; (with_reducible refine (KC.out _ ST.out).mono ?_); rintro e w1 ⟨te, ue, rfl, t1⟩; obtain ⟨f0, f1, f2, f3, f4, f5, f6, f7⟩ := CE'.out _ t1.out.1))
 have hb := t1.out.1.low
 have hx : Box (w.heap.size + 1) #[.slice none 0 0, .slice none 0 0] 36 w1 := t1.out.1.2.2
 have hE1 := ErrW_far t1.out.2 hx (by decide) 0 (.slice none 0 0)
 have hx2 : Box (w.heap.size + 1) #[.slice none 0 0, .slice none 0 0] 36 (w1.setCell ⟨w.heap.size + 1, 0, none⟩ (.slice none 0 0)) := by
  have := blk_put (w := w1) (g := w.heap.size + 1) (cs := #[.slice none 0 0, .slice none 0 0]) (t := 36) hx 0 (.slice none 0 0) rfl
  exact this
 have hE2 := ErrW_far hE1 hx2 (by decide) 1 (.slice none 0 0)
 exact bodyPost_ret (v := .tuple #[.agg #[.slice none 0 0, .slice none 0 0], .iface te ue]) (by simp [results, Tryd.results17, go_sem, f4, f5]) rfl ⟨te, ue, rfl, hE2, (hb.setCell (p := ⟨w.heap.size + 1, 0, none⟩) (by dsimp only; omega) _).setCell (p := ⟨w.heap.size + 1, 1, none⟩) (by dsimp only; omega) _⟩

noncomputable def endsS (l0 l1 : List ByteArray) (a2 : Int) (R : List S41) (a : Int) : List Int := open Classical in if h : ∃ S, ∃ k, ends_sets.f k l0 l1 a2 R a = some S then Classical.choose h else []
theorem endsS_is {l0 l1 : List ByteArray} {a2 : Int} {R : List S41} {a : Int} {k : Nat} {S : List Int} (h : ends_sets.f k l0 l1 a2 R a = some S) : endsS l0 l1 a2 R a = S := by
 have hex : ∃ S, ∃ k, ends_sets.f k l0 l1 a2 R a = some S := ⟨S, k, h⟩
 unfold endsS
 rw [dif_pos hex]
 obtain ⟨k', h'⟩ := Classical.choose_spec hex
 have e1 := at_rounds (g := fun k => ends_sets.f k l0 l1 a2 R a) (fun k => ends_sets.mono _ _ _ _ _ k) (Nat.le_max_left k k') h
 have e2 := at_rounds (g := fun k => ends_sets.f k l0 l1 a2 R a) (fun k => ends_sets.mono _ _ _ _ _ k) (Nat.le_max_right k k') h'
 exact Option.some.inj (e2.symm.trans e1)
def chkG (l0 l1 : List ByteArray) (a2 : Int) (R : List S41) : Int × Int := chk (namesOK l0) (namesOK l1) l0.length l1.length a2 R
noncomputable def ends_Of.f (l0 l1 : List ByteArray) (a2 : Int) (R : List S41) : Option (List Int × List Int × Option Int) :=
 some (if (chkG l0 l1 a2 R).1 = 0 then (endsS l0 l1 a2 R 0, endsS l0 l1 a2 R 1, none) else ([], [], encE (chkG l0 l1 a2 R)))
def chainG (l0 l1 : List ByteArray) (a2 : Int) (R : List S41) (i tm : Int) (r : Bool) : List Int × Option Int :=
 if (chkG l0 l1 a2 R).1 = 0 then
  if i < 0 ∨ (l1.length : Int) ≤ i ∨ tm < 0 ∨ (l0.length : Int) ≤ tm then ([], encE (1, -1)) else
  if (farF r tm.toNat l1.length R).getD i.toNat 0 = 0 then ([], encE (15, -1)) else
  (walkC r tm.toNat (farF r tm.toNat l1.length R) R ((farF r tm.toNat l1.length R).getD i.toNat 0).toNat i.toNat, none)
 else ([], encE (chkG l0 l1 a2 R))
def ends_Chain.f (l0 l1 : List ByteArray) (a2 : Int) (R : List S41) (i tm : Int) (r : Bool) : Option (List Int × Option Int) := some (chainG l0 l1 a2 R i tm r)
theorem encE_ne {p : Int × Int} (h : p.1 ≠ 0) : ∃ c, encE p = some c := ⟨_, if_neg h⟩
theorem ends_Of.calls (ad : Int → Addr) (A0 : Option Addr) (c0 : Nat) (l0 : List ByteArray) (A1 : Option Addr) (c1 : Nat) (l1 : List ByteArray) (a2 : Int) (A3 : Option Addr) (c3 : Nat) (l3 : List S41) (r1 r2 : List Int) (r3 : Option Int) (w : World) (hs : SentsK ad w) (hr0 : Kd.C Kd.string w A0 l0.length l0) (hc0 : l0.length ≤ c0) (hr1 : Kd.C Kd.string w A1 l1.length l1) (hc1 : l1.length ≤ c1) (hr3 : Kd.C k41 w A3 l3.length l3) (hc3 : l3.length ≤ c3) (h : ends_Of.f l0 l1 a2 l3 = some (r1, r2, r3)) :
 Calls Tryd.prog 17 #[.agg #[.slice A0 l0.length c0, .slice A1 l1.length c1, .int .i64 a2, .slice A3 l3.length c3]] w fun e w' => ∃ v0 v1 tx, e = .returned (.tuple #[.agg #[v0, v1], errV tx r3]) ∧ Kq.R (Kd.int .u64) 45 w' w.heap.size (fun k => w.heap.size ≤ k ∧ some k ≠ v1.ownBlock) v0 r1 ∧ Kq.R (Kd.int .u64) 45 w' w.heap.size (fun k => w.heap.size ≤ k ∧ some k ≠ v0.ownBlock) v1 r2 ∧ ErrF ad w' (errV tx r3) r3 ∧ Below w.heap.size w w' := by
 have h' := Option.some.inj h
 have kC := fun W (hb : Below w.heap.size w W) => Check_any ad A0 c0 l0 A1 c1 l1 a2 A3 c3 l3 W (hs.below hb) (Kd.C_below hr0 hb) hc0 (Kd.C_below hr1 hb) hc1 (Kd.C_below hr3 hb) hc3
 by_cases hp : (chkG l0 l1 a2 l3).1 = 0
 · rw [if_pos hp] at h'
   obtain ⟨q1, q2, q3, q4, q5, q6, q7⟩ := chk_ok hp
   obtain ⟨k1, S1, e1, _⟩ := Sets_ev l0.length 0 l0 l1 a2 l3 (by omega) (by omega) q7 q2
   obtain ⟨k2, S2, e2, _⟩ := Sets_ev l0.length 1 l0 l1 a2 l3 (by omega) (by omega) q7 q2
   rw [endsS_is e1, endsS_is e2] at h'
   injection h' with h1 h2
   injection h2 with h2 h3
   subst h1 h2 h3
   have f1 := at_rounds (g := fun k => ends_sets.f k l0 l1 a2 l3 0) (fun k => ends_sets.mono _ _ _ _ _ k) (Nat.le_max_left k1 k2) e1
   have f2 := at_rounds (g := fun k => ends_sets.f k l0 l1 a2 l3 1) (fun k => ends_sets.mono _ _ _ _ _ k) (Nat.le_max_right k1 k2) e2
   refine (Of_ok (fun _ => ⟨0, 0, none⟩) A0 c0 l0 A1 c1 l1 a2 A3 c3 l3 _ S1 S2 w hr0 hc0 hr1 hc1 hr3 hc3 (fun W hb => (kC W hb).mono fun e w' ⟨⟨v, he, hv⟩, hb'⟩ => ⟨by rw [he, hv.nil hp], hb'⟩) f1 f2).mono ?_
   rintro e w' ⟨v0, v1, rfl, R0, R1, hap, hb⟩
   refine ⟨v0, v1, (0, .nilIface), rfl, Kq.R_mono (Kq.R_bound (Kq.R_of (fun h => h) (Kd.R_of_own (enc := Value.int .u64) (h1 := fun _ => rfl) (ok := fun k => v0.ownBlock = some k) (Kd.own_of_R R0) (fun k hk => hk)))) (fun k hk => ⟨hk.2.1, fun e => ?_⟩), Kq.R_mono (Kq.R_bound (Kq.R_of (fun h => h) (Kd.R_of_own (enc := Value.int .u64) (h1 := fun _ => rfl) (ok := fun k => v1.ownBlock = some k) (Kd.own_of_R R1) (fun k hk => hk)))) (fun k hk => ⟨hk.2.1, fun e => ?_⟩), ⟨(0, -1), .inl ⟨rfl, rfl, rfl⟩, rfl⟩, hb⟩
   · rcases hap with h0 | h0
     · rw [hk.1] at h0; cases h0
     · exact h0 (hk.1.trans e)
   · rcases hap with h0 | h0
     · rw [h0] at e; cases e
     · exact h0 (e.symm.trans hk.1.symm)
 · rw [if_neg hp] at h'
   injection h' with h1 h2
   injection h2 with h2 h3
   subst h1 h2
   refine (Of_err ad (chkG l0 l1 a2 l3) hp A0 l0.length c0 A1 l1.length c1 a2 A3 l3.length c3 w (fun W hb => (kC W hb).mono fun e w' ⟨⟨v, he, hv⟩, hb'⟩ => ⟨⟨v, he, ErrW.of hv⟩, hb'⟩)).mono ?_
   rintro e w' ⟨t, u, rfl, hE, hb⟩
   obtain ⟨c, hc⟩ := encE_ne hp
   rw [hc] at h3
   subst h3
   exact ⟨_, _, (t, u), rfl, Kq.R_nil (fun h => h) _ _ _ _, Kq.R_nil (fun h => h) _ _ _ _, ⟨_, hE, hc.symm⟩, hb⟩
end Go.Proofs.YtjkifeladmhkoaaDoor.E8
namespace Go.Proofs.YtjkifeladmhkoaaDoor.Er
open B (S41 z41 k41 k41_open k41_mk rd_T41 at_T41 dovetailref03_Check.f dovetailref03_Check.calls dovetailref03_Check.mono)
open E8 (dovetailref08_Shows.f dovetailref08_Shows.calls dovetailref08_Leads.f dovetailref08_Leads.calls)
open Go.RowKit YtjkifeladmhkoaaDoorW.PrintWords YtjkifeladmhkoaaDoorW.PrintLast YtjkifeladmhkoaaDoorW.PrintMore
attribute [local go_sem] max2_int min2_int max_two min_two max_three min_three max_four min_four   -- for this text's walks alone
set_option linter.unusedVariables false
set_option linter.unusedSimpArgs false

mutual
def dovetailref08_Chain.j0 : Nat → Int → Int → Bool → Bool → List ByteArray → List ByteArray → Int → List (S41) → Option (List Int × Int × Int)
 | 0, _, _, _, _, _, _, _, _ => none
 | k + 1, x1, x2, x3, x51, x149000, x149001, x149002, x149003 => if x51 = true then (some (([] : List Int), 1, (-1))) else (if 0 ≤ (x149001.length : Int) then (if ((x149001.length : Int) : Int).toNat ≤ 281474976710656 then ((some (List.replicate ((x149001.length : Int) : Int).toNat false : List Bool)).bind fun y151 => (if 0 ≤ x1 then (if x1 < (y151.length : Int) then (dovetailref08_Chain.l0 k x2 x3 (y151.set (x1 : Int).toNat true) (([x1] : List Int)) (([[]] : List (List Int))) x149000 x149001 x149002 x149003) else (none)) else (none))) else (none)) else (none))
def dovetailref08_Chain.l0 : Nat → Int → Bool → List Bool → List Int → List (List Int) → List ByteArray → List ByteArray → Int → List (S41) → Option (List Int × Int × Int)
 | 0, _, _, _, _, _, _, _, _, _ => none
 | k + 1, x2, x3, x13, x14, x15, x149000, x149001, x149002, x149003 => if (x14.length : Int) > 0 then (dovetailref08_Chain.l1 k x2 x3 x13 x14 x15 0 x149000 x149001 x149002 x149003) else (some (([] : List Int), 15, (-1)))
def dovetailref08_Chain.l1 : Nat → Int → Bool → List Bool → List Int → List (List Int) → Int → List ByteArray → List ByteArray → Int → List (S41) → Option (List Int × Int × Int)
 | 0, _, _, _, _, _, _, _, _, _, _ => none
 | k + 1, x2, x3, x13, x14, x15, x16, x149000, x149001, x149002, x149003 => if x16 < (x14.length : Int) then (dovetailref08_Chain.l2 k x2 x3 x13 x14 x15 x16 0 x149000 x149001 x149002 x149003) else (dovetailref08_Chain.l3 k x2 x3 x13 x14 x15 ([] : List Int) ([] : List (List Int)) 0 x149000 x149001 x149002 x149003)
def dovetailref08_Chain.l2 : Nat → Int → Bool → List Bool → List Int → List (List Int) → Int → Int → List ByteArray → List ByteArray → Int → List (S41) → Option (List Int × Int × Int)
 | 0, _, _, _, _, _, _, _, _, _, _, _ => none
 | k + 1, x2, x3, x13, x14, x15, x16, x17, x149000, x149001, x149002, x149003 => if x17 < (x149003.length : Int) then (if 0 ≤ x17 then (if 0 ≤ x16 then (if x16 < (x14.length : Int) then (if ((rd_T41 x149003 x17).f0) = (rd x14 x16) then ((dovetailref08_Shows.f ((rd_T41 x149003 x17).f0) ((rd_T41 x149003 x17).f1) x2 x3).bind fun t164 => (if t164 = true then (if x16 < (x15.length : Int) then ((dovetailref08_with.f (rd_L3 x15 x16) x17).bind fun t166 => (some (t166, 0, (-1)))) else (none)) else (dovetailref08_Chain.l2 k x2 x3 x13 x14 x15 x16 (wrap64 (x17 + 1)) x149000 x149001 x149002 x149003))) else (dovetailref08_Chain.l2 k x2 x3 x13 x14 x15 x16 (wrap64 (x17 + 1)) x149000 x149001 x149002 x149003)) else (none)) else (none)) else (none)) else (dovetailref08_Chain.l1 k x2 x3 x13 x14 x15 (wrap64 (x16 + 1)) x149000 x149001 x149002 x149003)
def dovetailref08_Chain.l3 : Nat → Int → Bool → List Bool → List Int → List (List Int) → List Int → List (List Int) → Int → List ByteArray → List ByteArray → Int → List (S41) → Option (List Int × Int × Int)
 | 0, _, _, _, _, _, _, _, _, _, _, _, _ => none
 | k + 1, x2, x3, x13, x14, x15, x18, x19, x20, x149000, x149001, x149002, x149003 => if x20 < (x14.length : Int) then (dovetailref08_Chain.l4 k x2 x3 x13 x14 x15 x18 x19 x20 0 x149000 x149001 x149002 x149003) else (dovetailref08_Chain.l0 k x2 x3 x13 x18 x19 x149000 x149001 x149002 x149003)
def dovetailref08_Chain.l4 : Nat → Int → Bool → List Bool → List Int → List (List Int) → List Int → List (List Int) → Int → Int → List ByteArray → List ByteArray → Int → List (S41) → Option (List Int × Int × Int)
 | 0, _, _, _, _, _, _, _, _, _, _, _, _, _ => none
 | k + 1, x2, x3, x13, x14, x15, x18, x19, x20, x21, x149000, x149001, x149002, x149003 => if x21 < (x149003.length : Int) then (if 0 ≤ x21 then ((dovetailref08_Leads.f ((rd_T41 x149003 x21).f0) ((rd_T41 x149003 x21).f1) x3).bind fun t170 => (if 0 ≤ x20 then (if x20 < (x14.length : Int) then (if ((rd_T41 x149003 x21).f0) = (rd x14 x20) then (if t170 ≥ 0 then (if 0 ≤ t170 then (if t170 < (x13.length : Int) then (if rdOf false x13 t170 = true then (dovetailref08_Chain.l4 k x2 x3 x13 x14 x15 x18 x19 x20 (wrap64 (x21 + 1)) x149000 x149001 x149002 x149003) else (if x18.length < 17592186044416 then (if x20 < (x15.length : Int) then ((dovetailref08_with.f (rd_L3 x15 x20) x21).bind fun t179 => (if x19.length < 5864062014805 then (dovetailref08_Chain.l4 k x2 x3 (x13.set (t170 : Int).toNat true) x14 x15 (x18 ++ [t170]) (x19 ++ [t179]) x20 (wrap64 (x21 + 1)) x149000 x149001 x149002 x149003) else (none))) else (none)) else (none))) else (none)) else (none)) else (dovetailref08_Chain.l4 k x2 x3 x13 x14 x15 x18 x19 x20 (wrap64 (x21 + 1)) x149000 x149001 x149002 x149003)) else (dovetailref08_Chain.l4 k x2 x3 x13 x14 x15 x18 x19 x20 (wrap64 (x21 + 1)) x149000 x149001 x149002 x149003)) else (none)) else (none))) else (none)) else (dovetailref08_Chain.l3 k x2 x3 x13 x14 x15 x18 x19 (wrap64 (x20 + 1)) x149000 x149001 x149002 x149003)
end
def dovetailref08_Chain.f (k : Nat) (l0_0 : List ByteArray) (l0_1 : List ByteArray) (a0_2 : Int) (l0_3 : List (S41)) (a1 : Int) (a2 : Int) (a3 : Bool) : Option (List Int × Int × Int) := (dovetailref03_Check.f k l0_0 l0_1 a0_2 l0_3).bind fun bt149 => (if bt149.1 = 0 then (if a1 < 0 then (dovetailref08_Chain.j0 k a1 a2 a3 true l0_0 l0_1 a0_2 l0_3) else (if a1 ≥ (l0_1.length : Int) then (dovetailref08_Chain.j0 k a1 a2 a3 true l0_0 l0_1 a0_2 l0_3) else (if a2 < 0 then (dovetailref08_Chain.j0 k a1 a2 a3 true l0_0 l0_1 a0_2 l0_3) else (dovetailref08_Chain.j0 k a1 a2 a3 (decide (a2 ≥ (l0_0.length : Int))) l0_0 l0_1 a0_2 l0_3)))) else (some (([] : List Int), bt149.1, bt149.2)))
theorem dovetailref08_Chain.mono_l : ∀ k, (∀ y0 y1 y2 y3 y4 y5 y6 y7, LeO (dovetailref08_Chain.j0 k y0 y1 y2 y3 y4 y5 y6 y7) (dovetailref08_Chain.j0 (k + 1) y0 y1 y2 y3 y4 y5 y6 y7)) ∧ (∀ y0 y1 y2 y3 y4 y5 y6 y7 y8, LeO (dovetailref08_Chain.l0 k y0 y1 y2 y3 y4 y5 y6 y7 y8) (dovetailref08_Chain.l0 (k + 1) y0 y1 y2 y3 y4 y5 y6 y7 y8)) ∧ (∀ y0 y1 y2 y3 y4 y5 y6 y7 y8 y9, LeO (dovetailref08_Chain.l1 k y0 y1 y2 y3 y4 y5 y6 y7 y8 y9) (dovetailref08_Chain.l1 (k + 1) y0 y1 y2 y3 y4 y5 y6 y7 y8 y9)) ∧ (∀ y0 y1 y2 y3 y4 y5 y6 y7 y8 y9 y10, LeO (dovetailref08_Chain.l2 k y0 y1 y2 y3 y4 y5 y6 y7 y8 y9 y10) (dovetailref08_Chain.l2 (k + 1) y0 y1 y2 y3 y4 y5 y6 y7 y8 y9 y10)) ∧ (∀ y0 y1 y2 y3 y4 y5 y6 y7 y8 y9 y10 y11, LeO (dovetailref08_Chain.l3 k y0 y1 y2 y3 y4 y5 y6 y7 y8 y9 y10 y11) (dovetailref08_Chain.l3 (k + 1) y0 y1 y2 y3 y4 y5 y6 y7 y8 y9 y10 y11)) ∧ (∀ y0 y1 y2 y3 y4 y5 y6 y7 y8 y9 y10 y11 y12, LeO (dovetailref08_Chain.l4 k y0 y1 y2 y3 y4 y5 y6 y7 y8 y9 y10 y11 y12) (dovetailref08_Chain.l4 (k + 1) y0 y1 y2 y3 y4 y5 y6 y7 y8 y9 y10 y11 y12))
 | 0 => ⟨fun _ _ _ _ _ _ _ _ r h => by simp [dovetailref08_Chain.j0] at h, fun _ _ _ _ _ _ _ _ _ r h => by simp [dovetailref08_Chain.l0] at h, fun _ _ _ _ _ _ _ _ _ _ r h => by simp [dovetailref08_Chain.l1] at h, fun _ _ _ _ _ _ _ _ _ _ _ r h => by simp [dovetailref08_Chain.l2] at h, fun _ _ _ _ _ _ _ _ _ _ _ _ r h => by simp [dovetailref08_Chain.l3] at h, fun _ _ _ _ _ _ _ _ _ _ _ _ _ r h => by simp [dovetailref08_Chain.l4] at h⟩
 | k + 1 => by
  obtain ⟨ih0, ih1, ih2, ih3, ih4, ih5⟩ := dovetailref08_Chain.mono_l k
  refine ⟨?_, ?_, ?_, ?_, ?_, ?_⟩
  · intro y0 y1 y2 y3 y4 y5 y6 y7
    unfold dovetailref08_Chain.j0
    repeat' first
    | (with_reducible exact ih0 _ _ _ _ _ _ _ _)
    | (with_reducible exact ih1 _ _ _ _ _ _ _ _ _)
    | (with_reducible exact ih2 _ _ _ _ _ _ _ _ _ _)
    | (with_reducible exact ih3 _ _ _ _ _ _ _ _ _ _ _)
    | (with_reducible exact ih4 _ _ _ _ _ _ _ _ _ _ _ _)
    | (with_reducible exact ih5 _ _ _ _ _ _ _ _ _ _ _ _ _)
    | (with_reducible exact dovetailref03_Check.mono _ _ _ _ _)
    | (with_reducible exact LeO.refl _)
    | (with_reducible exact LeO.none _)
    | (with_reducible refine LeO.ite ?_ ?_)
    | (with_reducible refine LeO.bind ?_ (fun _ => ?_))
    | exact ih0 _ _ _ _ _ _ _ _
    | exact ih1 _ _ _ _ _ _ _ _ _
    | exact ih2 _ _ _ _ _ _ _ _ _ _
    | exact ih3 _ _ _ _ _ _ _ _ _ _ _
    | exact ih4 _ _ _ _ _ _ _ _ _ _ _ _
    | exact ih5 _ _ _ _ _ _ _ _ _ _ _ _ _
    | exact dovetailref03_Check.mono _ _ _ _ _
    | exact LeO.none _
    | refine LeO.ite ?_ ?_
    | refine LeO.bind ?_ (fun _ => ?_)
  · intro y0 y1 y2 y3 y4 y5 y6 y7 y8
    unfold dovetailref08_Chain.l0
    repeat' first
    | (with_reducible exact ih0 _ _ _ _ _ _ _ _)
    | (with_reducible exact ih1 _ _ _ _ _ _ _ _ _)
    | (with_reducible exact ih2 _ _ _ _ _ _ _ _ _ _)
    | (with_reducible exact ih3 _ _ _ _ _ _ _ _ _ _ _)
    | (with_reducible exact ih4 _ _ _ _ _ _ _ _ _ _ _ _)
    | (with_reducible exact ih5 _ _ _ _ _ _ _ _ _ _ _ _ _)
    | (with_reducible exact dovetailref03_Check.mono _ _ _ _ _)
    | (with_reducible exact LeO.refl _)
    | (with_reducible exact LeO.none _)
    | (with_reducible refine LeO.ite ?_ ?_)
    | (with_reducible refine LeO.bind ?_ (fun _ => ?_))
    | exact ih0 _ _ _ _ _ _ _ _
    | exact ih1 _ _ _ _ _ _ _ _ _
    | exact ih2 _ _ _ _ _ _ _ _ _ _
    | exact ih3 _ _ _ _ _ _ _ _ _ _ _
    | exact ih4 _ _ _ _ _ _ _ _ _ _ _ _
    | exact ih5 _ _ _ _ _ _ _ _ _ _ _ _ _
    | exact dovetailref03_Check.mono _ _ _ _ _
    | exact LeO.none _
    | refine LeO.ite ?_ ?_
    | refine LeO.bind ?_ (fun _ => ?_)
  · intro y0 y1 y2 y3 y4 y5 y6 y7 y8 y9
    unfold dovetailref08_Chain.l1
    repeat' first
    | (with_reducible exact ih0 _ _ _ _ _ _ _ _)
    | (with_reducible exact ih1 _ _ _ _ _ _ _ _ _)
    | (with_reducible exact ih2 _ _ _ _ _ _ _ _ _ _)
    | (with_reducible exact ih3 _ _ _ _ _ _ _ _ _ _ _)
    | (with_reducible exact ih4 _ _ _ _ _ _ _ _ _ _ _ _)
    | (with_reducible exact ih5 _ _ _ _ _ _ _ _ _ _ _ _ _)
    | (with_reducible exact dovetailref03_Check.mono _ _ _ _ _)
    | (with_reducible exact LeO.refl _)
    | (with_reducible exact LeO.none _)
    | (with_reducible refine LeO.ite ?_ ?_)
    | (with_reducible refine LeO.bind ?_ (fun _ => ?_))
    | exact ih0 _ _ _ _ _ _ _ _
    | exact ih1 _ _ _ _ _ _ _ _ _
    | exact ih2 _ _ _ _ _ _ _ _ _ _
    | exact ih3 _ _ _ _ _ _ _ _ _ _ _
    | exact ih4 _ _ _ _ _ _ _ _ _ _ _ _
    | exact ih5 _ _ _ _ _ _ _ _ _ _ _ _ _
    | exact dovetailref03_Check.mono _ _ _ _ _
    | exact LeO.none _
    | refine LeO.ite ?_ ?_
    | refine LeO.bind ?_ (fun _ => ?_)
  · intro y0 y1 y2 y3 y4 y5 y6 y7 y8 y9 y10
    unfold dovetailref08_Chain.l2
    repeat' first
    | (with_reducible exact ih0 _ _ _ _ _ _ _ _)
    | (with_reducible exact ih1 _ _ _ _ _ _ _ _ _)
    | (with_reducible exact ih2 _ _ _ _ _ _ _ _ _ _)
    | (with_reducible exact ih3 _ _ _ _ _ _ _ _ _ _ _)
    | (with_reducible exact ih4 _ _ _ _ _ _ _ _ _ _ _ _)
    | (with_reducible exact ih5 _ _ _ _ _ _ _ _ _ _ _ _ _)
    | (with_reducible exact dovetailref03_Check.mono _ _ _ _ _)
    | (with_reducible exact LeO.refl _)
    | (with_reducible exact LeO.none _)
    | (with_reducible refine LeO.ite ?_ ?_)
    | (with_reducible refine LeO.bind ?_ (fun _ => ?_))
    | exact ih0 _ _ _ _ _ _ _ _
    | exact ih1 _ _ _ _ _ _ _ _ _
    | exact ih2 _ _ _ _ _ _ _ _ _ _
    | exact ih3 _ _ _ _ _ _ _ _ _ _ _
    | exact ih4 _ _ _ _ _ _ _ _ _ _ _ _
    | exact ih5 _ _ _ _ _ _ _ _ _ _ _ _ _
    | exact dovetailref03_Check.mono _ _ _ _ _
    | exact LeO.none _
    | refine LeO.ite ?_ ?_
    | refine LeO.bind ?_ (fun _ => ?_)
  · intro y0 y1 y2 y3 y4 y5 y6 y7 y8 y9 y10 y11
    unfold dovetailref08_Chain.l3
    repeat' first
    | (with_reducible exact ih0 _ _ _ _ _ _ _ _)
    | (with_reducible exact ih1 _ _ _ _ _ _ _ _ _)
    | (with_reducible exact ih2 _ _ _ _ _ _ _ _ _ _)
    | (with_reducible exact ih3 _ _ _ _ _ _ _ _ _ _ _)
    | (with_reducible exact ih4 _ _ _ _ _ _ _ _ _ _ _ _)
    | (with_reducible exact ih5 _ _ _ _ _ _ _ _ _ _ _ _ _)
    | (with_reducible exact dovetailref03_Check.mono _ _ _ _ _)
    | (with_reducible exact LeO.refl _)
    | (with_reducible exact LeO.none _)
    | (with_reducible refine LeO.ite ?_ ?_)
    | (with_reducible refine LeO.bind ?_ (fun _ => ?_))
    | exact ih0 _ _ _ _ _ _ _ _
    | exact ih1 _ _ _ _ _ _ _ _ _
    | exact ih2 _ _ _ _ _ _ _ _ _ _
    | exact ih3 _ _ _ _ _ _ _ _ _ _ _
    | exact ih4 _ _ _ _ _ _ _ _ _ _ _ _
    | exact ih5 _ _ _ _ _ _ _ _ _ _ _ _ _
    | exact dovetailref03_Check.mono _ _ _ _ _
    | exact LeO.none _
    | refine LeO.ite ?_ ?_
    | refine LeO.bind ?_ (fun _ => ?_)
  · intro y0 y1 y2 y3 y4 y5 y6 y7 y8 y9 y10 y11 y12
    unfold dovetailref08_Chain.l4
    repeat' first
    | (with_reducible exact ih0 _ _ _ _ _ _ _ _)
    | (with_reducible exact ih1 _ _ _ _ _ _ _ _ _)
    | (with_reducible exact ih2 _ _ _ _ _ _ _ _ _ _)
    | (with_reducible exact ih3 _ _ _ _ _ _ _ _ _ _ _)
    | (with_reducible exact ih4 _ _ _ _ _ _ _ _ _ _ _ _)
    | (with_reducible exact ih5 _ _ _ _ _ _ _ _ _ _ _ _ _)
    | (with_reducible exact dovetailref03_Check.mono _ _ _ _ _)
    | (with_reducible exact LeO.refl _)
    | (with_reducible exact LeO.none _)
    | (with_reducible refine LeO.ite ?_ ?_)
    | (with_reducible refine LeO.bind ?_ (fun _ => ?_))
    | exact ih0 _ _ _ _ _ _ _ _
    | exact ih1 _ _ _ _ _ _ _ _ _
    | exact ih2 _ _ _ _ _ _ _ _ _ _
    | exact ih3 _ _ _ _ _ _ _ _ _ _ _
    | exact ih4 _ _ _ _ _ _ _ _ _ _ _ _
    | exact ih5 _ _ _ _ _ _ _ _ _ _ _ _ _
    | exact dovetailref03_Check.mono _ _ _ _ _
    | exact LeO.none _
    | refine LeO.ite ?_ ?_
    | refine LeO.bind ?_ (fun _ => ?_)
theorem dovetailref08_Chain.mono : ∀ a0 a1 a2 a3 a4 a5 a6 k, LeO (dovetailref08_Chain.f k a0 a1 a2 a3 a4 a5 a6) (dovetailref08_Chain.f (k + 1) a0 a1 a2 a3 a4 a5 a6) := by
 intro a0 a1 a2 a3 a4 a5 a6 k
 obtain ⟨ih0, ih1, ih2, ih3, ih4, ih5⟩ := dovetailref08_Chain.mono_l k
 unfold dovetailref08_Chain.f
 repeat' first
  | (with_reducible exact ih0 _ _ _ _ _ _ _ _)
  | (with_reducible exact ih1 _ _ _ _ _ _ _ _ _)
  | (with_reducible exact ih2 _ _ _ _ _ _ _ _ _ _)
  | (with_reducible exact ih3 _ _ _ _ _ _ _ _ _ _ _)
  | (with_reducible exact ih4 _ _ _ _ _ _ _ _ _ _ _ _)
  | (with_reducible exact ih5 _ _ _ _ _ _ _ _ _ _ _ _ _)
  | (with_reducible exact dovetailref03_Check.mono _ _ _ _ _)
  | (with_reducible exact LeO.refl _)
  | (with_reducible exact LeO.none _)
  | (with_reducible refine LeO.ite ?_ ?_)
  | (with_reducible refine LeO.bind ?_ (fun _ => ?_))
  | exact ih0 _ _ _ _ _ _ _ _
  | exact ih1 _ _ _ _ _ _ _ _ _
  | exact ih2 _ _ _ _ _ _ _ _ _ _
  | exact ih3 _ _ _ _ _ _ _ _ _ _ _
  | exact ih4 _ _ _ _ _ _ _ _ _ _ _ _
  | exact ih5 _ _ _ _ _ _ _ _ _ _ _ _ _
  | exact dovetailref03_Check.mono _ _ _ _ _
  | exact LeO.none _
  | refine LeO.ite ?_ ?_
  | refine LeO.bind ?_ (fun _ => ?_)
def dovetailref08_Chain.T17 : Bool × List (List Nat × List Nat) := (true, [([], []), ([0], [0]), ([], []), ([1, 2], [1, 2]), ([3], [3]), ([4], [4]), ([], []), ([], []), ([6, 7], [6, 7]), ([8], [8]), ([5, 9], [5, 9]), ([10], [10]), ([11], [11]), ([12, 11], [11, 12]), ([11], [11]), ([13, 14, 11], [11, 13, 14]), ([15, 11], [11, 15]), ([11], [11]), ([11], [11]), ([16, 17, 18, 11, 11], [11, 16, 17, 18]), ([11, 19], [11, 19])])
def dovetailref08_Chain.B17 : List Nat := [0, 1, 0, 7, 15, 31, 0, 0, 192, 448, 1023, 2047, 4095, 8191, 4095, 32767, 65535, 4095, 4095, 524287, 1048575]
theorem dovetailref08_Chain.tab17 : rtab .any (opsOf Tryd.f31 17) = dovetailref08_Chain.T17 := by kernel_rfl
theorem dovetailref08_Chain.bits17 : waitsOk dovetailref08_Chain.T17.2 dovetailref08_Chain.B17 = true := by kernel_rfl
def dovetailref08_Chain.T28 : Bool × List (List Nat × List Nat) := (true, [([], []), ([0], [0]), ([], []), ([1, 2], [1, 2]), ([3], [3]), ([4], [4]), ([], []), ([], []), ([6, 7], [6, 7]), ([8], [8]), ([5, 9], [5, 9]), ([10], [10]), ([11], [11]), ([12, 11], [11, 12]), ([11, 13], [11, 13]), ([14, 11], [14]), ([15], [15]), ([15], [15]), ([16, 17, 15], [15, 16, 17]), ([18, 15], [15, 18]), ([19, 15], [15, 19]), ([15, 20], [15, 20])])
def dovetailref08_Chain.B28 : List Nat := [0, 1, 0, 7, 15, 31, 0, 0, 192, 448, 1023, 2047, 4095, 8191, 16383, 32767, 65535, 65535, 262143, 524287, 1048575, 2097151]
theorem dovetailref08_Chain.tab28 : rtab .any (opsOf Tryd.f31 28) = dovetailref08_Chain.T28 := by kernel_rfl
theorem dovetailref08_Chain.bits28 : waitsOk dovetailref08_Chain.T28.2 dovetailref08_Chain.B28 = true := by kernel_rfl
end Go.Proofs.YtjkifeladmhkoaaDoor.Er
/- The document's chain of chapter 8, in plain Lean: the one that ends.Chain tells. -/
set_option linter.unusedVariables false
set_option linter.unusedSimpArgs false
namespace Go.Proofs.YtjkifeladmhkoaaDoor.E8
open Go.RowKit Go.Proofs.YtjkifeladmhkoaaDoorW.PrintWords Go.Proofs.YtjkifeladmhkoaaDoorW.PrintLast Go.Proofs.YtjkifeladmhkoaaDoorW.PrintMore
open Go.Proofs.YtjkifeladmhkoaaDoor.B Go.Proofs.YtjkifeladmhkoaaDoor.Er Go.Proofs.YtjkifeladmhkoaaDoor.F

abbrev atsG (l : List (Nat × List Int)) : List Int := l.map fun e => (e.1 : Int)
abbrev waysG (l : List (Nat × List Int)) : List (List Int) := l.map fun e => e.2
theorem with_f (p : List Int) (k : Int) (h : p.length < 17592186044416) : dovetailref08_with.f p k = some (p ++ [k]) := by
 unfold dovetailref08_with.f
 rw [if_pos (by simpa using h), Option.bind_some, if_pos (by simpa using h)]
 rfl
theorem rdL3_G (l : List (List Int)) (i : Nat) (h : i < l.length) : rd_L3 l (i : Int) = l[i] := by
 show l.getD (i : Int).toNat [] = l[i]
 rw [Int.toNat_natCast]
 simp [List.getD_eq_getElem?_getD, List.getElem?_eq_getElem h]
structure InvG (N c : Nat) (s : Rg) : Prop where
 len : s.seen.length = N
 cnt : cntE s.seen = c + s.nx.length
 pth : ∀ e ∈ s.nx, e.2.length ≤ c + 1
theorem InvG.small {N c : Nat} {s : Rg} (h : InvG N c s) : c + s.nx.length ≤ N := by
 have h1 := cntE_le s.seen
 have h2 := h.len
 have h3 := h.cnt
 omega
section
variable {R : List S41} {r : Bool} {tt N t : Nat} {l0 l1 : List ByteArray} {a2 : Int} {V : List Int × Int × Int}
theorem InvG.step {c a k : Nat} {p : List Int} {x : S41} {s : Rg} (h : InvG N c s) (hok : okR tt N x = true) (hp : p.length ≤ c) : InvG N c (exStep r a p s k x) := by
 unfold exStep
 split
 · split
   · rename_i m hm
     split
     · exact h
     · rename_i hn
       rw [Bool.not_eq_true] at hn
       refine ⟨by simp [h.len], ?_, fun e he => ?_⟩
       · dsimp only
         rw [cntE_set _ _ (by rw [h.len]; exact led_lt hok hm) hn, h.cnt, List.length_append]; rfl
       · rcases List.mem_append.1 he with he | he
         · exact h.pth e he
         · obtain rfl := List.mem_singleton.1 he
           simp; omega
   · exact h
 · exact h
theorem InvG.exR {c a : Nat} {p : List Int} (hp : p.length ≤ c) : ∀ (l : List S41) (k : Nat) (s : Rg), (∀ x ∈ l, okR tt N x = true) → InvG N c s → InvG N c (exR r a p l k s)
 | [], _, _, _, h => h
 | x :: l, k, s, hl, h => by
  unfold E8.exR
  exact InvG.exR hp l (k + 1) _ (fun y hy => hl y (List.mem_cons_of_mem _ hy)) (h.step (hl x List.mem_cons_self) hp)
theorem InvG.exA {c : Nat} (hR : ∀ x ∈ R, okR tt N x = true) : ∀ (l : List (Nat × List Int)) (s : Rg), (∀ e ∈ l, e.2.length ≤ c) → InvG N c s → InvG N c (exA r R l s)
 | [], _, _, h => h
 | e :: l, s, hl, h => by
  unfold E8.exA
  exact InvG.exA hR l _ (fun y hy => hl y (List.mem_cons_of_mem _ hy)) (InvG.exR (hl e List.mem_cons_self) R 0 s hR h)
theorem shR_cons (a : Nat) (p : List Int) (x : S41) (l : List S41) (k : Nat) : shR r t a p (x :: l) k = if x.f0 = (a : Int) ∧ shw r x.f1 = some t then some (p ++ [(k : Int)]) else shR r t a p l (k + 1) := rfl
theorem shA_cons (e : Nat × List Int) (l : List (Nat × List Int)) : shA r t R (e :: l) = match shR r t e.1 e.2 R 0 with | some q => some q | none => shA r t R l := rfl
theorem l2_G (hR : ∀ x ∈ R, okR tt N x = true) (hl : R.length ≤ 120) (seen : List Bool) (at_ : List (Nat × List Int)) (i : Nat) (hi : i < at_.length) (hsm : at_.length ≤ 60) (hp : ∀ e ∈ at_, e.2.length ≤ 60)
 (hno : shR r t at_[i].1 at_[i].2 R 0 = none → ∃ k, dovetailref08_Chain.l1 k (t : Int) r seen (atsG at_) (waysG at_) ((i + 1 : Nat) : Int) l0 l1 a2 R = some V) (hyes : ∀ q, shR r t at_[i].1 at_[i].2 R 0 = some q → V = (q, 0, -1)) :
 ∀ (d j : Nat), R.length - j = d → j ≤ R.length → shR r t at_[i].1 at_[i].2 R 0 = shR r t at_[i].1 at_[i].2 (R.drop j) j → ∃ k, dovetailref08_Chain.l2 k (t : Int) r seen (atsG at_) (waysG at_) (i : Int) (j : Int) l0 l1 a2 R = some V := by
 intro d
 induction d with
 | zero =>
  intro j hd hj he
  have : j = R.length := by omega
  subst this
  rw [List.drop_length] at he
  obtain ⟨k, hk⟩ := hno he
  refine ⟨k + 1, ?_⟩
  rw [dovetailref08_Chain.l2, if_neg (by omega), w64 i (by omega)]
  exact hk
 | succ d ih =>
  intro j hd hj he
  have hlt : j < R.length := by omega
  have hok := hR R[j] (List.getElem_mem hlt)
  have hrd : rd_T41 R (j : Int) = R[j] := by rw [rdR_D, getD_lt R j _ hlt]
  have hat : rd (atsG at_) (i : Int) = (at_[i].1 : Int) := by
   rw [rd_D, getD_lt _ _ _ (by simpa using hi)]; simp
  have hway : rd_L3 (waysG at_) (i : Int) = at_[i].2 := by
   rw [rdL3_G _ _ (by simpa using hi)]; simp
  have hpi := hp _ (List.getElem_mem hi)
  rw [List.drop_eq_getElem_cons hlt, shR_cons] at he
  have hal : (atsG at_).length = at_.length := by simp
  have hwl : (waysG at_).length = at_.length := by simp
  by_cases c : R[j].f0 = (at_[i].1 : Int) ∧ shw r R[j].f1 = some t
  · rw [if_pos c] at he
    refine ⟨1, ?_⟩
    rw [dovetailref08_Chain.l2, if_pos (by omega), if_pos (by omega), if_pos (by omega), if_pos (by omega), hrd, hat, if_pos c.1, shows_f hok, Option.bind_some, if_pos (by simp [c.2]), if_pos (by omega), hway, with_f _ _ (by omega), Option.bind_some, hyes _ he]
  · rw [if_neg c] at he
    obtain ⟨k, hk⟩ := ih (j + 1) (by omega) (by omega) he
    refine ⟨k + 1, ?_⟩
    rw [dovetailref08_Chain.l2, if_pos (by omega), if_pos (by omega), if_pos (by omega), if_pos (by omega), hrd, hat, w64 j (by omega)]
    by_cases c0 : R[j].f0 = (at_[i].1 : Int)
    · rw [if_pos c0, shows_f hok, Option.bind_some, if_neg (by simpa using fun h => c ⟨c0, h⟩)]
      exact hk
    · rw [if_neg c0]
      exact hk
theorem l1_G (hR : ∀ x ∈ R, okR tt N x = true) (hl : R.length ≤ 120) (seen : List Bool) (at_ : List (Nat × List Int)) (hsm : at_.length ≤ 60) (hp : ∀ e ∈ at_, e.2.length ≤ 60)
 (hno : shA r t R at_ = none → ∃ k, dovetailref08_Chain.l3 k (t : Int) r seen (atsG at_) (waysG at_) [] [] 0 l0 l1 a2 R = some V) (hyes : ∀ q, shA r t R at_ = some q → V = (q, 0, -1)) :
 ∀ (d i : Nat), at_.length - i = d → i ≤ at_.length → shA r t R at_ = shA r t R (at_.drop i) → ∃ k, dovetailref08_Chain.l1 k (t : Int) r seen (atsG at_) (waysG at_) (i : Int) l0 l1 a2 R = some V := by
 intro d
 induction d with
 | zero =>
  intro i hd hi he
  have : i = at_.length := by omega
  subst this
  rw [List.drop_length] at he
  obtain ⟨k, hk⟩ := hno he
  refine ⟨k + 1, ?_⟩
  rw [dovetailref08_Chain.l1, if_neg (by simp)]
  exact hk
 | succ d ih =>
  intro i hd hi he
  have hlt : i < at_.length := by omega
  have hal : (atsG at_).length = at_.length := by simp
  rw [List.drop_eq_getElem_cons hlt, shA_cons] at he
  obtain ⟨k, hk⟩ := l2_G (r := r) (t := t) (l0 := l0) (l1 := l1) (a2 := a2) (V := V) hR hl seen at_ i hlt hsm hp (fun hn => by
   rw [hn] at he
   exact ih (i + 1) (by omega) (by omega) he) (fun q hq => by
   rw [hq] at he
   exact hyes q he) R.length 0 (by omega) (by omega) (by rw [List.drop_zero])
  refine ⟨k + 1, ?_⟩
  rw [dovetailref08_Chain.l1, if_pos (by omega)]
  exact hk
theorem l4_G (hN : N ≤ 60) (hR : ∀ x ∈ R, okR tt N x = true) (hl : R.length ≤ 120) (at_ : List (Nat × List Int)) (i : Nat) (hi : i < at_.length) (hsm : at_.length ≤ 60) (c : Nat) (hp : ∀ e ∈ at_, e.2.length ≤ c) (s' : Rg)
 (hnext : ∃ k, dovetailref08_Chain.l3 k (t : Int) r s'.seen (atsG at_) (waysG at_) (atsG s'.nx) (waysG s'.nx) ((i + 1 : Nat) : Int) l0 l1 a2 R = some V) :
 ∀ (d j : Nat) (s : Rg), R.length - j = d → j ≤ R.length → InvG N c s → exR r at_[i].1 at_[i].2 (R.drop j) j s = s' → ∃ k, dovetailref08_Chain.l4 k (t : Int) r s.seen (atsG at_) (waysG at_) (atsG s.nx) (waysG s.nx) (i : Int) (j : Int) l0 l1 a2 R = some V := by
 intro d
 induction d with
 | zero =>
  intro j s hd hj hs he
  have : j = R.length := by omega
  subst this
  rw [List.drop_length] at he
  have he' : s = s' := he
  subst he'
  obtain ⟨k, hk⟩ := hnext
  refine ⟨k + 1, ?_⟩
  rw [dovetailref08_Chain.l4, if_neg (by omega), w64 i (by omega)]
  exact hk
 | succ d ih =>
  intro j s hd hj hs he
  have hlt : j < R.length := by omega
  have hok := hR R[j] (List.getElem_mem hlt)
  have hrd : rd_T41 R (j : Int) = R[j] := by rw [rdR_D, getD_lt R j _ hlt]
  have hat : rd (atsG at_) (i : Int) = (at_[i].1 : Int) := by
   rw [rd_D, getD_lt _ _ _ (by simpa using hi)]; simp
  have hway : rd_L3 (waysG at_) (i : Int) = at_[i].2 := by
   rw [rdL3_G _ _ (by simpa using hi)]; simp
  have hpi := hp _ (List.getElem_mem hi)
  rw [List.drop_eq_getElem_cons hlt] at he
  have he2 : exR r at_[i].1 at_[i].2 (R.drop (j + 1)) (j + 1) (exStep r at_[i].1 at_[i].2 s j R[j]) = s' := he
  have hs2 := hs.step (r := r) (a := at_[i].1) (k := j) hok hpi
  obtain ⟨k, hk⟩ := ih (j + 1) _ (by omega) (by omega) hs2 he2
  have hal : (atsG at_).length = at_.length := by simp
  have hwl : (waysG at_).length = at_.length := by simp
  have hsl := hs.len
  have hsmall := hs.small
  have hal2 : (atsG s.nx).length = s.nx.length := by simp
  have hwl2 : (waysG s.nx).length = s.nx.length := by simp
  refine ⟨k + 1, ?_⟩
  rw [dovetailref08_Chain.l4, if_pos (by omega), if_pos (by omega), hrd, leads_f hN hok, Option.bind_some, if_pos (by omega), if_pos (by omega), hat, w64 j (by omega)]
  unfold exStep at hk
  by_cases c0 : R[j].f0 = (at_[i].1 : Int)
  · rw [if_pos c0] at hk ⊢
    cases hled : led r R[j].f1 with
    | none =>
     rw [hled] at hk
     dsimp only at hk ⊢
     rw [if_neg (by decide)]
     exact hk
    | some m =>
     have hm := led_lt hok hled
     rw [hled] at hk
     dsimp only at hk ⊢
     rw [if_pos (by omega), if_pos (by omega), if_pos (by omega), rdE_B]
     cases hsn : s.seen.getD m false with
     | true =>
      rw [hsn, if_pos rfl] at hk
      rw [if_pos rfl]
      exact hk
     | false =>
      rw [hsn, if_neg (by decide)] at hk
      rw [if_neg (by decide), if_pos (by omega), if_pos (by omega), hway, with_f _ _ (by omega), Option.bind_some, if_pos (by omega), Int.toNat_natCast]
      dsimp only [atsG, waysG] at hk ⊢
      rw [List.map_append, List.map_append] at hk
      exact hk
  · rw [if_neg c0] at hk ⊢
    exact hk
theorem l3_G (hN : N ≤ 60) (hR : ∀ x ∈ R, okR tt N x = true) (hl : R.length ≤ 120) (at_ : List (Nat × List Int)) (hsm : at_.length ≤ 60) (c : Nat) (hp : ∀ e ∈ at_, e.2.length ≤ c) (s' : Rg)
 (hnext : ∃ k, dovetailref08_Chain.l0 k (t : Int) r s'.seen (atsG s'.nx) (waysG s'.nx) l0 l1 a2 R = some V) :
 ∀ (d i : Nat) (s : Rg), at_.length - i = d → i ≤ at_.length → InvG N c s → exA r R (at_.drop i) s = s' → ∃ k, dovetailref08_Chain.l3 k (t : Int) r s.seen (atsG at_) (waysG at_) (atsG s.nx) (waysG s.nx) (i : Int) l0 l1 a2 R = some V := by
 intro d
 induction d with
 | zero =>
  intro i s hd hi hs he
  have : i = at_.length := by omega
  subst this
  rw [List.drop_length] at he
  have he' : s = s' := he
  subst he'
  obtain ⟨k, hk⟩ := hnext
  refine ⟨k + 1, ?_⟩
  rw [dovetailref08_Chain.l3, if_neg (by simp)]
  exact hk
 | succ d ih =>
  intro i s hd hi hs he
  have hlt : i < at_.length := by omega
  have hal : (atsG at_).length = at_.length := by simp
  rw [List.drop_eq_getElem_cons hlt] at he
  have he2 : exA r R (at_.drop (i + 1)) (exR r at_[i].1 at_[i].2 R 0 s) = s' := he
  have hs2 : InvG N c (exR r at_[i].1 at_[i].2 R 0 s) := InvG.exR (hp _ (List.getElem_mem hlt)) R 0 s hR hs
  obtain ⟨k, hk⟩ := l4_G (r := r) (t := t) (l0 := l0) (l1 := l1) (a2 := a2) (V := V) hN hR hl at_ i hlt hsm c hp _ (ih (i + 1) _ (by omega) (by omega) hs2 he2) R.length 0 s (by omega) (by omega) hs (by rw [List.drop_zero])
  refine ⟨k + 1, ?_⟩
  rw [dovetailref08_Chain.l3, if_pos (by omega)]
  exact hk
theorem l0_G (hN : N ≤ 60) (hR : ∀ x ∈ R, okR tt N x = true) (hl : R.length ≤ 120) : ∀ (f : Nat) (seen : List Bool) (at_ : List (Nat × List Int)), seen.length = N → (N + 1 ≤ cntE seen + f ∨ at_ = []) → at_.length ≤ 60 → (∀ e ∈ at_, e.2.length ≤ cntE seen) →
 ∃ k, dovetailref08_Chain.l0 k (t : Int) r seen (atsG at_) (waysG at_) l0 l1 a2 R = some (bfsC r t R f seen at_) := by
 have hnil : ∀ (f : Nat) (seen : List Bool), ∃ k, dovetailref08_Chain.l0 k (t : Int) r seen (atsG []) (waysG []) l0 l1 a2 R = some (bfsC r t R f seen []) := by
  intro f seen
  refine ⟨1, ?_⟩
  rw [dovetailref08_Chain.l0, if_neg (by simp)]
  cases f with
  | zero => rfl
  | succ f => unfold bfsC; rw [if_pos rfl]
 intro f
 induction f with
 | zero =>
  intro seen at_ hs hf hsm hp
  rcases hf with hf | rfl
  · have := cntE_le seen; omega
  · exact hnil 0 seen
 | succ f ih =>
  intro seen at_ hs hf hsm hp
  by_cases c : at_ = []
  · subst c; exact hnil _ seen
  have hcl := cntE_le seen
  obtain ⟨k, hk⟩ := l1_G (r := r) (t := t) (l0 := l0) (l1 := l1) (a2 := a2) (V := bfsC r t R (f + 1) seen at_) hR hl seen at_ hsm (fun e he => by have := hp e he; omega) (fun hno => by
   have hi0 : InvG N (cntE seen) ⟨seen, []⟩ := ⟨hs, rfl, fun e he => by cases he⟩
   have hi1 := InvG.exA (r := r) hR at_ ⟨seen, []⟩ hp hi0
   have hnx := hi1.small
   have hcnt := hi1.cnt
   have hpt := hi1.pth
   obtain ⟨k, hk⟩ := ih (exA r R at_ ⟨seen, []⟩).seen (exA r R at_ ⟨seen, []⟩).nx hi1.len (by
    by_cases hn : (exA r R at_ ⟨seen, []⟩).nx = []
    · exact .inr hn
    · left
      have : 1 ≤ (exA r R at_ ⟨seen, []⟩).nx.length := List.length_pos_iff.2 hn
      rcases hf with hf | hf
      · omega
      · exact absurd hf c) (by omega) (fun e he => by
    have h1 := hpt e he
    have : 1 ≤ (exA r R at_ ⟨seen, []⟩).nx.length := List.length_pos_of_mem he
    omega)
   have hb : bfsC r t R (f + 1) seen at_ = bfsC r t R f (exA r R at_ ⟨seen, []⟩).seen (exA r R at_ ⟨seen, []⟩).nx := by
    rw [bfsC, if_neg c, hno]
   rw [hb]
   exact l3_G (s' := exA r R at_ ⟨seen, []⟩) hN hR hl at_ hsm (cntE seen) hp ⟨k, hk⟩ at_.length 0 ⟨seen, []⟩ (by omega) (by omega) hi0 (by rw [List.drop_zero])) (fun q hq => by
   rw [bfsC, if_neg c, hq]) at_.length 0 (by omega) (by omega) (by rw [List.drop_zero])
  refine ⟨k + 1, ?_⟩
  rw [dovetailref08_Chain.l0, if_pos (by have := List.length_pos_iff.2 c; simp; omega)]
  exact hk
end
def chainP (l0 l1 : List ByteArray) (a2 : Int) (R : List S41) (i tm : Int) (r : Bool) : Int × Int :=
 if (chkG l0 l1 a2 R).1 = 0 then
  if i < 0 ∨ (l1.length : Int) ≤ i ∨ tm < 0 ∨ (l0.length : Int) ≤ tm then (1, -1) else
  if (farF r tm.toNat l1.length R).getD i.toNat 0 = 0 then (15, -1) else (0, -1)
 else chkG l0 l1 a2 R
theorem refChain_ok (l0 l1 : List ByteArray) (a2 : Int) (R : List S41) (m0 : l0.length ≤ 9223372036854775807) (m1 : l1.length ≤ 9223372036854775807) (i tm : Int) (r : Bool) :
 ∃ k, dovetailref08_Chain.f k l0 l1 a2 R i tm r = some ((chainG l0 l1 a2 R i tm r).1, (chainP l0 l1 a2 R i tm r).1, (chainP l0 l1 a2 R i tm r).2) := by
 have hck : ∀ k, 20000 ≤ k → dovetailref03_Check.f k l0 l1 a2 R = some (chkG l0 l1 a2 R) := fun k hk => refCheck_f l0 l1 a2 R m0 m1 k hk
 by_cases h : (chkG l0 l1 a2 R).1 = 0
 · obtain ⟨h60, h120, _, _, _, _, hok⟩ := chk_ok h
   by_cases ho : i < 0 ∨ (l1.length : Int) ≤ i ∨ tm < 0 ∨ (l0.length : Int) ≤ tm
   · refine ⟨20000, ?_⟩
     unfold dovetailref08_Chain.f chainG chainP
     rw [hck _ (Nat.le_refl _), Option.bind_some, if_pos h, if_pos h, if_pos h, if_pos ho, if_pos ho]
     have hj : dovetailref08_Chain.j0 20000 i tm r true l0 l1 a2 R = some ([], 1, -1) := by
      rw [dovetailref08_Chain.j0, if_pos rfl]
     by_cases c1 : i < 0
     · rw [if_pos c1]; exact hj
     rw [if_neg c1]
     by_cases c2 : i ≥ (l1.length : Int)
     · rw [if_pos c2]; exact hj
     rw [if_neg c2]
     by_cases c3 : tm < 0
     · rw [if_pos c3]; exact hj
     rw [if_neg c3, decide_eq_true (by omega)]
     exact hj
   · obtain ⟨i, rfl⟩ : ∃ n : Nat, i = n := ⟨i.toNat, by omega⟩
     obtain ⟨tm, rfl⟩ : ∃ n : Nat, tm = n := ⟨tm.toNat, by omega⟩
     have hi : i < l1.length := by omega
     have hF := farF_far (r := r) (tm := tm) hok
     have hset : ∀ v, ((List.replicate l1.length false).set i true).getD v false = true → v = i := by
      intro v hv
      rcases seen_set hv with e | e
      · exact e
      · simp [List.getD_eq_getElem?_getD, List.getElem?_replicate] at e
        split at e <;> simp at e
     have hsl : ((List.replicate l1.length false).set i true).length = l1.length := by simp
     have hsi : ((List.replicate l1.length false).set i true).getD i false = true := seen_new (by simpa using hi)
     have hbf : bfsC r tm R (l1.length + 1) ((List.replicate l1.length false).set i true) [(i, [])] = ((chainG l0 l1 a2 R i tm r).1, (chainP l0 l1 a2 R i tm r).1, (chainP l0 l1 a2 R i tm r).2) := by
      unfold chainG chainP
      rw [if_pos h, if_pos h, if_neg ho, if_neg ho, Int.toNat_natCast, Int.toNat_natCast]
      by_cases hz : (farF r tm l1.length R).getD i 0 = 0
      · rw [if_pos hz, if_pos hz]
        exact bfsC_none hF hok _ _ _ hsl ⟨fun v hv => by rw [hset v hv]; exact hz, fun e he => by
         obtain rfl := List.mem_singleton.1 he
         exact hsi⟩
      · rw [if_neg hz, if_neg hz]
        have hr := (hF.rng i hi).resolve_left hz
        obtain ⟨q, hq⟩ : ∃ q : Nat, (farF r tm l1.length R).getD i 0 = ((q + 1 : Nat) : Int) := ⟨((farF r tm l1.length R).getD i 0).toNat - 1, by omega⟩
        rw [hq, Int.toNat_natCast]
        rw [hq] at hr
        refine bfsC_chain (tt := l0.length) (N := l1.length) hF hok q (l1.length + 1) _ _ _ (by omega) hsl ⟨fun v hv => by rw [hset v hv]; right; omega, fun e he => by
         obtain rfl := List.mem_singleton.1 he
         exact hsi, [], i, [], [], rfl, fun e he => absurd he (by simp), hi, by rw [hq]; omega, rfl⟩
     obtain ⟨k, hk⟩ := l0_G (r := r) (t := tm) (N := l1.length) (l0 := l0) (l1 := l1) (a2 := a2) (by omega) hok h120 (l1.length + 1) ((List.replicate l1.length false).set i true) [(i, [])] hsl (.inl (by omega)) (by simp) (fun e he => by
      obtain rfl := List.mem_singleton.1 he
      exact Nat.zero_le _)
     rw [hbf] at hk
     refine ⟨max (k + 1) 20000, ?_⟩
     have hj : dovetailref08_Chain.j0 (k + 1) i tm r false l0 l1 a2 R = some ((chainG l0 l1 a2 R i tm r).1, (chainP l0 l1 a2 R i tm r).1, (chainP l0 l1 a2 R i tm r).2) := by
      rw [dovetailref08_Chain.j0, if_neg (by decide), if_pos (by omega), Int.toNat_natCast, if_pos (by omega), Option.bind_some, if_pos (by omega), if_pos (by rw [List.length_replicate]; omega), Int.toNat_natCast]
      exact hk
     have hj2 := at_rounds (g := fun k => dovetailref08_Chain.j0 k i tm r false l0 l1 a2 R) (fun k => (dovetailref08_Chain.mono_l k).1 _ _ _ _ _ _ _ _) (Nat.le_max_left (k + 1) 20000) hj
     unfold dovetailref08_Chain.f
     rw [hck _ (Nat.le_max_right _ _), Option.bind_some, if_pos h, if_neg (by omega), if_neg (by omega), if_neg (by omega), decide_eq_false (by omega)]
     exact hj2
 · refine ⟨20000, ?_⟩
   unfold dovetailref08_Chain.f chainG chainP
   rw [hck _ (Nat.le_refl _), Option.bind_some, if_neg h, if_neg h, if_neg h]
end Go.Proofs.YtjkifeladmhkoaaDoor.E8
namespace Go.Proofs.YtjkifeladmhkoaaDoor.B
open Go.RowKit Go.Proofs.YtjkifeladmhkoaaDoorW.PrintWords Go.Proofs.YtjkifeladmhkoaaDoorW.PrintLast Go.Proofs.YtjkifeladmhkoaaDoorW.PrintMore
attribute [local go_sem] max2_int min2_int max_two min_two max_three min_three max_four min_four   -- for this text's walks alone

def dovetailkit_Strings.l0 : Nat → List ByteArray → List ByteArray → Int → Option (Bool)
 | 0, _, _, _ => none
 | k + 1, x0, x1, x5 => if x5 < (x0.length : Int) then (if 0 ≤ x5 then (if x5 < (x1.length : Int) then (if (rdOf ByteArray.empty x0 x5).toList = (rdOf ByteArray.empty x1 x5).toList then (dovetailkit_Strings.l0 k x0 x1 (wrap64 (x5 + 1))) else (some false)) else (none)) else (none)) else (some true)
def dovetailkit_Strings.f (k : Nat) (l0 : List ByteArray) (l1 : List ByteArray) : Option (Bool) := if (l0.length : Int) = (l1.length : Int) then (dovetailkit_Strings.l0 k l0 l1 0) else (some false)
theorem dovetailkit_Strings.mono_l : ∀ k, (∀ y0 y1 y2, LeO (dovetailkit_Strings.l0 k y0 y1 y2) (dovetailkit_Strings.l0 (k + 1) y0 y1 y2))
 | 0 => fun _ _ _ r h => by simp [dovetailkit_Strings.l0] at h
 | k + 1 => by
  have ih0 := dovetailkit_Strings.mono_l k
  · intro y0 y1 y2
    unfold dovetailkit_Strings.l0
    repeat' first
    | (with_reducible exact ih0 _ _ _)
    | (with_reducible exact LeO.refl _)
    | (with_reducible exact LeO.none _)
    | (with_reducible refine LeO.ite ?_ ?_)
    | (with_reducible refine LeO.bind ?_ (fun _ => ?_))
    | exact ih0 _ _ _
    | exact LeO.none _
    | refine LeO.ite ?_ ?_
    | refine LeO.bind ?_ (fun _ => ?_)
theorem dovetailkit_Strings.mono : ∀ a0 a1 k, LeO (dovetailkit_Strings.f k a0 a1) (dovetailkit_Strings.f (k + 1) a0 a1) := by
 intro a0 a1 k
 have ih0 := dovetailkit_Strings.mono_l k
 unfold dovetailkit_Strings.f
 repeat' first
  | (with_reducible exact ih0 _ _ _)
  | (with_reducible exact LeO.refl _)
  | (with_reducible exact LeO.none _)
  | (with_reducible refine LeO.ite ?_ ?_)
  | (with_reducible refine LeO.bind ?_ (fun _ => ?_))
  | exact ih0 _ _ _
  | exact LeO.none _
  | refine LeO.ite ?_ ?_
  | refine LeO.bind ?_ (fun _ => ?_)
set_option maxHeartbeats 8000000 in
set_option maxRecDepth 100000 in
theorem dovetailkit_Strings.calls (k : Nat) (A0 : Option Addr) (c0 : Nat) (l0 : List ByteArray) (A1 : Option Addr) (c1 : Nat) (l1 : List ByteArray) (r : Bool) (w : World) (hr0 : Kd.C Kd.string w A0 l0.length l0) (hc0 : l0.length ≤ c0) (hr1 : Kd.C Kd.string w A1 l1.length l1) (hc1 : l1.length ≤ c1) (h : dovetailkit_Strings.f k l0 l1 = some r) :
 Calls Tryd.prog 95 #[.slice A0 l0.length c0, .slice A1 l1.length c1] w fun e w' => e = .returned (.bool r) ∧ Drawn0 w w' := by
 have HR0 := Aside0.mk hr0
 have HC0 := Aside0.mk hc0
 clear hr0 hc0
 have HR1 := Aside0.mk hr1
 have HC1 := Aside0.mk hc1
 clear hr1 hc1
 have H : (if (l0.length : Int) = (l1.length : Int) then (dovetailkit_Strings.l0 k l0 l1 0) else (some false)) = some r := h
 clear h
 by_cases c3 : (l0.length : Int) = (l1.length : Int)
 · rw [if_pos c3] at H
   have c3b0 : ((l0.length : Int) == (l1.length : Int)) = true := beq_iff_eq.mpr c3
   have c3b1 : ((l0.length : Int) != (l1.length : Int)) = false := bne_eq_false_iff_eq.mpr c3
   have c3b2 : (l0.length == l1.length) = true := by first | simpa using c3 | (simp at c3 ⊢; omega)
   clear c3
   have H' := Aside0.mk H
   clear H
   go_enter Tryd.func95, Tryd.ntmps95
   go_wp2
   repeat (go_quiet (fail); try go_wp2)
   go_loopg [5] k (fun kq v5 w' => ∃ (x5_1 : Int), v5 = .int .i64 x5_1 ∧ Aside0 (dovetailkit_Strings.l0 kq l0 l1 x5_1 = some r) ∧ Aside0 (kq ≤ k) ∧ Drawn0 w w')
   case atStart => exact ⟨(0), (by first | rfl | (simp; done) | (simp [*]; done)), H', ⟨Nat.le_refl _⟩, by repeat (first | exact Drawn0.refl _ | apply Drawn0.step)⟩
   case round =>
    clear H'
    try clear c1
    try clear p2
    try clear c3
    try clear c3b0
    try clear c3b1
    try clear c3b2
    obtain ⟨x5_1, rfl, HA, HK1, ⟨m1, rfl⟩⟩ := hrel
    cases gk with
    | zero => exact absurd HA.out (by simp [dovetailkit_Strings.l0])
    | succ k1 =>
     have H := HA.out
     clear HA
     simp only [dovetailkit_Strings.l0] at H
     by_cases c4 : x5_1 < (l0.length : Int)
     · rw [if_pos c4] at H
       have c4b0 : decide (x5_1 < (l0.length : Int)) = true := decide_eq_true c4
       clear c4
       by_cases c5 : 0 ≤ x5_1
       · rw [if_pos c5] at H
         have c5b0 : decide (0 ≤ x5_1) = true := decide_eq_true c5
         clear c5
         by_cases c6 : x5_1 < (l1.length : Int)
         · rw [if_pos c6] at H
           have c6b0 : decide (x5_1 < (l1.length : Int)) = true := decide_eq_true c6
           clear c6
           by_cases c7 : (rdOf ByteArray.empty l0 x5_1).toList = (rdOf ByteArray.empty l1 x5_1).toList
           · rw [if_pos c7] at H
             have c7b0 : ((rdOf ByteArray.empty l0 x5_1).toList == (rdOf ByteArray.empty l1 x5_1).toList) = true := beq_iff_eq.mpr c7
             have c7b1 : ((rdOf ByteArray.empty l0 x5_1).toList != (rdOf ByteArray.empty l1 x5_1).toList) = false := bne_eq_false_iff_eq.mpr c7
             clear c7
             have H' := Aside0.mk H
             clear H
             have p217 : 0 ≤ (x5_1 : Int) := of_decide_eq_true (by first | (with_reducible assumption) | assumption)
             have q217 : x5_1 < (l0.length : Int) := of_decide_eq_true (by first | (with_reducible assumption) | assumption)
             obtain ⟨ad217, e217, hx217_0⟩ := Kd.at_string HR0.out x5_1 p217 q217
             cases e217
             replace p217 := eq_true p217
             replace q217 := eq_true q217
             have p218 : 0 ≤ (x5_1 : Int) := of_decide_eq_true (by first | (with_reducible assumption) | assumption)
             have q218 : x5_1 < (l1.length : Int) := of_decide_eq_true (by first | (with_reducible assumption) | assumption)
             obtain ⟨ad218, e218, hx218_0⟩ := Kd.at_string HR1.out x5_1 p218 q218
             cases e218
             replace p218 := eq_true p218
             replace q218 := eq_true q218
             go_wp2
             repeat (go_quiet (fail); try go_wp2)
             go_roundg k1
             case measure => have := HK1.out; omega
             case rel => exact ⟨(wrap64 (x5_1 + 1)), (by first | rfl | (simp; done) | (simp [*]; done)), H', ⟨by have := HK1.out; omega⟩, by repeat (first | exact Drawn0.refl _ | apply Drawn0.step)⟩
           · rw [if_neg c7] at H
             have c7b0 : ((rdOf ByteArray.empty l0 x5_1).toList == (rdOf ByteArray.empty l1 x5_1).toList) = false := beq_eq_false_iff_ne.mpr c7
             have c7b1 : ((rdOf ByteArray.empty l0 x5_1).toList != (rdOf ByteArray.empty l1 x5_1).toList) = true := bne_iff_ne.mpr c7
             obtain rfl := Option.some.inj H
             have p217 : 0 ≤ (x5_1 : Int) := of_decide_eq_true (by first | (with_reducible assumption) | assumption)
             have q217 : x5_1 < (l0.length : Int) := of_decide_eq_true (by first | (with_reducible assumption) | assumption)
             obtain ⟨ad217, e217, hx217_0⟩ := Kd.at_string HR0.out x5_1 p217 q217
             cases e217
             replace p217 := eq_true p217
             replace q217 := eq_true q217
             have p218 : 0 ≤ (x5_1 : Int) := of_decide_eq_true (by first | (with_reducible assumption) | assumption)
             have q218 : x5_1 < (l1.length : Int) := of_decide_eq_true (by first | (with_reducible assumption) | assumption)
             obtain ⟨ad218, e218, hx218_0⟩ := Kd.at_string HR1.out x5_1 p218 q218
             cases e218
             replace p218 := eq_true p218
             replace q218 := eq_true q218
             go_wp2
             repeat (go_quiet (fail); try go_wp2)
             go_ret
             exact ⟨by first | rfl | (simp; done) | (simp [*]; done), by repeat (first | exact Drawn0.refl _ | apply Drawn0.step)⟩
         · rw [if_neg c6] at H
           exact absurd H (by simp)
       · rw [if_neg c5] at H
         exact absurd H (by simp)
     · rw [if_neg c4] at H
       have c4b0 : decide (x5_1 < (l0.length : Int)) = false := decide_eq_false c4
       clear c4
       obtain rfl := Option.some.inj H
       go_wp2
       repeat (go_quiet (fail); try go_wp2)
       go_ret
       exact ⟨by first | rfl | (simp; done) | (simp [*]; done), by repeat (first | exact Drawn0.refl _ | apply Drawn0.step)⟩
 · rw [if_neg c3] at H
   have c3b0 : ((l0.length : Int) == (l1.length : Int)) = false := beq_eq_false_iff_ne.mpr c3
   have c3b1 : ((l0.length : Int) != (l1.length : Int)) = true := bne_iff_ne.mpr c3
   have c3b2 : (l0.length == l1.length) = false := by first | simpa using c3 | (simp at c3 ⊢; omega)
   obtain rfl := Option.some.inj H
   go_enter Tryd.func95, Tryd.ntmps95
   go_wp2
   repeat (go_quiet (fail); try go_wp2)
   go_ret
   exact ⟨by first | rfl | (simp; done) | (simp [*]; done), by repeat (first | exact Drawn0.refl _ | apply Drawn0.step)⟩

end Go.Proofs.YtjkifeladmhkoaaDoor.B
/- kit.Ints, kit.Strings: are two the same? (taken from GramSm and GramKi, for seats without rules' ties) -/
set_option linter.unusedVariables false
namespace Go.Proofs.YtjkifeladmhkoaaDoor.B
open Go.RowKit Go.Proofs.YtjkifeladmhkoaaDoorW.PrintWords Go.Proofs.YtjkifeladmhkoaaDoorW.PrintLast Go.Proofs.YtjkifeladmhkoaaDoorW.PrintMore

theorem wrap_succ (i : Nat) (h : i < 9223372036854775807) : wrap64 ((i : Int) + 1) = ((i + 1 : Nat) : Int) := by unfold wrap64; omega
theorem toList_eq (a b : ByteArray) : a.toList = b.toList ↔ a = b := by
 constructor
 · intro h
   rw [ByteArray.toList_eq, ByteArray.toList_eq] at h
   have := Array.ext' h
   cases a; cases b; simp_all
 · rintro rfl; rfl

theorem rd_nat (l : List Int) (i : Nat) (h : i < l.length) : rd l (i : Int) = l[i] := by simp [rd, List.getD_eq_getElem?_getD, List.getElem?_eq_getElem h]
theorem rdS_nat (l : List ByteArray) (i : Nat) (h : i < l.length) : rdOf ByteArray.empty l (i : Int) = l[i] := by simp [rdOf, List.getD_eq_getElem?_getD, List.getElem?_eq_getElem h]
theorem KInts_l (l0 l1 : List Int) (hl : l0.length = l1.length) (hm : l0.length ≤ 9223372036854775807) : ∀ (d i k : Nat), l0.length - i = d → i ≤ l0.length → d < k → dovetailkit_Ints.l0 k l0 l1 (i : Int) = some (decide (l0.drop i = l1.drop i)) := by
 intro d
 induction d with
 | zero =>
  intro i k hi hle hk
  obtain ⟨k, rfl⟩ : ∃ j, k = j + 1 := ⟨k - 1, by omega⟩
  have : i = l0.length := by omega
  subst this
  rw [dovetailkit_Ints.l0, if_neg (by omega), List.drop_length, hl, List.drop_length]
  simp
 | succ d ih =>
  intro i k hi hle hk
  obtain ⟨k, rfl⟩ : ∃ j, k = j + 1 := ⟨k - 1, by omega⟩
  have hlt : i < l0.length := by omega
  have hlt1 : i < l1.length := by omega
  rw [dovetailkit_Ints.l0, if_pos (by omega), if_pos (by omega), if_pos (by omega), List.drop_eq_getElem_cons hlt, List.drop_eq_getElem_cons hlt1, rd_nat l0 i hlt, rd_nat l1 i hlt1]
  by_cases he : l0[i] = l1[i]
  · rw [if_pos he, wrap_succ i (by omega), ih (i + 1) k (by omega) (by omega) (by omega)]
    rw [he]; congr 1; rw [decide_eq_decide]; simp only [List.cons.injEq, true_and]
  · rw [if_neg he]; congr 1; symm; rw [decide_eq_false_iff_not]; intro h; exact he (List.cons.inj h).1
theorem KInts_f (l0 l1 : List Int) (k : Nat) (hm : l0.length ≤ 9223372036854775807) (hk : l0.length < k) : dovetailkit_Ints.f k l0 l1 = some (decide (l0 = l1)) := by
 unfold dovetailkit_Ints.f
 by_cases h : l0.length = l1.length
 · rw [if_pos (by omega)]
   have := KInts_l l0 l1 h hm l0.length 0 k (by omega) (by omega) hk
   simpa using this
 · rw [if_neg (by omega)]
   have : l0 ≠ l1 := fun e => h (by rw [e])
   simp [this]
theorem KStrings_l (l0 l1 : List ByteArray) (hl : l0.length = l1.length) (hm : l0.length ≤ 9223372036854775807) : ∀ (d i k : Nat), l0.length - i = d → i ≤ l0.length → d < k → dovetailkit_Strings.l0 k l0 l1 (i : Int) = some (decide (l0.drop i = l1.drop i)) := by
 intro d
 induction d with
 | zero =>
  intro i k hi hle hk
  obtain ⟨k, rfl⟩ : ∃ j, k = j + 1 := ⟨k - 1, by omega⟩
  have : i = l0.length := by omega
  subst this
  rw [dovetailkit_Strings.l0, if_neg (by omega), List.drop_length, hl, List.drop_length]
  simp
 | succ d ih =>
  intro i k hi hle hk
  obtain ⟨k, rfl⟩ : ∃ j, k = j + 1 := ⟨k - 1, by omega⟩
  have hlt : i < l0.length := by omega
  have hlt1 : i < l1.length := by omega
  rw [dovetailkit_Strings.l0, if_pos (by omega), if_pos (by omega), if_pos (by omega), List.drop_eq_getElem_cons hlt, List.drop_eq_getElem_cons hlt1, rdS_nat l0 i hlt, rdS_nat l1 i hlt1]
  by_cases he : l0[i] = l1[i]
  · rw [if_pos ((toList_eq _ _).2 he), wrap_succ i (by omega), ih (i + 1) k (by omega) (by omega) (by omega)]
    rw [he]; congr 1; rw [decide_eq_decide]; simp only [List.cons.injEq, true_and]
  · rw [if_neg (fun h => he ((toList_eq _ _).1 h))]; congr 1; symm; rw [decide_eq_false_iff_not]; intro h; exact he (List.cons.inj h).1
theorem KStrings_f (l0 l1 : List ByteArray) (k : Nat) (hm : l0.length ≤ 9223372036854775807) (hk : l0.length < k) : dovetailkit_Strings.f k l0 l1 = some (decide (l0 = l1)) := by
 unfold dovetailkit_Strings.f
 by_cases h : l0.length = l1.length
 · rw [if_pos (by omega)]
   have := KStrings_l l0 l1 h hm l0.length 0 k (by omega) (by omega) hk
   simpa using this
 · rw [if_neg (by omega)]
   have : l0 ≠ l1 := fun e => h (by rw [e])
   simp [this]
end Go.Proofs.YtjkifeladmhkoaaDoor.B
/- What Lent and Kept stand on, in this seat. -/

/- kit.Lent..: lists in memory of their own, a mark behind each. -/
set_option linter.unusedVariables false
set_option linter.unusedSimpArgs false
namespace Go.Proofs.YtjkifeladmhkoaaDoor.B
open Go.RowKit Go.Proofs.YtjkifeladmhkoaaDoorW.PrintWords Go.Proofs.YtjkifeladmhkoaaDoorW.PrintLast Go.Proofs.YtjkifeladmhkoaaDoorW.PrintMore

def kmx : Kd (List Int × Bool) where
 sz := 1
 E := [3]
 K := fun w x cs => ∃ A c, cs = [.slice A x.1.length c] ∧ match x.2 with
  | true => x.1.length + 1 ≤ c ∧ Kd.C (Kd.int .i64) w A (x.1.length + 1) (x.1 ++ [-7171])
  | false => x.1.length ≤ c ∧ Kd.C (Kd.int .i64) w A x.1.length x.1
 M := fun w base ok x cs => ∃ A c, cs = [.slice A x.1.length c] ∧ match x.2 with
  | true => Kd.R (Kd.int .i64) 3 w base ok (.slice A (x.1.length + 1) c) (x.1 ++ [-7171])
  | false => Kd.R (Kd.int .i64) 3 w base ok (.slice A x.1.length c) x.1
 K_len := by
  rintro w x cs ⟨A, c, rfl, _⟩
  rfl
 K_one := by
  rintro w x cs ⟨A, c, rfl, _⟩ u hu
  rw [List.mem_singleton.1 hu]
  rfl
 K_below := by
  rintro w w1 ⟨xs, b⟩ cs hb ⟨A, c, rfl, h⟩
  cases b
  · exact ⟨A, c, rfl, h.1, Kd.C_below h.2 hb⟩
  · exact ⟨A, c, rfl, h.1, Kd.C_below h.2 hb⟩
 K_of_M := by
  rintro w base ok ⟨xs, b⟩ cs ⟨A, c, rfl, h⟩
  cases b
  · exact ⟨A, c, rfl, (Kd.R_reads' h).2⟩
  · have := Kd.R_reads' h
    rw [List.length_append, List.length_singleton] at this
    exact ⟨A, c, rfl, this.2⟩
 M_mono := by
  rintro w base ok ok' ⟨xs, b⟩ cs hok ⟨A, c, rfl, h⟩
  cases b
  · exact ⟨A, c, rfl, Kd.R_mono h hok⟩
  · exact ⟨A, c, rfl, Kd.R_mono h hok⟩
 M_bound := by
  rintro w base ok ⟨xs, b⟩ cs ⟨A, c, rfl, h⟩
  cases b
  · exact ⟨A, c, rfl, Kd.R_bound h⟩
  · exact ⟨A, c, rfl, Kd.R_bound h⟩
 M_move := by
  rintro w w1 base ok ⟨xs, b⟩ cs hm ⟨A, c, rfl, h⟩
  cases b
  · exact ⟨A, c, rfl, Kd.R_move h hm⟩
  · exact ⟨A, c, rfl, Kd.R_move h hm⟩
 M_lower := by
  rintro w base base' ok ⟨xs, b⟩ cs hb ⟨A, c, rfl, h⟩
  cases b
  · exact ⟨A, c, rfl, Kd.R_lower h hb⟩
  · exact ⟨A, c, rfl, Kd.R_lower h hb⟩
def kRx : Kd (S41 × Bool) := Kd.iso (Kd.pair (Kd.int .i64) kmx) (fun x => (x.1.f0, (x.1.f1, x.2)))
theorem C_pre {α : Type} {d : Kd α} {w : World} {A : Option Addr} {xs ys : List α} {n : Nat} (h : d.C w A n (xs ++ ys)) : d.C w A xs.length xs := by
 refine ⟨rfl, by have := h.1; have := h.2.1; rw [List.length_append] at *; omega, fun hp => ?_⟩
 obtain ⟨ad, e, hc⟩ := h.2.2 (by have := h.1; rw [List.length_append] at this; omega)
 refine ⟨ad, e, fun j p hj => hc j p ?_⟩
 have hlt := (List.getElem?_eq_some_iff.1 hj).1
 rw [List.getElem?_append_left hlt]; exact hj
theorem C_imp {α β : Type} {d : Kd α} {d' : Kd β} {w : World} {A : Option Addr} {n : Nat} {xs : List α} (f : α → β) (h : d.C w A n xs) (hs : d.sz = d'.sz) (hK : ∀ x c, x ∈ xs → d.K w x c → d'.K w (f x) c) : d'.C w A n (xs.map f) := by
 refine ⟨by rw [List.length_map]; exact h.1, h.2.1, fun hp => ?_⟩
 obtain ⟨ad, e, hc⟩ := h.2.2 hp
 refine ⟨ad, e, fun j p hj => ?_⟩
 rw [List.getElem?_map] at hj
 obtain ⟨x, hx, rfl⟩ := Option.map_eq_some_iff.1 hj
 obtain ⟨c, h1, h2, h3⟩ := hc j x hx
 exact ⟨c, by rw [← hs]; exact h1, hK x c (List.mem_of_getElem? hx) h2, by rw [← hs]; exact h3⟩
def mk1 (l : List S41) : List (S41 × Bool) := l.map fun x => (x, true)
theorem mk1_length (l : List S41) : (mk1 l).length = l.length := by simp [mk1]
def MR (w : World) (A : Option Addr) (c : Nat) (l : List S41) : Prop := l.length + 1 ≤ c ∧ Kd.C kRx w A (l.length + 1) (mk1 l ++ [(⟨-7171, []⟩, false)])
theorem MR.below {w w' : World} {A : Option Addr} {c : Nat} {l : List S41} (h : MR w A c l) (hb : Below w.heap.size w w') : MR w' A c l := ⟨h.1, Kd.C_below h.2 hb⟩
theorem MR.of {w : World} {base : Nat} {ok : Nat → Prop} {A : Option Addr} {c : Nat} {l : List S41} (h : Kd.R kRx 41 w base ok (.slice A (l.length + 1) c) (mk1 l ++ [((⟨-7171, []⟩ : S41), false)])) : MR w A c l := by
 have h1 := Kd.R_reads' h
 refine ⟨h1.2.1, ?_⟩
 rw [h1.1]; exact h1.2.2
theorem kRx_K {w : World} {x : S41} {cs : List Value} (h : kRx.K w (x, true) cs) : k41.K w x cs := by
 obtain ⟨a, b, rfl, h1, A, c, rfl, h2, h3⟩ := h
 dsimp only at h2 h3
 exact ⟨a, _, rfl, h1, A, c, rfl, by dsimp only; omega, C_pre h3⟩
theorem MR.reads {w : World} {A : Option Addr} {c : Nat} {l : List S41} (h : MR w A c l) : Kd.C k41 w A l.length l := by
 have h1 := C_pre h.2
 rw [mk1_length] at h1
 have h2 := C_imp (d := kRx) (d' := k41) (fun x => x.1) h1 rfl (fun x c hx hk => by
  obtain ⟨y, _, rfl⟩ := List.mem_map.1 hx
  exact kRx_K hk)
 have : (mk1 l).map (fun x => x.1) = l := List.ext_getElem (by simp [mk1]) (fun i h1 h2 => by simp [mk1])
 rwa [this] at h2

set_option maxHeartbeats 4000000 in
set_option maxRecDepth 100000 in
theorem LentInts_m (A0 : Option Addr) (c0 : Nat) (l : List Int) (w : World) (hr : Kd.C (Kd.int .i64) w A0 l.length l) (hl : l.length < 17592186044415) :
 Calls Tryd.prog 88 #[.slice A0 l.length c0] w fun e w' => ∃ A c, e = .returned (.slice A l.length c) ∧ Aside0 (Kd.R (Kd.int .i64) 3 w' w.heap.size (fun _ => True) (.slice A (l.length + 1) c) (l ++ [(-7171)]) ∧ Below w.heap.size w w') := by
 obtain ⟨y1, hy1⟩ : ∃ y_ : List Int, y_ = ([] : List Int) ++ l := ⟨_, rfl⟩
 obtain ⟨y2, hy2⟩ : ∃ y_ : List Int, y_ = y1 ++ [(-7171)] := ⟨_, rfl⟩
 have q8 : y1.length < 17592186044415 := by rw [hy1]; simpa using hl
 have q9 : ((l.length : Int)) ≤ ((y2.length : Int)) := by rw [hy2, hy1]; simp; omega
 have q7 : ([] : List Int).length + l.length < 17592186044415 := by simpa using hl
 have hy3 : y2.length = l.length + 1 := by rw [hy2, hy1]; simp
 have hy4 : y2 = l ++ [(-7171)] := by rw [hy2, hy1]; simp
 have HR0 := Aside0.mk hr
 have HB := Aside0.mk (Below.refl w.heap.size w)
 have N1 := Aside0.mk hy1
 have N2 := Aside0.mk hy2
 have N3 := Aside0.mk hy3
 have N4 := Aside0.mk hy4
 have Q7 := Aside0.mk q7
 have Q8 := Aside0.mk q8
 have Q9 := Aside0.mk q9
 clear hr hy1 hy2 hy3 hy4 q7 q8 q9 hl
 go_enter Tryd.func88, Tryd.ntmps88
 go_wp2_with (first
  | ((with_reducible refine gate_builtin (b := .append) (xs := #[.tmp 4, .tmp 5]) rfl ?_); at_builtin; refine Kd.R_append_rows (Kd.int .i64) (w0 := w) w.heap.size rfl (.tmp 4) (.tmp 5) 24 3 (.int .i64 0) 8 rfl Tryd.underlying24 info3 rfl (by decide) (by omega) (.slice none 0 0) ([] : List Int) l _ _ _ (fun _ => True) (fun _ => False) rfl rfl ?aO ?aR (fun _ _ h => h) (fun _ h => h.elim) ?aF ?aB ?aS ?aL ?_; (case aR => exact HR0.out); (case aB => exact HB.out); (case aF => exact (fun _ _ => trivial)); (case aO => exact ((Kd.R_nil _ _ _ _ (fun _ => True)))); (case aS => exact Nat.le_refl _); (case aL => have := Q7.out; omega); intro v1 w1 ho hb hg hat; rw [← N1.out] at ho; have n0_ := Aside0.mk hb; have n1_ := Aside0.mk ho; clear HB; have HB := n0_; have HO1 := n1_; clear n0_ n1_ ho hb hg hat)
  | ((with_reducible refine gate_builtin (b := .append) (xs := #[.tmp 7, .tmp 8]) rfl ?_); at_builtin; refine Kd.R_append (Kd.int .i64) (w0 := w) w.heap.size rfl (.tmp 7) (.tmp 8) 24 3 (.int .i64 0) 8 rfl Tryd.underlying24 info3 rfl (by decide) (by omega) v1 y1 (-7171) [.int .i64 (-7171)] (fun _ => True) (fun _ => False) rfl rfl ?aP (fun _ hk => hk.elim) ?aF ?aO ?aB ?aS ?aL ?_; (case aP => exact rfl); (case aB => exact HB.out); (case aF => exact (fun _ _ => trivial)); (case aO => exact HO1.out); (case aS => exact (below_size HB.out)); (case aL => have := Q8.out; omega); intro v2 w2 ho hb hg hat; rw [← N2.out] at ho; have n0_ := Aside0.mk hb; have n1_ := Aside0.mk ho; clear HB HO1; have HB := n0_; have HO2 := n1_; clear n0_ n1_ ho hb hg hat; obtain ⟨Ao, co, eo⟩ := Kd.R_slice HO2.out; subst eo; obtain ⟨i0, hi0, _, hsz0, _⟩ := info_parts info3; have hcut := cut_to (P := Tryd.prog) 24 3 .i64 Tryd.underlying24 hi0 Ao y2.length co (l.length : Int) (by omega) Q9.out (Kd.R_reads' HO2.out).2.1; clear hi0 hsz0))
 go_ret
 refine ⟨Ao, co, rfl, ⟨?_, HB.out⟩⟩
 have h := HO2.out
 rw [N3.out] at h
 rw [← N4.out]
 exact h

set_option maxHeartbeats 4000000 in
set_option maxRecDepth 100000 in
theorem LentStrings_m (A0 : Option Addr) (c0 : Nat) (l : List ByteArray) (w : World) (hr : Kd.C Kd.string w A0 l.length l) (hl : l.length < 8796093022207) :
 Calls Tryd.prog 63 #[.slice A0 l.length c0] w fun e w' => ∃ A c, e = .returned (.slice A l.length c) ∧ Aside0 (Kd.R Kd.string 9 w' w.heap.size (fun _ => True) (.slice A (l.length + 1) c) (l ++ [(⟨#[109, 97, 114, 107]⟩ : ByteArray)]) ∧ Below w.heap.size w w') := by
 obtain ⟨y1, hy1⟩ : ∃ y_ : List ByteArray, y_ = ([] : List ByteArray) ++ l := ⟨_, rfl⟩
 obtain ⟨y2, hy2⟩ : ∃ y_ : List ByteArray, y_ = y1 ++ [(⟨#[109, 97, 114, 107]⟩ : ByteArray)] := ⟨_, rfl⟩
 have q8 : y1.length < 8796093022207 := by rw [hy1]; simpa using hl
 have q9 : ((l.length : Int)) ≤ ((y2.length : Int)) := by rw [hy2, hy1]; simp; omega
 have q7 : ([] : List ByteArray).length + l.length < 8796093022207 := by simpa using hl
 have hy3 : y2.length = l.length + 1 := by rw [hy2, hy1]; simp
 have hy4 : y2 = l ++ [(⟨#[109, 97, 114, 107]⟩ : ByteArray)] := by rw [hy2, hy1]; simp
 have HR0 := Aside0.mk hr
 have HB := Aside0.mk (Below.refl w.heap.size w)
 have N1 := Aside0.mk hy1
 have N2 := Aside0.mk hy2
 have N3 := Aside0.mk hy3
 have N4 := Aside0.mk hy4
 have Q7 := Aside0.mk q7
 have Q8 := Aside0.mk q8
 have Q9 := Aside0.mk q9
 clear hr hy1 hy2 hy3 hy4 q7 q8 q9 hl
 go_enter Tryd.func63, Tryd.ntmps63
 go_wp2_with (first
  | ((with_reducible refine gate_builtin (b := .append) (xs := #[.tmp 4, .tmp 5]) rfl ?_); at_builtin; refine Kd.R_append_rows Kd.string (w0 := w) w.heap.size rfl (.tmp 4) (.tmp 5) 29 9 (.string ⟨#[]⟩) 16 rfl Tryd.underlying29 info9 rfl (by decide) (by omega) (.slice none 0 0) ([] : List ByteArray) l _ _ _ (fun _ => True) (fun _ => False) rfl rfl ?aO ?aR (fun _ _ h => h) (fun _ h => h.elim) ?aF ?aB ?aS ?aL ?_; (case aR => exact HR0.out); (case aB => exact HB.out); (case aF => exact (fun _ _ => trivial)); (case aO => exact ((Kd.R_nil _ _ _ _ (fun _ => True)))); (case aS => exact Nat.le_refl _); (case aL => have := Q7.out; omega); intro v1 w1 ho hb hg hat; rw [← N1.out] at ho; have n0_ := Aside0.mk hb; have n1_ := Aside0.mk ho; clear HB; have HB := n0_; have HO1 := n1_; clear n0_ n1_ ho hb hg hat)
  | ((with_reducible refine gate_builtin (b := .append) (xs := #[.tmp 7, .tmp 8]) rfl ?_); at_builtin; refine Kd.R_append Kd.string (w0 := w) w.heap.size rfl (.tmp 7) (.tmp 8) 29 9 (.string ⟨#[]⟩) 16 rfl Tryd.underlying29 info9 rfl (by decide) (by omega) v1 y1 (⟨#[109, 97, 114, 107]⟩ : ByteArray) [.string ⟨#[109, 97, 114, 107]⟩] (fun _ => True) (fun _ => False) rfl rfl ?aP (fun _ hk => hk.elim) ?aF ?aO ?aB ?aS ?aL ?_; (case aP => exact rfl); (case aB => exact HB.out); (case aF => exact (fun _ _ => trivial)); (case aO => exact HO1.out); (case aS => exact (below_size HB.out)); (case aL => have := Q8.out; omega); intro v2 w2 ho hb hg hat; rw [← N2.out] at ho; have n0_ := Aside0.mk hb; have n1_ := Aside0.mk ho; clear HB HO1; have HB := n0_; have HO2 := n1_; clear n0_ n1_ ho hb hg hat; obtain ⟨Ao, co, eo⟩ := Kd.R_slice HO2.out; subst eo; obtain ⟨i0, hi0, _, hsz0, _⟩ := info_parts info9; have hcut := cut_to (P := Tryd.prog) 29 9 .i64 Tryd.underlying29 hi0 Ao y2.length co (l.length : Int) (by omega) Q9.out (Kd.R_reads' HO2.out).2.1; clear hi0 hsz0))
 go_ret
 refine ⟨Ao, co, rfl, ⟨?_, HB.out⟩⟩
 have h := HO2.out
 rw [N3.out] at h
 rw [← N4.out]
 exact h

set_option maxHeartbeats 8000000 in
set_option maxRecDepth 100000 in
theorem LentRules_m (A0 : Option Addr) (c0 : Nat) (l : List S41) (w : World) (hr : Kd.C k41 w A0 l.length l) (hl : l.length < 4398046511104) (hx : ∀ x ∈ l, x.f1.length < 17592186044415) :
 Calls Tryd.prog 64 #[.slice A0 l.length c0] w fun e w' => ∃ A c, e = .returned (.slice A l.length c) ∧ Aside0 (Kd.R kRx 41 w' w.heap.size (fun _ => True) (.slice A (l.length + 1) c) (mk1 l ++ [((⟨-7171, []⟩ : S41), false)]) ∧ Below w.heap.size w w') := by
 have HR0 := Aside0.mk hr
 have HX := Aside0.mk hx
 have HL := Aside0.mk hl
 have hm := C_max hr
 have HU := Aside0.mk (show True from trivial)
 clear hr hx hl
 go_enter Tryd.func64, Tryd.ntmps64
 go_wp2_with fail
 go_loopw [3, 4, 5] (fun v i _ wr => ∃ k : Nat, k ≤ l.length ∧ i = .int .i64 k ∧ Aside0 (Kd.R kRx 41 wr w.heap.size (fun _ => True) v (mk1 (l.take k)) ∧ Below w.heap.size w wr)) (fun _ i _ _ => l.length - (intOf i).toNat)
 case atStart => exact ⟨0, Nat.zero_le _, rfl, ⟨by simpa [mk1] using Kd.R_nil kRx _ w w.heap.size (fun _ => True), Below.refl _ w⟩⟩
 case round =>
  obtain ⟨k, hk, rfl, tr⟩ := hrel
  by_cases hlt : k < l.length
  · obtain ⟨ad, A, c, rfl, h0, h1, h2, h3⟩ := at_T41 (Kd.C_below HR0.out tr.out.2) (k : Int) (by omega) (by omega)
    have q0 : rd_T41 l (k : Int) = l[k] := by simp [rd_T41, List.getD_eq_getElem?_getD, List.getElem?_eq_getElem hlt]
    have hxk := HX.out l[k] (List.getElem_mem hlt)
    have hnx : mk1 (l.take (k + 1)) = mk1 (l.take k) ++ [(l[k], true)] := by rw [mk1, List.take_succ_eq_append_getElem hlt, List.map_append]; rfl
    rw [Int.toNat_natCast] at h0 h1
    rw [q0] at h0 h1 h2 h3
    generalize l[k] = x at h0 h1 h2 h3 hxk hnx
    have hcall : Calls Tryd.prog 88 #[.slice A x.f1.length c] wr fun e w' => ∃ A' c', e = .returned (.slice A' x.f1.length c') ∧ Aside0 (Kd.R (Kd.int .i64) 3 w' w.heap.size (fun k_ => some k_ = (.slice A' (x.f1.length + 1) c' : Value).ownBlock) (.slice A' (x.f1.length + 1) c') (x.f1 ++ [-7171]) ∧ Kd.R kRx 41 w' w.heap.size (fun _ => True) u3 (mk1 (l.take k)) ∧ Below w.heap.size w w') ∧ w'.cell? (ad.add (k * 2)) = some (.int .i64 x.f0) := by
     refine (LentInts_m A c x.f1 wr h3 hxk).mono ?_
     rintro e w' ⟨A', c', rfl, h⟩
     exact ⟨A', c', rfl, ⟨Kd.R_lower (Kd.R_tight rfl h.out.1) (below_size tr.out.2), Kd.R_below tr.out.1 h.out.2, tr.out.2.trans (h.out.2.mono (below_size tr.out.2))⟩, (h.out.2.cell (World.block_lt_of_cell? wr _ h0)).trans h0⟩
    have HC := Aside0.mk hcall
    have HN := Aside0.mk hnx
    clear hcall h2 h3 q0 hxk hnx
    go_wp2_with (first
     | (go_at_call 88; (with_reducible refine HC.out.mono ?_); rintro e w6 ⟨A', c', rfl, t6, e0⟩)
     | ((with_reducible refine gate_builtin (b := .append) (xs := #[.tmp 18, .tmp 26]) rfl ?_); at_builtin; refine Kd.R_append kRx (w0 := w) w.heap.size rfl (.tmp 18) (.tmp 26) 30 41 (.agg #[(.int .i64 0), (.slice none 0 0)]) 32 rfl Tryd.underlying30 info41 rfl (by decide) (by omega) u3 (mk1 (l.take k)) (x, true) [.int .i64 x.f0, .slice A' x.f1.length c'] (fun _ => True) (fun k_ => some k_ = (.slice A' (x.f1.length + 1) c' : Value).ownBlock) rfl rfl ?aP ?aA ?aF ?aO ?aB ?aS ?aL ?_; (case aP => exact ⟨[.int .i64 x.f0], [.slice A' x.f1.length c'], rfl, rfl, A', c', rfl, t6.out.1⟩); (case aA => exact (fun k_ hk_ => ⟨trivial, ((Kd.R_apart' t6.out.1 (Kd.R_typed t6.out.2.1) (by decide)).1 k_ hk_.symm).2⟩)); (case aB => exact t6.out.2.2); (case aF => exact (fun _ _ => trivial)); (case aO => exact t6.out.2.1); (case aS => exact (below_size t6.out.2.2)); (case aL => have := HL.out; simp only [mk1_length, List.length_take]; omega); intro v8 w8 ho hb hg hat; rw [← HN.out] at ho; have n0_ := Aside0.mk hb; have n1_ := Aside0.mk ho; clear ho hb hg hat))
    go_roundw
    case measure => simp [intOf]; omega
    case rel => exact ⟨k + 1, by omega, rfl, ⟨n1_.out, n0_.out⟩⟩
  · have hkn : k = l.length := by omega
    subst hkn
    have h1 : Kd.R kRx 41 wr w.heap.size (fun _ => True) u3 (mk1 l) := by have := tr.out.1; rwa [List.take_length] at this
    obtain ⟨y2, hy2⟩ : ∃ y_, y_ = mk1 l ++ [((⟨-7171, []⟩ : S41), false)] := ⟨_, rfl⟩
    have q9 : ((l.length : Int)) ≤ ((y2.length : Int)) := by rw [hy2]; simp [mk1_length]; omega
    have hy3 : y2.length = l.length + 1 := by rw [hy2]; simp [mk1_length]
    have N2 := Aside0.mk hy2
    have N3 := Aside0.mk hy3
    have Q9 := Aside0.mk q9
    have H1 := Aside0.mk h1
    clear hy2 hy3 q9 h1
    go_wp2_with (first
     | ((with_reducible refine gate_builtin (b := .append) (xs := #[.tmp 28, .tmp 30]) rfl ?_); at_builtin; refine Kd.R_append kRx (w0 := w) w.heap.size rfl (.tmp 28) (.tmp 30) 30 41 (.agg #[(.int .i64 0), (.slice none 0 0)]) 32 rfl Tryd.underlying30 info41 rfl (by decide) (by omega) u3 (mk1 l) ((⟨-7171, []⟩ : S41), false) [.int .i64 (-7171), .slice none 0 0] (fun _ => True) (fun _ => False) rfl rfl ?aP (fun k_ hk_ => hk_.elim) ?aF ?aO ?aB ?aS ?aL ?_; (case aP => exact ⟨[.int .i64 (-7171)], [.slice none 0 0], rfl, rfl, none, 0, rfl, Kd.R_nil _ _ _ _ _⟩); (case aB => exact tr.out.2); (case aF => exact (fun _ _ => trivial)); (case aO => exact H1.out); (case aS => exact (below_size tr.out.2)); (case aL => have := HL.out; simp only [mk1_length]; omega); intro v2 w2 ho hb hg hat; rw [← N2.out] at ho; have n0_ := Aside0.mk hb; have n1_ := Aside0.mk ho; clear ho hb hg hat; obtain ⟨Ao, co, eo⟩ := Kd.R_slice n1_.out; subst eo; obtain ⟨i0, hi0, _, hsz0, _⟩ := info_parts info41; have hcut := cut_to (P := Tryd.prog) 30 41 .i64 Tryd.underlying30 hi0 Ao y2.length co (l.length : Int) (by omega) Q9.out (Kd.R_reads' n1_.out).2.1; clear hi0 hsz0))
    go_ret
    refine ⟨Ao, co, rfl, ⟨?_, n0_.out⟩⟩
    have h := n1_.out
    rw [N3.out] at h
    rw [← N2.out]
    exact h
end Go.Proofs.YtjkifeladmhkoaaDoor.B
/- Lists that own their memory, none sharing with another: what is told of them while they are written and gone on with. -/
set_option linter.unusedVariables false
set_option linter.unusedSimpArgs false
namespace Go.Proofs.YtjkifeladmhkoaaDoor.AP
open Go.RowKit Go.Proofs.YtjkifeladmhkoaaDoorW.PrintWords Go.Proofs.YtjkifeladmhkoaaDoorW.PrintLast Go.Proofs.YtjkifeladmhkoaaDoorW.PrintMore
open Go.Proofs.YtjkifeladmhkoaaDoor.B (getD_lt getD_set C_pre)

abbrev OneV : Type := {v : Value // v.oneCell' = true}
def kV : Kd OneV := Kd.scalar (fun x : OneV => x.1) (fun x => x.2)
def zV : OneV := ⟨.slice none 0 0, rfl⟩
def vd (vs : List OneV) (i : Nat) : Value := (vs.getD i zV).1
def okO (vs : List OneV) (i : Nat) (k : Nat) : Prop := ∀ j, j < vs.length → j ≠ i → some k ≠ (vd vs j).ownBlock

section
variable {IK : IntKind} {E base : Nat} {ok ok' : Nat → Prop} {W W' : World} {v : Value} {X : List Int}
def RC (IK : IntKind) (E : Nat) (W : World) (base : Nat) (ok : Nat → Prop) (v : Value) (X : List Int) : Prop :=
 Kd.R (Kd.int IK) E W base ok v X ∨ ∃ (g : Nat) (cur : Array Value), v = .slice (some ⟨g, 0, none⟩) X.length X.length ∧ ok g ∧ base ≤ g ∧ W.heap[g]? = some (.cells cur E (0, 0)) ∧ X.length ≤ 9223372036854775807 ∧ cur.toList.take X.length = nums IK X
theorem RC.cut_C {g : Nat} {cur : Array Value} (hg : W.heap[g]? = some (.cells cur E (0, 0))) (hm : X.length ≤ 9223372036854775807) (ht : cur.toList.take X.length = nums IK X) : Kd.C (Kd.int IK) W (some ⟨g, 0, none⟩) X.length X := by
 refine ⟨rfl, hm, fun hp => ⟨_, rfl, fun j p hj => ⟨[.int IK p], rfl, rfl, fun i u hu => ?_⟩⟩⟩
 obtain rfl : i = 0 := by
  rcases i with _ | i
  · rfl
  · simp at hu
 have hu' : u = .int IK p := by simpa using hu.symm
 subst hu'
 have hjl := (List.getElem?_eq_some_iff.1 hj).1
 have h1 : (cur.toList.take X.length)[j]? = some (.int IK p) := by rw [ht]; simp [nums, hj]
 rw [List.getElem?_take_of_lt hjl] at h1
 show W.cell? ((⟨g, 0, none⟩ : Addr).add (j * 1 + 0)) = _
 rw [add_plain]
 have h2 : cur[j]? = some (.int IK p) := by rw [← h1]; simp
 simp [World.cell?, hg, h2]
theorem RC.lo (h : RC IK E W base ok v X) (k : Nat) (hk : v.ownBlock = some k) : ok k ∧ base ≤ k ∧ k < W.heap.size := by
 rcases h with h | ⟨g, cur, rfl, h1, h2, h3, h4, h5⟩
 · obtain ⟨inner, ho⟩ := Kd.R_own h
   exact ⟨h.1 k hk, own_base ho k hk, own_lt ho k hk⟩
 · have : g = k := by simpa [Value.ownBlock] using hk
   subst this
   exact ⟨h1, h2, (Array.getElem?_eq_some_iff.1 h3).1⟩
theorem RC.reads (h : RC IK E W base ok v X) : ∃ A c, v = .slice A X.length c ∧ X.length ≤ c ∧ Kd.C (Kd.int IK) W A X.length X := by
 rcases h with h | ⟨g, cur, rfl, h1, h2, h3, h4, h5⟩
 · exact Kd.R_reads h
 · exact ⟨_, _, rfl, Nat.le_refl _, RC.cut_C h3 h4 h5⟩
theorem RC.form (h : RC IK E W base ok v X) (hp : 0 < X.length) : ∃ g c, v = .slice (some ⟨g, 0, none⟩) X.length c ∧ base ≤ g := by
 rcases h with h | ⟨g, cur, rfl, h1, h2, h3, h4, h5⟩
 · obtain ⟨g, c, e, hb, _⟩ := Kd.R_form h hp
   exact ⟨g, c, e, hb⟩
 · exact ⟨g, _, rfl, h2⟩
theorem RC.cell {g n c : Nat} (h : RC IK E W base ok (.slice (some ⟨g, 0, none⟩) n c) X) (k : Nat) (hk : k < n) : W.cell? ⟨g, k, none⟩ = some (.int IK (X.getD k 0)) ∧ W.frozen? ⟨g, k, none⟩ = false := by
 rcases h with h | ⟨g', cur, e, h1, h2, h3, h4, h5⟩
 · have := Kd.R_celln 0 h (k : Int) (by omega) (by omega)
   rw [Int.toNat_natCast] at this
   exact this
 · injection e with e1 e2 e3
   injection e1 with e1
   injection e1 with e1
   subst e1 e2
   have h6 : (cur.toList.take X.length)[k]? = some (.int IK (X.getD k 0)) := by
    rw [h5]
    simp only [nums, List.getElem?_map, List.getElem?_eq_getElem hk, Option.map_some]
    rw [List.getD_eq_getElem?_getD, List.getElem?_eq_getElem hk]; rfl
   rw [List.getElem?_take_of_lt hk] at h6
   have h7 : cur[k]? = some (.int IK (X.getD k 0)) := by rw [← h6]; simp
   exact ⟨by simp [World.cell?, h3, h7], by simp [World.frozen?, h3]⟩
theorem RC.putn {g n c : Nat} (h : RC IK E W base ok (.slice (some ⟨g, 0, none⟩) n c) X) (k : Nat) (x : Int) : RC IK E (W.setCell ⟨g, k, none⟩ (.int IK x)) base ok (.slice (some ⟨g, 0, none⟩) n c) (X.set k x) := by
 rcases h with h | ⟨g', cur, e, h1, h2, h3, h4, h5⟩
 · have := Kd.R_putn h (k : Int) x
   rw [Int.toNat_natCast] at this
   exact .inl this
 · injection e with e1 e2 e3
   injection e1 with e1
   injection e1 with e1
   subst e1 e2 e3
   refine .inr ⟨g, cur.setIfInBounds k (.int IK x), by rw [List.length_set], h1, h2, blk_put h3 k _ rfl, by rw [List.length_set]; exact h4, ?_⟩
   rw [List.length_set, Array.toList_setIfInBounds, List.take_set, h5]
   simp [nums, List.map_set]
theorem RC.step (h : RC IK E W base ok v X) (hm : ∀ k, ok k → k < W.heap.size → W'.heap[k]? = W.heap[k]?) : RC IK E W' base ok v X := by
 rcases h with h | ⟨g, cur, rfl, h1, h2, h3, h4, h5⟩
 · exact .inl (Kd.R_step h hm)
 · exact .inr ⟨g, cur, rfl, h1, h2, (hm g h1 (Array.getElem?_eq_some_iff.1 h3).1).trans h3, h4, h5⟩
theorem RC.weak (h : RC IK E W base ok v X) (hk : ∀ k, v.ownBlock = some k → ok' k) : RC IK E W base ok' v X := by
 rcases h with h | ⟨g, cur, rfl, h1, h2, h3, h4, h5⟩
 · exact .inl (Kd.R_of_own (enc := Value.int IK) (h1 := fun _ => rfl) (Kd.own_of_R h) hk)
 · exact .inr ⟨g, cur, rfl, hk g rfl, h2, h3, h4, h5⟩
theorem RC.below (h : RC IK E W base ok v X) (hb : Below W.heap.size W W') : RC IK E W' base ok v X := h.step (fun k _ hk => hb.block k hk)
theorem RC.lower {base' : Nat} (h : RC IK E W base ok v X) (hb : base' ≤ base) : RC IK E W base' ok v X := by
 rcases h with h | ⟨g, cur, rfl, h1, h2, h3, h4, h5⟩
 · exact .inl (Kd.R_lower h hb)
 · exact .inr ⟨g, cur, rfl, h1, Nat.le_trans hb h2, h3, h4, h5⟩
end

section
variable {IK : IntKind} {E base : Nat} {vs : List OneV} {Xs : List (List Int)} {W W' w : World} {A : Option Addr}

def Own (IK : IntKind) (E base : Nat) (vs : List OneV) (Xs : List (List Int)) (W : World) : Prop := ∀ i, i < vs.length → RC IK E W base (okO vs i) (vd vs i) (Xs.getD i [])
theorem Own.store (h : Own IK E base vs Xs W) (hl : Xs.length = vs.length) (i : Nat) (hi : i < vs.length) (g n c : Nat) (hv : vd vs i = .slice (some ⟨g, 0, none⟩) n c) (k : Nat) (x : Int) : Own IK E base vs (Xs.set i ((Xs.getD i []).set k x)) (W.setCell ⟨g, k, none⟩ (.int IK x)) := by
 intro j hj
 rw [getD_set]
 by_cases hij : i = j
 · subst hij
   rw [if_pos ⟨rfl, by omega⟩]
   have := h i hi
   rw [hv] at this ⊢
   exact this.putn k x
 · rw [if_neg (fun hh => hij hh.1)]
   refine RC.step (h j hj) (fun k' hk' _ => Below.heap_setCell _ _ _ _ (fun e => ?_))
   have := hk' i hi hij
   rw [hv] at this
   exact this (by simp [Value.ownBlock]; exact e)
theorem Own.lo (h : Own IK E base vs Xs W) (i : Nat) (hi : i < vs.length) (k : Nat) (hk : (vd vs i).ownBlock = some k) : base ≤ k ∧ k < W.heap.size := by
 exact (RC.lo (h i hi) k hk).2
def All (A : Option Addr) (vs : List OneV) (W : World) : Prop := Kd.C kV W A vs.length vs
theorem All.cell (h : All A vs W) (ad : Addr) (hA : A = some ad) (i : Nat) (hi : i < vs.length) : W.cell? (ad.add i) = some (vd vs i) := by
 obtain ⟨ad', c, ha, hc, hk, hx⟩ := Kd.C_get h zV (i : Int) (by omega) (by omega)
 obtain rfl := Option.some.inj (ha.symm.trans hA)
 have hk' : c = [(vs.getD ((i : Int)).toNat zV).1] := hk
 have := hx 0 _ (by rw [hk']; rfl)
 rw [Int.toNat_natCast] at this
 have e : i * kV.sz + 0 = i := by show i * 1 + 0 = i; omega
 rw [e] at this
 exact this
theorem All.addr (h : All A vs W) (hp : 0 < vs.length) : ∃ ad, A = some ad := by
 obtain ⟨ad, e, _⟩ := h.2.2 hp
 exact ⟨ad, e⟩
theorem All.lt (h : All A vs W) (ad : Addr) (hA : A = some ad) (hp : 0 < vs.length) : ad.block < W.heap.size := by
 have := World.block_lt_of_cell? W _ (h.cell ad hA 0 hp)
 rwa [add_block] at this
theorem All.move (h : All A vs W) (hm : ∀ ad, A = some ad → 0 < vs.length → W'.heap[ad.block]? = W.heap[ad.block]?) : All A vs W' := by
 refine ⟨h.1, h.2.1, fun hp => ?_⟩
 obtain ⟨ad, e, hc⟩ := h.2.2 hp
 refine ⟨ad, e, fun j p hj => ?_⟩
 obtain ⟨c, h1, h2, h3⟩ := hc j p hj
 refine ⟨c, h1, h2, fun i u hu => ?_⟩
 rw [← h3 i u hu]
 exact World.cell?_of_block (by rw [add_block]; exact hm ad e hp)
def Rds (IK : IntKind) (W : World) (v : Value) (X : List Int) : Prop := ∃ A c, v = .slice A X.length c ∧ X.length ≤ c ∧ Kd.C (Kd.int IK) W A X.length X
theorem Rds.cell {v : Value} {X : List Int} (h : Rds IK W v X) (hp : 0 < X.length) : ∃ ad c, v = .slice (some ad) X.length c ∧ ∀ q, q < X.length → W.cell? (ad.add q) = some (.int IK (X.getD q 0)) := by
 obtain ⟨A, c, hv, hc, hr⟩ := h
 obtain ⟨ad, e, _⟩ := hr.2.2 hp
 subst e
 refine ⟨ad, c, hv, fun q hq => ?_⟩
 obtain ⟨ad', cs, ha, hcl, hk, hx⟩ := Kd.C_get hr 0 (q : Int) (by omega) (by omega)
 obtain rfl := Option.some.inj ha
 have hk' : cs = [.int IK (X.getD ((q : Int)).toNat 0)] := hk
 have := hx 0 _ (by rw [hk']; rfl)
 rw [Int.toNat_natCast] at this
 have e : q * (Kd.int IK).sz + 0 = q := by show q * 1 + 0 = q; omega
 rw [e] at this
 exact this
theorem Rds.cells {v : Value} {X : List Int} (h : Rds IK W v X) (hm : ∀ ad n c, v = .slice (some ad) n c → ∀ q, q < X.length → W'.cell? (ad.add q) = W.cell? (ad.add q)) : Rds IK W' v X := by
 obtain ⟨A, c, hv, hc, hr⟩ := h
 refine ⟨A, c, hv, hc, hr.1, hr.2.1, fun hp => ?_⟩
 obtain ⟨ad, e, hx⟩ := hr.2.2 hp
 refine ⟨ad, e, fun j p hj => ?_⟩
 obtain ⟨cs, h1, h2, h3⟩ := hx j p hj
 have hjl := (List.getElem?_eq_some_iff.1 hj).1
 refine ⟨cs, h1, h2, fun i u hu => ?_⟩
 have hi : i < 1 := by
  have := (List.getElem?_eq_some_iff.1 hu).1
  have h1' : cs.length = 1 := h1
  omega
 have hoff : j * (Kd.int IK).sz + i = j := by show j * 1 + i = j; omega
 have := h3 i u hu
 rw [hoff] at this ⊢
 rw [hm ad X.length c (by rw [hv, e]) j hjl]
 exact this
theorem Rds.block {v : Value} {X : List Int} (h : Rds IK W v X) (hm : ∀ k, v.ownBlock = some k → W'.heap[k]? = W.heap[k]?) : Rds IK W' v X :=
 h.cells (fun ad n c hv q _ => World.cell?_of_block (by rw [add_block]; exact hm ad.block (by rw [hv]; rfl)))
theorem Own.reads (h : Own IK E base vs Xs W) (i : Nat) (hi : i < vs.length) : Rds IK W (vd vs i) (Xs.getD i []) := by
 obtain ⟨A, c, hv, hc, hr⟩ := RC.reads (h i hi)
 exact ⟨A, c, hv, hc, hr⟩
end
end Go.Proofs.YtjkifeladmhkoaaDoor.AP
/- kit.Kept..: what was lent is as it was. -/
set_option linter.unusedVariables false
set_option linter.unusedSimpArgs false
namespace Go.Proofs.YtjkifeladmhkoaaDoor.B
open Go.RowKit Go.Proofs.YtjkifeladmhkoaaDoorW.PrintWords Go.Proofs.YtjkifeladmhkoaaDoorW.PrintLast Go.Proofs.YtjkifeladmhkoaaDoorW.PrintMore

theorem cut_cap {P : Program} (t e : TypeId) (kh : IntKind) {i : TypeInfo} (ht : P.underlying t = some (.slice e)) (hi : P.info? e = some i) (A : Option Addr) (n c : Nat) (j : Int) (h0 : 0 ≤ j) (hm : j ≤ c) :
 ∀ W : World, (Instr.slice t (.slice A n c) none (some (.int kh j)) none).run P W = .ok (.slice A j.toNat c) W := by
 intro W
 have hel : P.elem t = e := by simp [Program.elem, ht]
 have hu : P.underlying t = some (.slice (P.elem t)) := by rw [hel]; exact ht
 have ha : (A.map fun x => x.add 0) = A := by cases A <;> simp [Addr.add]
 rw [run_slice_h W t A n c hu kh j h0 hm, hel]
 simp [sizeOf, typeInfo, hi, sliced, Result.andThen, ha]

set_option maxHeartbeats 2000000 in
set_option maxRecDepth 100000 in
theorem KeptInts_yes (A : Option Addr) (c : Nat) (A' : Option Addr) (c' : Nat) (l : List Int) (w : World) (hc : l.length + 1 ≤ c) (hr : Kd.C (Kd.int .i64) w A (l.length + 1) (l ++ [-7171])) (hc' : l.length ≤ c') (hr' : Kd.C (Kd.int .i64) w A' l.length l) :
 Calls Tryd.prog 96 #[.slice A l.length c, .slice A' l.length c'] w fun e w' => e = .returned (.bool true) ∧ Below w.heap.size w w' := by
 have hm := C_max hr'
 have hm1 := C_max hr
 have hm2 : l.length + 1 ≤ 9223372036854775807 := hm1
 have hf := KInts_f l l (l.length + 1) hm (by omega)
 rw [decide_eq_true (rfl : l = l)] at hf
 obtain ⟨ad, rfl, hx⟩ := Kd.at_int hr ((l.length : Nat) : Int) (by omega) (by omega)
 have hmk : w.cell? (ad.add l.length) = some (.int .i64 (-7171)) := by
  rw [Int.toNat_natCast] at hx
  rw [hx]
  simp [rd, List.getD_eq_getElem?_getD]
 have hcall : Calls Tryd.prog 20 #[.slice (some ad) l.length c, .slice A' l.length c'] w fun e w' => e = .returned (.bool true) ∧ Aside0 (Below w.heap.size w w') ∧ w'.cell? (ad.add l.length) = some (.int .i64 (-7171)) := by
  refine (dovetailkit_Ints.calls (l.length + 1) (some ad) c l A' c' l true w (C_pre hr) (by omega) hr' hc' hf).mono ?_
  rintro e w' ⟨he, hb⟩
  have hb' : Below w.heap.size w w' := by first | exact hb | exact hb.below
  exact ⟨he, ⟨hb'⟩, (hb'.cell (World.block_lt_of_cell? w _ hmk)).trans hmk⟩
 obtain ⟨i0, hi0, _, _, _⟩ := info_parts info3
 have hcut : ∀ W : World, (Instr.slice 24 (.slice (some ad) l.length c) none (some (.int .i64 ((l.length : Int) + 1))) none).run Tryd.prog W = .ok (.slice (some ad) (l.length + 1) c) W := fun W => by
  have := cut_cap (P := Tryd.prog) 24 3 .i64 Tryd.underlying24 hi0 (some ad) l.length c ((l.length : Int) + 1) (by omega) (by omega) W
  rwa [show ((l.length : Int) + 1).toNat = l.length + 1 from by omega] at this
 have HC := Aside0.mk hcall
 clear hcall hr hr' hx hf hmk hi0 hm1
 go_enter Tryd.func96, Tryd.ntmps96
 go_wp2_with (go_at_call 20; (with_reducible refine HC.out.mono ?_); rintro e w1 ⟨rfl, hb, f0⟩)
 go_ret
 exact ⟨rfl, hb.out⟩

set_option maxHeartbeats 2000000 in
set_option maxRecDepth 100000 in
theorem KeptStrings_yes (A : Option Addr) (c : Nat) (A' : Option Addr) (c' : Nat) (l : List ByteArray) (w : World) (hc : l.length + 1 ≤ c) (hr : Kd.C Kd.string w A (l.length + 1) (l ++ [(⟨#[109, 97, 114, 107]⟩ : ByteArray)])) (hc' : l.length ≤ c') (hr' : Kd.C Kd.string w A' l.length l) :
 Calls Tryd.prog 68 #[.slice A l.length c, .slice A' l.length c'] w fun e w' => e = .returned (.bool true) ∧ Below w.heap.size w w' := by
 have hm := C_max hr'
 have hm1 := C_max hr
 have hm2 : l.length + 1 ≤ 9223372036854775807 := hm1
 have hf := KStrings_f l l (l.length + 1) hm (by omega)
 rw [decide_eq_true (rfl : l = l)] at hf
 obtain ⟨ad, rfl, hx⟩ := Kd.at_string hr ((l.length : Nat) : Int) (by omega) (by omega)
 have hmk : w.cell? (ad.add l.length) = some (.string ⟨#[109, 97, 114, 107]⟩) := by
  rw [Int.toNat_natCast] at hx
  rw [hx]
  simp [rdOf, List.getD_eq_getElem?_getD]
 have hcall : Calls Tryd.prog 95 #[.slice (some ad) l.length c, .slice A' l.length c'] w fun e w' => e = .returned (.bool true) ∧ Aside0 (Below w.heap.size w w') ∧ w'.cell? (ad.add l.length) = some (.string ⟨#[109, 97, 114, 107]⟩) := by
  refine (dovetailkit_Strings.calls (l.length + 1) (some ad) c l A' c' l true w (C_pre hr) (by omega) hr' hc' hf).mono ?_
  rintro e w' ⟨he, hb⟩
  have hb' : Below w.heap.size w w' := by first | exact hb | exact hb.below
  exact ⟨he, ⟨hb'⟩, (hb'.cell (World.block_lt_of_cell? w _ hmk)).trans hmk⟩
 obtain ⟨i0, hi0, _, _, _⟩ := info_parts info9
 have hcut : ∀ W : World, (Instr.slice 29 (.slice (some ad) l.length c) none (some (.int .i64 ((l.length : Int) + 1))) none).run Tryd.prog W = .ok (.slice (some ad) (l.length + 1) c) W := fun W => by
  have := cut_cap (P := Tryd.prog) 29 9 .i64 Tryd.underlying29 hi0 (some ad) l.length c ((l.length : Int) + 1) (by omega) (by omega) W
  rwa [show ((l.length : Int) + 1).toNat = l.length + 1 from by omega] at this
 have HC := Aside0.mk hcall
 clear hcall hr hr' hx hf hmk hi0 hm1
 go_enter Tryd.func68, Tryd.ntmps68
 go_wp2_with (go_at_call 95; (with_reducible refine HC.out.mono ?_); rintro e w1 ⟨rfl, hb, f0⟩)
 go_ret
 exact ⟨rfl, hb.out⟩

theorem MR.addr {w : World} {A : Option Addr} {c : Nat} {l : List S41} (h : MR w A c l) : ∃ ad, A = some ad := by
 obtain ⟨ad, e, _⟩ := h.2.2.2 (by omega)
 exact ⟨ad, e⟩
theorem MR.cells {w : World} {ad : Addr} {c : Nat} {l : List S41} (h : MR w (some ad) c l) (i : Nat) (hi : i < l.length) : ∃ A1 c1, w.cell? (ad.add (i * 2)) = some (.int .i64 l[i].f0) ∧ w.cell? ⟨(ad.add (i * 2)).block, (ad.add (i * 2)).off + 1, none⟩ = some (.slice A1 l[i].f1.length c1) ∧ l[i].f1.length + 1 ≤ c1 ∧ Kd.C (Kd.int .i64) w A1 (l[i].f1.length + 1) (l[i].f1 ++ [-7171]) := by
 obtain ⟨ad', e, hc⟩ := h.2.2.2 (by omega)
 obtain rfl := Option.some.inj e
 obtain ⟨cs, h1, h2, h3⟩ := hc i (l[i], true) (by rw [List.getElem?_append_left (by rw [mk1_length]; exact hi)]; simp [mk1, List.getElem?_eq_getElem hi])
 obtain ⟨a, b, rfl, q1, A1, c1, rfl, q2⟩ := h2
 have q1' : a = [.int .i64 l[i].f0] := q1
 subst q1'
 refine ⟨A1, c1, h3 0 _ rfl, ?_, q2.1, q2.2⟩
 rw [← add_field _ _ 1 (by omega)]
 exact h3 1 _ rfl
theorem MR.mark {w : World} {ad : Addr} {c : Nat} {l : List S41} (h : MR w (some ad) c l) : w.cell? (ad.add (l.length * 2)) = some (.int .i64 (-7171)) := by
 obtain ⟨ad', e, hc⟩ := h.2.2.2 (by omega)
 obtain rfl := Option.some.inj e
 obtain ⟨cs, h1, h2, h3⟩ := hc l.length (⟨-7171, []⟩, false) (by rw [List.getElem?_append_right (by rw [mk1_length]; exact Nat.le_refl _), mk1_length, Nat.sub_self]; rfl)
 obtain ⟨a, b, rfl, q1, _⟩ := h2
 have q1' : a = [.int .i64 (-7171)] := q1
 subst q1'
 exact h3 0 _ rfl
set_option maxHeartbeats 4000000 in
set_option maxRecDepth 100000 in
theorem KeptRules_yes (A : Option Addr) (c : Nat) (A' : Option Addr) (c' : Nat) (l : List S41) (w : World) (hr : MR w A c l) (hc' : l.length ≤ c') (hr' : Kd.C k41 w A' l.length l) :
 Calls Tryd.prog 69 #[.slice A l.length c, .slice A' l.length c'] w fun e w' => e = .returned (.bool true) ∧ Below w.heap.size w w' := by
 have hm := C_max hr'
 have hm1 := C_max hr.2
 have hm2 : l.length + 1 ≤ 9223372036854775807 := hm1
 have hc := hr.1
 obtain ⟨ad, rfl⟩ := hr.addr
 have hmk := hr.mark
 obtain ⟨i0, hi0, _, _, _⟩ := info_parts info41
 have hcut : ∀ W : World, (Instr.slice 30 (.slice (some ad) l.length c) none (some (.int .i64 ((l.length : Int) + 1))) none).run Tryd.prog W = .ok (.slice (some ad) (l.length + 1) c) W := fun W => by
  have := cut_cap (P := Tryd.prog) 30 41 .i64 Tryd.underlying30 hi0 (some ad) l.length c ((l.length : Int) + 1) (by omega) (by omega) W
  rwa [show ((l.length : Int) + 1).toNat = l.length + 1 from by omega] at this
 have HR := Aside0.mk hr
 have HR' := Aside0.mk hr'
 clear hr hr' hi0 hm1
 go_enter Tryd.func69, Tryd.ntmps69
 go_wp2_with fail
 clear hcut hmk
 go_loopw [5] (fun i wr => ∃ k : Nat, k ≤ l.length ∧ i = .int .i64 k ∧ Aside0 (Below w.heap.size w wr)) (fun i _ => l.length - (intOf i).toNat)
 case atStart => exact ⟨0, Nat.zero_le _, rfl, ⟨Below.refl _ w⟩⟩
 case round =>
  obtain ⟨k, hk, rfl, tr⟩ := hrel
  by_cases hlt : k < l.length
  · obtain ⟨A1, c1, g0, g1, g2, g3⟩ := (HR.out.below tr.out).cells k hlt
    obtain ⟨ad', A2, c2, rfl, h0, h1, h2, h3⟩ := at_T41 (Kd.C_below HR'.out tr.out) (k : Int) (by omega) (by omega)
    have q0 : rd_T41 l (k : Int) = l[k] := by simp [rd_T41, List.getD_eq_getElem?_getD, List.getElem?_eq_getElem hlt]
    rw [Int.toNat_natCast] at h0 h1
    rw [q0] at h0 h1 h2 h3
    have hcall : ∀ W, Below wr.heap.size wr W → Calls Tryd.prog 96 #[.slice A1 l[k].f1.length c1, .slice A2 l[k].f1.length c2] W fun e w' => e = .returned (.bool true) ∧ Aside0 (Below w.heap.size w w') := by
     intro W hW
     refine (KeptInts_yes A1 c1 A2 c2 l[k].f1 W g2 (Kd.C_below g3 hW) h2 (Kd.C_below h3 hW)).mono ?_
     rintro e w' ⟨he, hb⟩
     exact ⟨he, ⟨(tr.out.trans (hW.mono (below_size tr.out))).trans (hb.mono (Nat.le_trans (below_size tr.out) hW.size))⟩⟩
    generalize l[k] = x at g0 g1 h0 h1 hcall
    have HC := Aside0.mk hcall
    clear hcall g2 g3 h2 h3 q0
    go_wp2_with fail
    go_still_tail 22, (by kernel_rfl)
    change wpList _ _ _ _ _ wr.drew
    go_wp2_with (go_at_call 96; (with_reducible refine (HC.out _ (Below.refl _ wr).drew).mono ?_); rintro e w6 ⟨rfl, t6⟩)
    go_roundw
    case measure => simp [intOf]; omega
    case rel => exact ⟨k + 1, by omega, rfl, t6⟩
  · have hkn : k = l.length := by omega
    subst hkn
    go_wp2_with fail
    go_ret
    exact ⟨rfl, tr.out⟩
end Go.Proofs.YtjkifeladmhkoaaDoor.B
/- kit.LentGrammar, kit.KeptGrammar. -/
set_option linter.unusedVariables false
set_option linter.unusedSimpArgs false
namespace Go.Proofs.YtjkifeladmhkoaaDoor.B
open Go.RowKit Go.Proofs.YtjkifeladmhkoaaDoorW.PrintWords Go.Proofs.YtjkifeladmhkoaaDoorW.PrintLast Go.Proofs.YtjkifeladmhkoaaDoorW.PrintMore

structure MG (w : World) (A0 : Option Addr) (c0 : Nat) (l0 : List ByteArray) (A1 : Option Addr) (c1 : Nat) (l1 : List ByteArray) (A3 : Option Addr) (c3 : Nat) (l3 : List S41) : Prop where
 h0 : l0.length + 1 ≤ c0
 r0 : Kd.C Kd.string w A0 (l0.length + 1) (l0 ++ [(⟨#[109, 97, 114, 107]⟩ : ByteArray)])
 h1 : l1.length + 1 ≤ c1
 r1 : Kd.C Kd.string w A1 (l1.length + 1) (l1 ++ [(⟨#[109, 97, 114, 107]⟩ : ByteArray)])
 r3 : MR w A3 c3 l3
theorem MG.below {w w' : World} {A0 A1 A3 : Option Addr} {c0 c1 c3 : Nat} {l0 l1 : List ByteArray} {l3 : List S41} (h : MG w A0 c0 l0 A1 c1 l1 A3 c3 l3) (hb : Below w.heap.size w w') : MG w' A0 c0 l0 A1 c1 l1 A3 c3 l3 :=
 ⟨h.h0, Kd.C_below h.r0 hb, h.h1, Kd.C_below h.r1 hb, h.r3.below hb⟩
def GG (w : World) (cs cs' : Array Value) (W : World) : Prop := Below w.heap.size w W ∧ Box w.heap.size cs 32 W ∧ Box (w.heap.size + 1) cs' 32 W
theorem GG.low {w : World} {cs cs' : Array Value} {W : World} (h : GG w cs cs' W) : Below w.heap.size w W := h.1
theorem GG.start (w : World) (cs cs' : Array Value) : GG w cs cs' ((w.alloc (.cells cs 32)).alloc (.cells cs' 32)) :=
 ⟨((Below.refl _ w).alloc (Nat.le_refl _) _).alloc (by simp) _, (Box.new w _ _).alloc _, by have := Box.new (w.alloc (.cells cs 32)) cs' 32; simpa using this⟩
theorem GG.more {w : World} {cs cs' : Array Value} {W W' : World} (h : GG w cs cs' W) (hb : Below W.heap.size W W') : GG w cs cs' W' := ⟨h.1.trans (hb.mono h.1.size), h.2.1.below hb, h.2.2.below hb⟩
theorem GG.two {w : World} {cs cs' : Array Value} {W : World} (h : GG w cs cs' W) : w.heap.size + 2 ≤ W.heap.size := by
 have h2 : W.heap[w.heap.size + 1]? = some (.cells cs' 32 (0, 0)) := h.2.2
 rcases Nat.lt_or_ge (w.heap.size + 1) W.heap.size with h1 | h1
 · exact h1
 · rw [Array.getElem?_eq_none h1] at h2; cases h2
theorem GG.cells {w : World} {v0 v1 v2 v3 u0 u1 u2 u3 : Value} {W : World} (h : GG w #[v0, v1, v2, v3] #[u0, u1, u2, u3] W) : (W.cell? ⟨w.heap.size, 0, none⟩ = some v0 ∧ W.cell? ⟨w.heap.size, 1, none⟩ = some v1 ∧ W.cell? ⟨w.heap.size, 2, none⟩ = some v2 ∧ W.cell? ⟨w.heap.size, 3, none⟩ = some v3) ∧
 W.cell? ⟨w.heap.size + 1, 0, none⟩ = some u0 ∧ W.cell? ⟨w.heap.size + 1, 1, none⟩ = some u1 ∧ W.cell? ⟨w.heap.size + 1, 2, none⟩ = some u2 ∧ W.cell? ⟨w.heap.size + 1, 3, none⟩ = some u3 :=
 ⟨⟨h.2.1.cell 0 _ rfl, h.2.1.cell 1 _ rfl, h.2.1.cell 2 _ rfl, h.2.1.cell 3 _ rfl⟩, h.2.2.cell 0 _ rfl, h.2.2.cell 1 _ rfl, h.2.2.cell 2 _ rfl, h.2.2.cell 3 _ rfl⟩
set_option maxHeartbeats 4000000 in
set_option maxRecDepth 100000 in
theorem KeptGrammar_yes (B0 : Option Addr) (d0 : Nat) (B1 : Option Addr) (d1 : Nat) (B3 : Option Addr) (d3 : Nat) (A0 : Option Addr) (c0 : Nat) (l0 : List ByteArray) (A1 : Option Addr) (c1 : Nat) (l1 : List ByteArray) (a2 : Int) (A3 : Option Addr) (c3 : Nat) (l3 : List S41) (w : World) (hm : MG w B0 d0 l0 B1 d1 l1 B3 d3 l3) (hr0 : Kd.C Kd.string w A0 l0.length l0) (hc0 : l0.length ≤ c0) (hr1 : Kd.C Kd.string w A1 l1.length l1) (hc1 : l1.length ≤ c1) (hr3 : Kd.C k41 w A3 l3.length l3) (hc3 : l3.length ≤ c3) :
 Calls Tryd.prog 29 #[.agg #[.slice B0 l0.length d0, .slice B1 l1.length d1, .int .i64 a2, .slice B3 l3.length d3], .agg #[.slice A0 l0.length c0, .slice A1 l1.length c1, .int .i64 a2, .slice A3 l3.length c3]] w fun e w' => e = .returned (.bool true) ∧ Below w.heap.size w w' := by
 obtain ⟨cs, hcs⟩ : ∃ cs : Array Value, cs = #[.slice B0 l0.length d0, .slice B1 l1.length d1, .int .i64 a2, .slice B3 l3.length d3] := ⟨_, rfl⟩
 obtain ⟨cs', hcs'⟩ : ∃ cs : Array Value, cs = #[.slice A0 l0.length c0, .slice A1 l1.length c1, .int .i64 a2, .slice A3 l3.length c3] := ⟨_, rfl⟩
 have CE : ∀ W, GG w cs cs' W → (W.cell? ⟨w.heap.size, 0, none⟩ = some (.slice B0 l0.length d0) ∧ W.cell? ⟨w.heap.size, 1, none⟩ = some (.slice B1 l1.length d1) ∧ W.cell? ⟨w.heap.size, 2, none⟩ = some (.int .i64 a2) ∧ W.cell? ⟨w.heap.size, 3, none⟩ = some (.slice B3 l3.length d3)) ∧ W.cell? ⟨w.heap.size + 1, 0, none⟩ = some (.slice A0 l0.length c0) ∧ W.cell? ⟨w.heap.size + 1, 1, none⟩ = some (.slice A1 l1.length c1) ∧ W.cell? ⟨w.heap.size + 1, 2, none⟩ = some (.int .i64 a2) ∧ W.cell? ⟨w.heap.size + 1, 3, none⟩ = some (.slice A3 l3.length c3) := by
  intro W hW; subst hcs hcs'; exact hW.cells
 have st : GG w cs cs' ((w.alloc (.cells #[.slice B0 l0.length d0, .slice B1 l1.length d1, .int .i64 a2, .slice B3 l3.length d3] 32)).alloc (.cells #[.slice A0 l0.length c0, .slice A1 l1.length c1, .int .i64 a2, .slice A3 l3.length c3] 32)) := by subst hcs hcs'; exact GG.start w _ _
 have k0 : ∀ W, Below w.heap.size w W → Calls Tryd.prog 68 #[.slice B0 l0.length d0, .slice A0 l0.length c0] W fun e w' => e = .returned (.bool true) ∧ Aside0 (Below W.heap.size W w') := fun W hW => (KeptStrings_yes B0 d0 A0 c0 l0 W hm.h0 (Kd.C_below hm.r0 hW) hc0 (Kd.C_below hr0 hW)).mono fun _ _ h => ⟨h.1, ⟨h.2⟩⟩
 have k1 : ∀ W, Below w.heap.size w W → Calls Tryd.prog 68 #[.slice B1 l1.length d1, .slice A1 l1.length c1] W fun e w' => e = .returned (.bool true) ∧ Aside0 (Below W.heap.size W w') := fun W hW => (KeptStrings_yes B1 d1 A1 c1 l1 W hm.h1 (Kd.C_below hm.r1 hW) hc1 (Kd.C_below hr1 hW)).mono fun _ _ h => ⟨h.1, ⟨h.2⟩⟩
 have k3 : ∀ W, Below w.heap.size w W → Calls Tryd.prog 69 #[.slice B3 l3.length d3, .slice A3 l3.length c3] W fun e w' => e = .returned (.bool true) ∧ Aside0 (Below W.heap.size W w') := fun W hW => (KeptRules_yes B3 d3 A3 c3 l3 W (hm.r3.below hW) hc3 (Kd.C_below hr3 hW)).mono fun _ _ h => ⟨h.1, ⟨h.2⟩⟩
 have CE' := Aside0.mk CE
 have ST := Aside0.mk st
 have K0 := Aside0.mk k0
 have K1 := Aside0.mk k1
 have K3 := Aside0.mk k3
 have HCS := Lib.hid hcs
 have HCS' := Lib.hid hcs'
 clear CE st k0 k1 k3 hm hr0 hr1 hr3 hcs hcs'
 go_enter Tryd.func29, Tryd.ntmps29
 go_wp2_with (first
  | (go_at_call 68; (with_reducible refine (K0.out _ ST.out.low).mono ?_); rintro e w1 ⟨rfl, b1⟩; have t1 := Aside0.mk (ST.out.more b1.out); clear b1; obtain ⟨⟨f0, f1, f2, f3⟩, g0, g1, g2, g3⟩ := CE'.out _ t1.out)
  | (go_at_call 68; (with_reducible refine (K1.out _ t1.out.low).mono ?_); rintro e w2 ⟨rfl, b2⟩; have t2 := Aside0.mk (t1.out.more b2.out); clear b2 f0 f1 f2 f3 g0 g1 g2 g3; obtain ⟨⟨f0, f1, f2, f3⟩, g0, g1, g2, g3⟩ := CE'.out _ t2.out)
  | (go_at_call 69; (with_reducible refine (K3.out _ t2.out.low).mono ?_); rintro e w3 ⟨rfl, b3⟩; have t3 := Aside0.mk (t2.out.more b3.out); clear b3))
 go_ret
 exact ⟨rfl, t3.out.low⟩
set_option maxHeartbeats 8000000 in
set_option maxRecDepth 100000 in
theorem LentGrammar_m (A0 : Option Addr) (c0 : Nat) (l0 : List ByteArray) (A1 : Option Addr) (c1 : Nat) (l1 : List ByteArray) (a2 : Int) (A3 : Option Addr) (c3 : Nat) (l3 : List S41) (w : World) (hr0 : Kd.C Kd.string w A0 l0.length l0) (hr1 : Kd.C Kd.string w A1 l1.length l1) (hr3 : Kd.C k41 w A3 l3.length l3)
 (b0 : l0.length < 8796093022207) (b1 : l1.length < 8796093022207) (b3 : l3.length < 4398046511104) (bx : ∀ x ∈ l3, x.f1.length < 17592186044415) :
 Calls Tryd.prog 26 #[.agg #[.slice A0 l0.length c0, .slice A1 l1.length c1, .int .i64 a2, .slice A3 l3.length c3]] w fun e w' => ∃ B0 d0 B1 d1 B3 d3, e = .returned (.agg #[.slice B0 l0.length d0, .slice B1 l1.length d1, .int .i64 a2, .slice B3 l3.length d3]) ∧ Aside0 (MG w' B0 d0 l0 B1 d1 l1 B3 d3 l3 ∧ Below w.heap.size w w') := by
 obtain ⟨cs, hcs⟩ : ∃ cs : Array Value, cs = #[.slice A0 l0.length c0, .slice A1 l1.length c1, .int .i64 a2, .slice A3 l3.length c3] := ⟨_, rfl⟩
 obtain ⟨cs', hcs'⟩ : ∃ cs : Array Value, cs = #[.slice none 0 0, .slice none 0 0, .int .i64 0, .slice none 0 0] := ⟨_, rfl⟩
 have CE : ∀ W, GG w cs cs' W → W.cell? ⟨w.heap.size, 0, none⟩ = some (.slice A0 l0.length c0) ∧ W.cell? ⟨w.heap.size, 1, none⟩ = some (.slice A1 l1.length c1) ∧ W.cell? ⟨w.heap.size, 2, none⟩ = some (.int .i64 a2) ∧ W.cell? ⟨w.heap.size, 3, none⟩ = some (.slice A3 l3.length c3) ∧ W.heap[w.heap.size + 1]? = some (.cells #[.slice none 0 0, .slice none 0 0, .int .i64 0, .slice none 0 0] 32 (0, 0)) := by
  intro W hW; subst hcs hcs'; obtain ⟨⟨h0, h1, h2, h3⟩, _⟩ := hW.cells; exact ⟨h0, h1, h2, h3, hW.2.2⟩
 have st : GG w cs cs' ((w.alloc (.cells #[.slice A0 l0.length c0, .slice A1 l1.length c1, .int .i64 a2, .slice A3 l3.length c3] 32)).alloc (.cells #[.slice none 0 0, .slice none 0 0, .int .i64 0, .slice none 0 0] 32)) := by subst hcs hcs'; exact GG.start w _ _
 have SF : ∀ W', GG w cs cs' W' → (W'.cell? ⟨w.heap.size, 0, none⟩ = some (.slice A0 l0.length c0) ∧ W'.cell? ⟨w.heap.size, 1, none⟩ = some (.slice A1 l1.length c1) ∧ W'.cell? ⟨w.heap.size, 2, none⟩ = some (.int .i64 a2) ∧ W'.cell? ⟨w.heap.size, 3, none⟩ = some (.slice A3 l3.length c3) ∧ W'.cell? ⟨w.heap.size + 1, 0, none⟩ = some (.slice none 0 0) ∧ W'.cell? ⟨w.heap.size + 1, 1, none⟩ = some (.slice none 0 0) ∧ W'.cell? ⟨w.heap.size + 1, 2, none⟩ = some (.int .i64 0) ∧ W'.cell? ⟨w.heap.size + 1, 3, none⟩ = some (.slice none 0 0) ∧ W'.frozen? ⟨w.heap.size + 1, 0, none⟩ = false ∧ W'.frozen? ⟨w.heap.size + 1, 1, none⟩ = false ∧ W'.frozen? ⟨w.heap.size + 1, 2, none⟩ = false ∧ W'.frozen? ⟨w.heap.size + 1, 3, none⟩ = false) := by
  intro W' hW
  obtain ⟨h0, h1, h2, h3, h4⟩ := CE W' hW
  have hb : Box (w.heap.size + 1) #[.slice none 0 0, .slice none 0 0, .int .i64 0, .slice none 0 0] 32 W' := h4
  have hf : ∀ j, W'.frozen? ⟨w.heap.size + 1, j, none⟩ = false := fun j => by unfold World.frozen?; rw [show W'.heap[(⟨w.heap.size + 1, j, none⟩ : Addr).block]? = _ from h4]; rfl
  exact ⟨h0, h1, h2, h3, hb.cell 0 _ rfl, hb.cell 1 _ rfl, hb.cell 2 _ rfl, hb.cell 3 _ rfl, hf 0, hf 1, hf 2, hf 3⟩
 have k0 : ∀ W, GG w cs cs' W → Calls Tryd.prog 63 #[.slice A0 l0.length c0] W fun e W' => (∃ B d, e = .returned (.slice B l0.length d) ∧ Aside0 (Kd.R Kd.string 9 W' w.heap.size (fun k => w.heap.size + 2 ≤ k) (.slice B (l0.length + 1) d) (l0 ++ [(⟨#[109, 97, 114, 107]⟩ : ByteArray)]) ∧ GG w cs cs' W' ∧ Below W.heap.size W W')) ∧ (W'.cell? ⟨w.heap.size, 0, none⟩ = some (.slice A0 l0.length c0) ∧ W'.cell? ⟨w.heap.size, 1, none⟩ = some (.slice A1 l1.length c1) ∧ W'.cell? ⟨w.heap.size, 2, none⟩ = some (.int .i64 a2) ∧ W'.cell? ⟨w.heap.size, 3, none⟩ = some (.slice A3 l3.length c3) ∧ W'.cell? ⟨w.heap.size + 1, 0, none⟩ = some (.slice none 0 0) ∧ W'.cell? ⟨w.heap.size + 1, 1, none⟩ = some (.slice none 0 0) ∧ W'.cell? ⟨w.heap.size + 1, 2, none⟩ = some (.int .i64 0) ∧ W'.cell? ⟨w.heap.size + 1, 3, none⟩ = some (.slice none 0 0) ∧ W'.frozen? ⟨w.heap.size + 1, 0, none⟩ = false ∧ W'.frozen? ⟨w.heap.size + 1, 1, none⟩ = false ∧ W'.frozen? ⟨w.heap.size + 1, 2, none⟩ = false ∧ W'.frozen? ⟨w.heap.size + 1, 3, none⟩ = false) := by
  intro W hW
  refine (LentStrings_m A0 c0 l0 W (Kd.C_below hr0 hW.low) b0).mono ?_
  rintro e w' ⟨B, d, rfl, h⟩
  exact ⟨⟨B, d, rfl, ⟨Kd.R_lower (Kd.R_mono (Kd.R_bound h.out.1) (fun k hk => Nat.le_trans hW.two hk.2.1)) (Nat.le_trans (by omega) hW.two), hW.more h.out.2, h.out.2⟩⟩, SF _ (hW.more h.out.2)⟩
 have k1 : ∀ W, GG w cs cs' W → Calls Tryd.prog 63 #[.slice A1 l1.length c1] W fun e W' => (∃ B d, e = .returned (.slice B l1.length d) ∧ Aside0 (Kd.R Kd.string 9 W' w.heap.size (fun k => w.heap.size + 2 ≤ k) (.slice B (l1.length + 1) d) (l1 ++ [(⟨#[109, 97, 114, 107]⟩ : ByteArray)]) ∧ GG w cs cs' W' ∧ Below W.heap.size W W')) ∧ (W'.cell? ⟨w.heap.size, 0, none⟩ = some (.slice A0 l0.length c0) ∧ W'.cell? ⟨w.heap.size, 1, none⟩ = some (.slice A1 l1.length c1) ∧ W'.cell? ⟨w.heap.size, 2, none⟩ = some (.int .i64 a2) ∧ W'.cell? ⟨w.heap.size, 3, none⟩ = some (.slice A3 l3.length c3) ∧ W'.cell? ⟨w.heap.size + 1, 0, none⟩ = some (.slice none 0 0) ∧ W'.cell? ⟨w.heap.size + 1, 1, none⟩ = some (.slice none 0 0) ∧ W'.cell? ⟨w.heap.size + 1, 2, none⟩ = some (.int .i64 0) ∧ W'.cell? ⟨w.heap.size + 1, 3, none⟩ = some (.slice none 0 0) ∧ W'.frozen? ⟨w.heap.size + 1, 0, none⟩ = false ∧ W'.frozen? ⟨w.heap.size + 1, 1, none⟩ = false ∧ W'.frozen? ⟨w.heap.size + 1, 2, none⟩ = false ∧ W'.frozen? ⟨w.heap.size + 1, 3, none⟩ = false) := by
  intro W hW
  refine (LentStrings_m A1 c1 l1 W (Kd.C_below hr1 hW.low) b1).mono ?_
  rintro e w' ⟨B, d, rfl, h⟩
  exact ⟨⟨B, d, rfl, ⟨Kd.R_lower (Kd.R_mono (Kd.R_bound h.out.1) (fun k hk => Nat.le_trans hW.two hk.2.1)) (Nat.le_trans (by omega) hW.two), hW.more h.out.2, h.out.2⟩⟩, SF _ (hW.more h.out.2)⟩
 have k3 : ∀ W, GG w cs cs' W → Calls Tryd.prog 64 #[.slice A3 l3.length c3] W fun e W' => (∃ B d, e = .returned (.slice B l3.length d) ∧ Aside0 (Kd.R kRx 41 W' w.heap.size (fun k => w.heap.size + 2 ≤ k) (.slice B (l3.length + 1) d) (mk1 l3 ++ [((⟨-7171, []⟩ : S41), false)]) ∧ GG w cs cs' W' ∧ Below W.heap.size W W')) ∧ (W'.cell? ⟨w.heap.size, 0, none⟩ = some (.slice A0 l0.length c0) ∧ W'.cell? ⟨w.heap.size, 1, none⟩ = some (.slice A1 l1.length c1) ∧ W'.cell? ⟨w.heap.size, 2, none⟩ = some (.int .i64 a2) ∧ W'.cell? ⟨w.heap.size, 3, none⟩ = some (.slice A3 l3.length c3) ∧ W'.cell? ⟨w.heap.size + 1, 0, none⟩ = some (.slice none 0 0) ∧ W'.cell? ⟨w.heap.size + 1, 1, none⟩ = some (.slice none 0 0) ∧ W'.cell? ⟨w.heap.size + 1, 2, none⟩ = some (.int .i64 0) ∧ W'.cell? ⟨w.heap.size + 1, 3, none⟩ = some (.slice none 0 0) ∧ W'.frozen? ⟨w.heap.size + 1, 0, none⟩ = false ∧ W'.frozen? ⟨w.heap.size + 1, 1, none⟩ = false ∧ W'.frozen? ⟨w.heap.size + 1, 2, none⟩ = false ∧ W'.frozen? ⟨w.heap.size + 1, 3, none⟩ = false) := by
  intro W hW
  refine (LentRules_m A3 c3 l3 W (Kd.C_below hr3 hW.low) b3 bx).mono ?_
  rintro e w' ⟨B, d, rfl, h⟩
  exact ⟨⟨B, d, rfl, ⟨Kd.R_lower (Kd.R_mono (Kd.R_bound h.out.1) (fun k hk => Nat.le_trans hW.two hk.2.1)) (Nat.le_trans (by omega) hW.two), hW.more h.out.2, h.out.2⟩⟩, SF _ (hW.more h.out.2)⟩
 obtain ⟨f0, f1, f2, f3, f4, f5, f6, f7, f8, f9, f10, f11⟩ := SF _ st
 have ST := Aside0.mk st
 have HCS := Lib.hid hcs
 have HCS' := Lib.hid hcs'
 have K0 := Aside0.mk k0
 have K1 := Aside0.mk k1
 have K3 := Aside0.mk k3
 clear CE st k0 k1 k3 hr0 hr1 hr3 hcs hcs' SF bx
 go_enter Tryd.func26, Tryd.ntmps26
 go_wp2_with fail
 go_region_held3 (fun W' => W'.cell? ⟨w.heap.size, 0, none⟩ = some (.slice A0 l0.length c0) ∧ W'.cell? ⟨w.heap.size, 1, none⟩ = some (.slice A1 l1.length c1) ∧ W'.cell? ⟨w.heap.size, 2, none⟩ = some (.int .i64 a2) ∧ W'.cell? ⟨w.heap.size, 3, none⟩ = some (.slice A3 l3.length c3))
  (go_keep)
  ((first
   | (go_at_call 63; (with_reducible refine (K0.out _ ?_).mono ?_); exact (by first | exact ST.out | exact ST.out.more (Below.refl _ _).drew); rintro e w1 ⟨⟨B0, d0, rfl, t1⟩, g0, g1, g2, g3, g4, g5, g6, g7, g8, g9, g10, g11⟩)
   | (go_at_call 63; (with_reducible refine (K1.out _ t1.out.2.1).mono ?_); rintro e w2 ⟨⟨B1, d1, rfl, t2⟩, g0, g1, g2, g3, g4, g5, g6, g7, g8, g9, g10, g11⟩)
   | (go_at_call 64; (with_reducible refine (K3.out _ t2.out.2.1).mono ?_); rintro e w3 ⟨⟨B3, d3, rfl, t3⟩, g0, g1, g2, g3, g4, g5, g6, g7, g8, g9, g10, g11⟩)))
 go_wp2_with fail
 refine bodyPost_ret (v := .agg #[.slice B0 l0.length d0, .slice B1 l1.length d1, .int .i64 a2, .slice B3 l3.length d3]) (by simp [results, Tryd.results26, go_sem, g4, g5, g6, g7]) rfl ⟨B0, d0, B1, d1, B3, d3, rfl, ⟨?_, ?_⟩⟩
 · have e0 := Kd.R_reads' (Kd.R_far (Kd.R_far (Kd.R_far (Kd.R_far (Kd.R_below (Kd.R_below t1.out.1 t2.out.2.2) t3.out.2.2) (p := ⟨w.heap.size + 1, 0, none⟩) (fun k hk => by dsimp only; omega) (.slice B0 l0.length d0)) (p := ⟨w.heap.size + 1, 1, none⟩) (fun k hk => by dsimp only; omega) (.slice B1 l1.length d1)) (p := ⟨w.heap.size + 1, 2, none⟩) (fun k hk => by dsimp only; omega) (.int .i64 a2)) (p := ⟨w.heap.size + 1, 3, none⟩) (fun k hk => by dsimp only; omega) (.slice B3 l3.length d3))
   have e1 := Kd.R_reads' (Kd.R_far (Kd.R_far (Kd.R_far (Kd.R_far (Kd.R_below t2.out.1 t3.out.2.2) (p := ⟨w.heap.size + 1, 0, none⟩) (fun k hk => by dsimp only; omega) (.slice B0 l0.length d0)) (p := ⟨w.heap.size + 1, 1, none⟩) (fun k hk => by dsimp only; omega) (.slice B1 l1.length d1)) (p := ⟨w.heap.size + 1, 2, none⟩) (fun k hk => by dsimp only; omega) (.int .i64 a2)) (p := ⟨w.heap.size + 1, 3, none⟩) (fun k hk => by dsimp only; omega) (.slice B3 l3.length d3))
   have e3 := MR.of (Kd.R_far (Kd.R_far (Kd.R_far (Kd.R_far t3.out.1 (p := ⟨w.heap.size + 1, 0, none⟩) (fun k hk => by dsimp only; omega) (.slice B0 l0.length d0)) (p := ⟨w.heap.size + 1, 1, none⟩) (fun k hk => by dsimp only; omega) (.slice B1 l1.length d1)) (p := ⟨w.heap.size + 1, 2, none⟩) (fun k hk => by dsimp only; omega) (.int .i64 a2)) (p := ⟨w.heap.size + 1, 3, none⟩) (fun k hk => by dsimp only; omega) (.slice B3 l3.length d3))
   rw [← e0.1] at e0
   rw [← e1.1] at e1
   exact ⟨e0.2.1, e0.2.2, e1.2.1, e1.2.2, e3⟩
 · have hb := t3.out.2.1.low
   exact (((hb.setCell (p := ⟨w.heap.size + 1, 0, none⟩) (by dsimp only; omega) _).setCell (p := ⟨w.heap.size + 1, 1, none⟩) (by dsimp only; omega) _).setCell (p := ⟨w.heap.size + 1, 2, none⟩) (by dsimp only; omega) _).setCell (p := ⟨w.heap.size + 1, 3, none⟩) (by dsimp only; omega) _
end Go.Proofs.YtjkifeladmhkoaaDoor.B
/- Lists that own their memory, written full and gone on with: the states of both loops, one append. -/
set_option linter.unusedVariables false
set_option linter.unusedSimpArgs false
namespace Go.Proofs.YtjkifeladmhkoaaDoor.AP
open Go.RowKit Go.Proofs.YtjkifeladmhkoaaDoorW.PrintWords Go.Proofs.YtjkifeladmhkoaaDoorW.PrintLast Go.Proofs.YtjkifeladmhkoaaDoorW.PrintMore
open Go.Proofs.YtjkifeladmhkoaaDoor.B (getD_lt getD_set C_pre)

section
variable {IK : IntKind} {E base : Nat} {vs : List OneV} {W W' w wo wq : World} {A : Option Addr} {n : Nat → Nat}

def mark (p q : Nat) : Int := 1000 * (p : Int) + (q : Int)
def mark2 (p q : Nat) : Int := 500000 + 1000 * (p : Int) + (q : Int)
def S1 (IK : IntKind) (E base : Nat) (w : World) (A : Option Addr) (vs : List OneV) (n : Nat → Nat) (i k : Nat) (W : World) : Prop :=
 (∃ Xs : List (List Int), Xs.length = vs.length ∧ (∀ p, p < vs.length → (Xs.getD p []).length = n p) ∧ (∀ p q, p < vs.length → q < n p → (p < i ∨ p = i ∧ q < k) → (Xs.getD p []).getD q 0 = mark p q) ∧ Own IK E base vs Xs W) ∧ All A vs W ∧ Below base w W
theorem S1.start {Xs : List (List Int)} (h : Own IK E base vs Xs w) (hl : Xs.length = vs.length) (hA : All A vs w) : S1 IK E base w A vs (fun p => (Xs.getD p []).length) 0 0 w :=
 ⟨⟨Xs, hl, fun _ _ => rfl, fun p q _ _ hh => by omega, h⟩, hA, Below.refl _ _⟩
theorem S1.next {i k : Nat} (h : S1 IK E base w A vs n i k W) (hk : n i ≤ k) : S1 IK E base w A vs n (i + 1) 0 W := by
 obtain ⟨⟨Xs, h1, h2, h3, h4⟩, h5, h6⟩ := h
 refine ⟨⟨Xs, h1, h2, fun p q hp hq hh => h3 p q hp hq ?_, h4⟩, h5, h6⟩
 rcases hh with hh | hh
 · by_cases e : p = i
   · subst e; exact .inr ⟨rfl, by omega⟩
   · exact .inl (by omega)
 · omega
theorem S1.sl {i k : Nat} (h : S1 IK E base w A vs n i k W) (hi : i < vs.length) : ∃ A' c, vd vs i = .slice A' (n i) c := by
 obtain ⟨⟨Xs, h1, h2, h3, h4⟩, h5, h6⟩ := h
 obtain ⟨A', c, e, _⟩ := RC.reads (h4 i hi)
 exact ⟨A', c, by rw [e, h2 i hi]⟩
theorem S1.step {i k : Nat} (h : S1 IK E base w A vs n i k W) (hi : i < vs.length) (hk : k < n i) (hb : ∀ ad, A = some ad → ∀ j, j < vs.length → (vd vs j).ownBlock ≠ some ad.block) :
 ∃ g c y, vd vs i = .slice (some ⟨g, 0, none⟩) (n i) c ∧ W.cell? ⟨g, k, none⟩ = some (.int IK y) ∧ W.frozen? ⟨g, k, none⟩ = false ∧ S1 IK E base w A vs n i (k + 1) (W.setCell ⟨g, k, none⟩ (.int IK (mark i k))) := by
 obtain ⟨⟨Xs, h1, h2, h3, h4⟩, h5, h6⟩ := h
 obtain ⟨g, c, e, hbg⟩ := RC.form (h4 i hi) (by rw [h2 i hi]; omega)
 rw [h2 i hi] at e
 have hR := h4 i hi
 rw [e] at hR
 obtain ⟨hc, hf⟩ := hR.cell k hk
 refine ⟨g, c, _, e, hc, hf, ⟨Xs.set i ((Xs.getD i []).set k (mark i k)), by rw [List.length_set]; exact h1, fun p hp => ?_, fun p q hp hq hh => ?_, h4.store h1 i hi g (n i) c e k _⟩, ?_, h6.setCell hbg _⟩
 · rw [getD_set]
   by_cases hpi : i = p
   · subst hpi; rw [if_pos ⟨rfl, by omega⟩, List.length_set]; exact h2 i hi
   · rw [if_neg (fun hh => hpi hh.1)]; exact h2 p hp
 · rw [getD_set]
   by_cases hpi : i = p
   · subst hpi
     rw [if_pos ⟨rfl, by omega⟩, getD_set]
     by_cases hkq : k = q
     · subst hkq; rw [if_pos ⟨rfl, by rw [h2 i hi]; omega⟩]
     · rw [if_neg (fun hh => hkq hh.1)]
       exact h3 i q hi hq (by omega)
   · rw [if_neg (fun hh => hpi hh.1)]
     exact h3 p q hp hq (by omega)
 · refine h5.move fun ad ha _ => Below.heap_setCell _ _ _ _ ?_
   intro e2
   have := hb ad ha i hi
   rw [e] at this
   exact this (by simp [Value.ownBlock]; exact e2.symm)

theorem Rds.blk {v : Value} {X : List Int} (h : Rds IK W v X) (hm : ∀ k, k < W.heap.size → v.ownBlock = some k → W'.heap[k]? = W.heap[k]?) : Rds IK W' v X := by
 refine h.cells (fun ad n c hv q hq => ?_)
 obtain ⟨ad', c', hv', hcl⟩ := h.cell (by omega)
 have : some ad = some ad' := by rw [hv] at hv'; injection hv'
 obtain rfl := Option.some.inj this
 have hlt := World.block_lt_of_cell? W _ (hcl q hq)
 rw [add_block] at hlt
 exact World.cell?_of_block (by rw [add_block]; exact hm ad.block hlt (by rw [hv]; rfl))
structure J (IK : IntKind) (E base : Nat) (wo : World) (v : Value) (X : List Int) (T : Nat → Int) (q : Nat) (l : Value) (wq : World) : Prop where
 own : wq.ownsRow base E 1 l (X.length + q) ((X ++ (List.range q).map T).map (Value.int IK)) ∨ (q = 0 ∧ l = v ∧ (∃ g, l = .slice (some ⟨g, 0, none⟩) X.length X.length ∧ base ≤ g))
 rds : Rds IK wq v X
 form : X = [] ∨ ∃ g c, v = .slice (some ⟨g, 0, none⟩) X.length c
 blk : ∀ k, l.ownBlock = some k → some k = v.ownBlock ∨ wo.heap.size ≤ k
 old : ∀ k, k < wo.heap.size → some k ≠ v.ownBlock → wq.heap[k]? = wo.heap[k]?
 low : Below base wo wq
theorem J.start {ok : Nat → Prop} {v : Value} {X : List Int} {T : Nat → Int} (h : RC IK E wo base ok v X) : J IK E base wo v X T 0 v wo := by
 obtain ⟨A', c, hv, hc, hr⟩ := h.reads
 refine ⟨?_, ⟨A', c, hv, hc, hr⟩, ?_, fun k hk => .inl hk.symm, fun _ _ _ => rfl, Below.refl _ _⟩
 · rcases h with h | ⟨g, cur, e, _, h2, _⟩
   · have := Kd.own_of_R (enc := Value.int IK) (h1 := fun _ => rfl) h
     exact .inl (by simpa [encs] using this)
   · exact .inr ⟨rfl, rfl, g, e, h2⟩
 · cases hX : X with
   | nil => exact .inl rfl
   | cons y r =>
    obtain ⟨g, c', e, _⟩ := h.form (by rw [hX]; simp)
    rw [hX] at e
    exact .inr ⟨g, c', e⟩
theorem J.alloc {v l : Value} {X : List Int} {T : Nat → Int} {q : Nat} (h : J IK E base wo v X T q l wq) (hbase : base ≤ wo.heap.size) (o : Obj) : J IK E base wo v X T q l (wq.alloc o) := by
 have hsz := h.low.size
 refine ⟨h.own.imp (fun h => h.alloc o) id, h.rds.blk (fun k hk _ => Below.heap_alloc wq o k hk), h.form, h.blk, fun k hk hne => ?_, h.low.alloc (by omega) o⟩
 rw [Below.heap_alloc wq o k (by omega)]
 exact h.old k hk hne
theorem J.room {v : Value} {X : List Int} {T : Nat → Int} {q g cap : Nat} (h : J IK E base wo v X T q (.slice (some ⟨g, 0, none⟩) (X.length + q) cap) wq) (hbase : base ≤ wo.heap.size) (ho : W'.ownsRow base E 1 (.slice (some ⟨g, 0, none⟩) (X.length + q + 1) cap) (X.length + q + 1) ((X ++ (List.range (q + 1)).map T).map (Value.int IK))) (hg : wq.grownBy W' (some g)) :
 J IK E base wo v X T (q + 1) (.slice (some ⟨g, 0, none⟩) (X.length + q + 1) cap) W' := by
 have hsz := h.low.size
 have hgb := h.blk g rfl
 have hbg := own_base ho g rfl
 refine ⟨.inl ho, ?_, h.form, fun k hk => ?_, fun k hk hne => ?_, h.low.grown hg (by omega) (fun k hk => by injection hk with hk; omega)⟩
 · by_cases hgv : some g = v.ownBlock
   · refine h.rds.cells (fun ad n c hv j hj => ?_)
     obtain ⟨ad', c', hv', hcl⟩ := h.rds.cell (by omega)
     have e1 : some ad = some ad' := by rw [hv] at hv'; injection hv'
     obtain rfl := Option.some.inj e1
     rw [hcl j hj]
     rcases h.form with hX | ⟨gv, cv, hf⟩
     · rw [hX] at hj; simp at hj
     · have e2 : some ad = some ⟨gv, 0, none⟩ := by rw [hv] at hf; injection hf
       obtain rfl := Option.some.inj e2
       have e3 : g = gv := by rw [hv] at hgv; simpa [Value.ownBlock] using hgv
       subst e3
       have := ho.cellAt j (by omega)
       have e4 : (⟨g, 0, none⟩ : Addr).add j = ⟨g, j, none⟩ := by simp [Addr.add]; omega
       rw [e4, this, List.getElem?_map, List.getElem?_append_left hj, List.getElem?_eq_getElem hj, List.getD_eq_getElem?_getD, List.getElem?_eq_getElem hj]
       rfl
   · exact h.rds.blk (fun k hk hkv => hg.block k hk (by rw [← hkv]; exact fun e => hgv e.symm))
 · have : g = k := by simpa [Value.ownBlock] using hk
   rw [← this]; exact hgb
 · rw [hg.block k (by omega) (fun e => by
    injection e with e
    subst e
    rcases hgb with h1 | h1
    · exact hne h1
    · omega)]
   exact h.old k hk hne
theorem J.grow {v l l' : Value} {X : List Int} {T : Nat → Int} {q : Nat} (h : J IK E base wo v X T q l wq) (hbase : base ≤ wo.heap.size) (ho : W'.ownsRow wq.heap.size E 1 l' (X.length + q + 1) ((X ++ (List.range (q + 1)).map T).map (Value.int IK))) (hg : wq.grownBy W' none) :
 J IK E base wo v X T (q + 1) l' W' := by
 have hsz := h.low.size
 refine ⟨.inl (ho.mono (by omega)), h.rds.blk (fun k hk _ => hg.block k hk (by simp)), h.form, fun k hk => ?_, fun k hk hne => ?_, h.low.grown hg (by omega) (fun k hk => by cases hk)⟩
 · right
   have := own_base ho k hk
   omega
 · rw [hg.block k (by omega) (by simp)]
   exact h.old k hk hne
theorem wp_J {ops : Array Oper} {rest : List Oper} {o : Oper} {a : Act} {Q : Exit → Act → World → Prop} (hgd : o.guard = none) (s x : Operand) (t : TypeId) (hop : o.op = .call { callee := .builtin .append, args := #[s, x], argTypes := #[t, t] })
 (ht : Tryd.prog.underlying t = some (.slice E)) (i : TypeInfo) (z : Value) (hi : Tryd.prog.info? E = some i) (hi1 : i.zero = some z) (hi2 : i.size = 1) (hi3 : i.bytes = 8) (hz : z.cells.size = 1)
 {v l : Value} {X : List Int} {T : Nat → Int} {q : Nat} (h : J IK E base wo v X T q l wq) (hbase : base ≤ wo.heap.size) (hs : a.eval s = l) (hx : a.eval x = .slice (some ⟨wq.heap.size, 0, none⟩) 1 1) (hb : X.length + q + 1 ≤ 1000000000)
 (K : ∀ l' w', J IK E base wo v X T (q + 1) l' w' → wpList Tryd.prog ops Q rest (a.put o.dst l') w') : wpList Tryd.prog ops Q (o :: rest) a (wq.alloc (.cells #[.int IK (T q)] E)) := by
 have h1 := h.alloc hbase (.cells #[.int IK (T q)] E)
 have hnews : ∀ j u, [Value.int IK (T q)][j]? = some u → (wq.alloc (.cells #[.int IK (T q)] E)).cell? ((⟨wq.heap.size, 0, none⟩ : Addr).add j) = some u := by
  intro j u hj
  have : j = 0 := by have := (List.getElem?_eq_some_iff.1 hj).1; simpa using this
  subst this
  have : u = .int IK (T q) := by simpa using hj.symm
  subst this
  show (wq.alloc (.cells #[.int IK (T q)] E)).cell? ⟨wq.heap.size, 0, none⟩ = _
  go_simp
 have hlist : (X ++ (List.range q).map T).map (Value.int IK) ++ [.int IK (T q)] = (X ++ (List.range (q + 1)).map T).map (Value.int IK) := by simp [List.range_succ]
 have hlen : ((X ++ (List.range q).map T).map (Value.int IK)).length = X.length + q := by simp
 have hone : ∀ u ∈ [Value.int IK (T q)], u.oneCell' = true := fun u hu => by rw [List.mem_singleton.1 hu]; rfl
 rcases id h1.own with hown0 | ⟨rfl, hlv, g, hlg, hbg⟩
 rcases id hown0 with ⟨_, ⟨rfl, h0⟩ | ⟨g, cap, cur, rfl, _, _, hn, hcap, _⟩⟩
 · refine wpList_append_grows _ hgd s x t hop E i z 1 8 ht hi hi1 hi2 hi3 hz (by decide) none 0 0 [] hs (fun _ => ⟨rfl, rfl⟩) rfl (fun b hb => by cases hb) ⟨wq.heap.size, 0, none⟩ 1 1 [.int IK (T q)] hx rfl hnews hone (by decide) (by decide) (by decide) fun l' w' ho hg => ?_
   refine K l' w' (h1.grow hbase ?_ hg)
   have e0 : (X ++ (List.range q).map T).map (Value.int IK) = [] := List.eq_nil_of_length_eq_zero (by rw [hlen]; exact h0)
   rw [← hlist, e0, h0]
   exact ho
 · by_cases hr : X.length + q + 1 ≤ cap
   · refine wpList_append_fits _ hgd s x t hop base E i 1 ht hi hi2 g (X.length + q) cap _ hs hown0 ⟨wq.heap.size, 0, none⟩ 1 1 [.int IK (T q)] hx rfl hnews hone hr fun w' ho hg => ?_
     rw [hlist] at ho
     exact K _ w' (h1.room hbase ho hg)
   · have hown := hown0
     refine wpList_append_grows _ hgd s x t hop E i z 1 8 ht hi hi1 hi2 hi3 hz (by decide) (some ⟨g, 0, none⟩) (X.length + q) cap _ hs (fun e => by cases e) (by rw [hlen]; omega) (fun b hb j u hj => ?_) ⟨wq.heap.size, 0, none⟩ 1 1 [.int IK (T q)] hx rfl hnews hone (by omega) (by unfold maxLen; omega) (by omega) fun l' w' ho hg => ?_
     · obtain rfl := Option.some.inj hb
       have hj' := (List.getElem?_eq_some_iff.1 hj).1
       rw [hlen] at hj'
       have := hown.cellAt j (by omega)
       rw [hj] at this
       have e4 : (⟨g, 0, none⟩ : Addr).add j = ⟨g, j, none⟩ := by simp [Addr.add]; omega
       rw [e4]; exact this
     · rw [hlist] at ho
       exact K l' w' (h1.grow hbase ho hg)
 · subst hlg
   refine wpList_append_grows _ hgd s x t hop E i z 1 8 ht hi hi1 hi2 hi3 hz (by decide) (some ⟨g, 0, none⟩) X.length X.length (X.map (Value.int IK)) hs (fun e => by cases e) (by simp) (fun b hb j u hj => ?_) ⟨wq.heap.size, 0, none⟩ 1 1 [.int IK (T 0)] hx rfl hnews hone (by omega) (by unfold maxLen; omega) (by omega) fun l' w' ho hg => ?_
   · obtain rfl := Option.some.inj hb
     have hj' := (List.getElem?_eq_some_iff.1 hj).1
     rw [List.length_map] at hj'
     obtain ⟨ad', c', hv', hcl⟩ := h1.rds.cell (by omega)
     have e1 : (some ⟨g, 0, none⟩ : Option Addr) = some ad' := by
      have := congrArg (fun u : Value => match u with | .slice A _ _ => A | _ => none) (hlv.trans hv')
      exact this
     obtain rfl := Option.some.inj e1
     rw [hcl j hj']
     rw [List.getElem?_map, List.getElem?_eq_getElem hj'] at hj
     rw [← hj, List.getD_eq_getElem?_getD, List.getElem?_eq_getElem hj']; rfl
   · have e0 : X.map (Value.int IK) ++ [.int IK (T 0)] = (X ++ (List.range (0 + 1)).map T).map (Value.int IK) := by simp [List.range_succ]
     rw [e0] at ho
     exact K l' w' (h1.grow (l' := l') hbase ho hg)
end
theorem J.sl {IK : IntKind} {E base : Nat} {wo wq : World} {v l : Value} {X : List Int} {T : Nat → Int} {q : Nat} (h : J IK E base wo v X T q l wq) : ∃ A c, l = .slice A (X.length + q) c := by
 rcases h.own with ho | ⟨rfl, _, g, e, _⟩
 · rcases ho.2 with ⟨rfl, h0⟩ | ⟨g, cap, cur, rfl, _⟩
   · rw [h0]; exact ⟨_, _, rfl⟩
   · exact ⟨_, _, rfl⟩
 · exact ⟨_, _, e⟩
end Go.Proofs.YtjkifeladmhkoaaDoor.AP
/- Lists that own their memory, gone on with one by one: the state of the loop, one step. -/
set_option linter.unusedVariables false
set_option linter.unusedSimpArgs false
namespace Go.Proofs.YtjkifeladmhkoaaDoor.AP
open Go.RowKit Go.Proofs.YtjkifeladmhkoaaDoorW.PrintWords Go.Proofs.YtjkifeladmhkoaaDoorW.PrintLast Go.Proofs.YtjkifeladmhkoaaDoorW.PrintMore
open Go.Proofs.YtjkifeladmhkoaaDoor.B (getD_lt getD_set C_pre)

section
variable {IK : IntKind} {E ES base : Nat} {vs : List OneV} {Xs : List (List Int)} {W W' w wo wq : World} {A : Option Addr}

def Dis (vs : List OneV) : Prop := ∀ p j, p < vs.length → j < vs.length → j ≠ p → ∀ k, (vd vs p).ownBlock = some k → some k ≠ (vd vs j).ownBlock
theorem Own.dis (h : Own IK E base vs Xs W) : Dis vs := fun p j hp hj hne k hk => (RC.lo (h p hp) k hk).1 j hj hne
def S3 (IK : IntKind) (E ES base : Nat) (w : World) (A : Option Addr) (vs : List OneV) (Xs : List (List Int)) (i : Nat) (mv : Value) (W : World) : Prop :=
 (∃ us : List OneV, us.length = i ∧ Kd.R kV ES W base (fun _ => True) mv us ∧ (∀ p, p < i → Rds IK W (vd us p) (Xs.getD p [] ++ (List.range 30).map (mark2 p))) ∧ (∀ p, p < i → ∀ k, (vd us p).ownBlock = some k → k < W.heap.size ∧ (∀ j, i ≤ j → j < vs.length → some k ≠ (vd vs j).ownBlock) ∧ mv.ownBlock ≠ some k)) ∧
 (∀ p, i ≤ p → p < vs.length → RC IK E W base (okO vs p) (vd vs p) (Xs.getD p [])) ∧ (∀ p, p < vs.length → Rds IK W (vd vs p) (Xs.getD p [])) ∧
 (∀ p, p < vs.length → ∀ k, (vd vs p).ownBlock = some k → k < W.heap.size ∧ mv.ownBlock ≠ some k) ∧ (∀ ad, A = some ad → 0 < vs.length → ad.block < W.heap.size ∧ mv.ownBlock ≠ some ad.block) ∧ All A vs W ∧ Below base w W
theorem S3.start (h : Own IK E base vs Xs W) (hA : All A vs W) (hB : Below base w W) : S3 IK E ES base w A vs Xs 0 (.slice none 0 0) W :=
 ⟨⟨[], rfl, Kd.R_nil _ _ _ _ _, fun p hp => by omega, fun p hp => by omega⟩, fun p _ hp => h p hp, fun p hp => h.reads p hp, fun p hp k hk => ⟨(h.lo p hp k hk).2, by simp [Value.ownBlock]⟩, fun ad ha hp => ⟨hA.lt ad ha hp, by simp [Value.ownBlock]⟩, hA, hB⟩
theorem S3.goes {i : Nat} {mv : Value} (h : S3 IK E ES base w A vs Xs i mv wo) (hi : i < vs.length) : J IK E base wo (vd vs i) (Xs.getD i []) (mark2 i) 0 (vd vs i) wo := J.start (h.2.1 i (Nat.le_refl _) hi)
theorem vd_left (us : List OneV) (x : OneV) (p : Nat) (hp : p < us.length) : vd (us ++ [x]) p = vd us p := by
 unfold vd
 rw [getD_lt _ _ _ (by rw [List.length_append]; omega), getD_lt _ _ _ hp, List.getElem_append_left hp]
theorem vd_last (us : List OneV) (x : OneV) : vd (us ++ [x]) us.length = x.1 := by
 unfold vd
 rw [getD_lt _ _ _ (by rw [List.length_append]; simp), List.getElem_append_right (Nat.le_refl _)]
 simp
theorem wp_more {ops : Array Oper} {rest : List Oper} {o : Oper} {a : Act} {Q : Exit → Act → World → Prop} (hgd : o.guard = none) (s x : Operand) (t : TypeId) (hop : o.op = .call { callee := .builtin .append, args := #[s, x], argTypes := #[t, t] })
 (ht : Tryd.prog.underlying t = some (.slice ES)) (hinfo : (Tryd.prog.info? ES).map (fun i => (i.zero, i.size, i.bytes)) = some (some (.slice none 0 0), 1, 24)) (hbase : base ≤ w.heap.size) (hm : vs.length ≤ 1000000)
 (hb : ∀ ad, A = some ad → ∀ j, j < vs.length → (vd vs j).ownBlock ≠ some ad.block) (hdis : Dis vs)
 {i : Nat} {mv l : Value} (h : S3 IK E ES base w A vs Xs i mv wo) (hi : i < vs.length) (hJ : J IK E base wo (vd vs i) (Xs.getD i []) (mark2 i) 30 l wq) (hs : a.eval s = mv) (hx : a.eval x = .slice (some ⟨wq.heap.size, 0, none⟩) 1 1)
 (K : ∀ mv' w', S3 IK E ES base w A vs Xs (i + 1) mv' w' → wpList Tryd.prog ops Q rest (a.put o.dst mv') w') : wpList Tryd.prog ops Q (o :: rest) a (wq.alloc (.cells #[l] ES)) := by
 obtain ⟨⟨us, hul, hR, hU, hUb⟩, hrow, hrd, hvb, hAb, hAll, hlow⟩ := h
 have hJown := hJ.own.resolve_right (fun e => by have := e.1; omega)
 have hone : l.oneCell' = true := by
  rcases hJown.2 with ⟨rfl, _⟩ | ⟨g, cap, cur, rfl, _⟩ <;> rfl
 have hq := hJ.low.size
 have hmvlt : ∀ k, mv.ownBlock = some k → k < wo.heap.size := fun k hk => Kd.R_lt hR k hk
 have hRt : Kd.R kV ES wo base (fun k => mv.ownBlock = some k) mv us := Kd.R_of_own (Kd.own_of_R hR) (fun k hk => hk)
 have hRq : Kd.R kV ES wq base (fun _ => True) mv us := Kd.R_mono (Kd.R_step hRt (fun k hk hlt => hJ.old k hlt (fun e => (hvb i hi k e.symm).2 hk))) (fun _ _ => trivial)
 have hwb := hlow.size
 refine Kd.R_append kV (w0 := w) base hgd s x t ES (.slice none 0 0) 24 hop ht hinfo rfl (by decide) (by decide) mv us ⟨l, hone⟩ [l] (fun _ => True) (fun _ => False) hs hx rfl (fun _ hk => hk.elim) (fun _ _ => trivial) hRq (hlow.trans hJ.low) (by omega) (by omega) fun mv' w' hR' hB' hg hat => K mv' w' ?_
 have hgs := hg.size
 have tr : ∀ k, k < wo.heap.size → some k ≠ (vd vs i).ownBlock → mv.ownBlock ≠ some k → w'.heap[k]? = wo.heap[k]? := fun k h1 h2 h3 => by
  rw [hg.block k (by omega) (fun e => h3 e.symm)]
  exact hJ.old k h1 h2
 have hmv' : ∀ k, k < wq.heap.size → mv.ownBlock ≠ some k → mv'.ownBlock ≠ some k := fun k h1 h2 e => by
  rcases hat with h3 | ⟨b, h3, h4⟩
  · exact h2 (h3 ▸ e)
  · rw [h3] at e
    injection e with e
    omega
 have hlr : Rds IK wq l (Xs.getD i [] ++ (List.range 30).map (mark2 i)) := by
  have ho := hJown
  have hlen : ((Xs.getD i [] ++ (List.range 30).map (mark2 i))).length = (Xs.getD i []).length + 30 := by simp
  have : Kd.R (Kd.int IK) E wq base (fun _ => True) l (Xs.getD i [] ++ (List.range 30).map (mark2 i)) := Kd.R_of_own (enc := Value.int IK) (h1 := fun _ => rfl) (by rw [hlen]; exact ho) (fun _ _ => trivial)
  obtain ⟨A', c, hv, hc, hr⟩ := Kd.R_reads this
  exact ⟨A', c, hv, hc, hr⟩
 have hlb : ∀ k, l.ownBlock = some k → k < wq.heap.size ∧ mv.ownBlock ≠ some k ∧ ∀ j, i + 1 ≤ j → j < vs.length → some k ≠ (vd vs j).ownBlock := fun k hk => by
  refine ⟨own_lt hJown k hk, fun e => ?_, fun j hj1 hj2 e => ?_⟩
  · have := hmvlt k e
    rcases hJ.blk k hk with h1 | h1
    · exact (hvb i hi k h1.symm).2 e
    · omega
  · rcases hJ.blk k hk with h1 | h1
    · exact hdis i j hi hj2 (by omega) k h1.symm e
    · have := (hvb j hj2 k e.symm).1
      omega
 have hvr : ∀ p, p < vs.length → Rds IK w' (vd vs p) (Xs.getD p []) := fun p hp => by
  by_cases e : p = i
  · subst e
    exact hJ.rds.blk (fun k hk hkv => hg.block k hk (fun e => (hvb p hp k hkv).2 e.symm))
  · exact (hrd p hp).blk (fun k hk hkv => tr k hk (hdis p i hp hi (fun e' => e e'.symm) k hkv) (hvb p hp k hkv).2)
 refine ⟨⟨us ++ [⟨l, hone⟩], by rw [List.length_append, hul]; rfl, hR', fun p hp => ?_, fun p hp k hk => ?_⟩, fun p hp1 hp2 => ?_, hvr, fun p hp k hk => ?_, fun ad ha hp => ?_, ?_, hB'⟩
 · by_cases e : p = i
   · subst e
     rw [← hul, vd_last, hul]
     exact hlr.blk (fun k hk hkv => hg.block k hk (fun e => (hlb k hkv).2.1 e.symm))
   · rw [vd_left us _ p (by omega)]
     exact (hU p (by omega)).blk (fun k hk hkv => by
      obtain ⟨h1, h2, h3⟩ := hUb p (by omega) k hkv
      exact tr k h1 (h2 i (Nat.le_refl _) hi) h3)
 · by_cases e : p = i
   · subst e
     rw [← hul, vd_last] at hk
     obtain ⟨h1, h2, h3⟩ := hlb k hk
     exact ⟨by omega, h3, hmv' k h1 h2⟩
   · rw [vd_left us _ p (by omega)] at hk
     obtain ⟨h1, h2, h3⟩ := hUb p (by omega) k hk
     exact ⟨by omega, fun j hj1 hj2 => h2 j (by omega) hj2, hmv' k (by omega) h3⟩
 · have h0 := hrow p (by omega) hp2
   have h1 : RC IK E wo base (fun k => (vd vs p).ownBlock = some k) (vd vs p) (Xs.getD p []) := h0.weak (fun k hk => hk)
   have h2 := h1.step (W' := w') (fun k hk hlt => tr k hlt (hdis p i hp2 hi (by omega) k hk) (hvb p hp2 k hk).2)
   exact h2.weak (fun k hk => (h0.lo k hk).1)
 · obtain ⟨h1, h2⟩ := hvb p hp k hk
   exact ⟨by omega, hmv' k (by omega) h2⟩
 · obtain ⟨h1, h2⟩ := hAb ad ha hp
   exact ⟨by omega, hmv' _ (by omega) h2⟩
 · refine hAll.move fun ad ha hp => ?_
   obtain ⟨h1, h2⟩ := hAb ad ha hp
   exact tr _ h1 (fun e => hb ad ha i hi e.symm) h2
end
end Go.Proofs.YtjkifeladmhkoaaDoor.AP
/- kit.ApartSets: lists that own their memory, none sharing with another: true. -/
set_option linter.unusedVariables false
set_option linter.unusedSimpArgs false
namespace Go.Proofs.YtjkifeladmhkoaaDoor.AP
open Go.RowKit Go.Proofs.YtjkifeladmhkoaaDoorW.PrintWords Go.Proofs.YtjkifeladmhkoaaDoorW.PrintLast Go.Proofs.YtjkifeladmhkoaaDoorW.PrintMore
open Go.Proofs.YtjkifeladmhkoaaDoor.B (getD_lt getD_set C_pre)

end Go.Proofs.YtjkifeladmhkoaaDoor.AP
/- Where two grammars' boxes lie; rows of sets that calls have made, pairwise apart. -/
set_option linter.unusedVariables false
set_option linter.unusedSimpArgs false
namespace Go.Proofs.YtjkifeladmhkoaaDoor.St
open Go.RowKit Go.Proofs.YtjkifeladmhkoaaDoorW.PrintWords Go.Proofs.YtjkifeladmhkoaaDoorW.PrintLast Go.Proofs.YtjkifeladmhkoaaDoorW.PrintMore
open Go.Proofs.YtjkifeladmhkoaaDoor.B Go.Proofs.YtjkifeladmhkoaaDoor.AP Go.Proofs.YtjkifeladmhkoaaDoor.E8 Go.Proofs.YtjkifeladmhkoaaDoor.F Go.Proofs.YtjkifeladmhkoaaDoor.Es Go.Proofs.YtjkifeladmhkoaaDoor.Er

def GW (w : World) (cs : Array Value) (W : World) : Prop := Below w.heap.size w W ∧ Box w.heap.size cs 32 W
theorem GW.start (w : World) (cs : Array Value) : GW w cs (w.alloc (.cells cs 32)) := ⟨(Below.refl _ w).alloc (Nat.le_refl _) _, Box.new w _ _⟩
theorem GW.low {w : World} {cs : Array Value} {W : World} (h : GW w cs W) : Below w.heap.size w W := h.1
theorem GW.more {w : World} {cs : Array Value} {W W' : World} (h : GW w cs W) (hb : Below W.heap.size W W') : GW w cs W' := ⟨h.1.trans (hb.mono h.1.size), h.2.below hb⟩
def TN (w w1 : World) (cs bs : Array Value) (W : World) : Prop := Below w.heap.size w W ∧ Below w1.heap.size w1 W ∧ Box w.heap.size cs 32 W ∧ Box w1.heap.size bs 32 W
theorem TN.low {w w1 : World} {cs bs : Array Value} {W : World} (h : TN w w1 cs bs W) : Below w.heap.size w W := h.1
theorem TN.low1 {w w1 : World} {cs bs : Array Value} {W : World} (h : TN w w1 cs bs W) : Below w1.heap.size w1 W := h.2.1
theorem Box.in_ {b : Nat} {cs : Array Value} {t : TypeId} {W : World} (h : Box b cs t W) : b < W.heap.size := by
 have h2 : W.heap[b]? = some (.cells cs t (0, 0)) := h
 rcases Nat.lt_or_ge b W.heap.size with h1 | h1
 · exact h1
 · rw [Array.getElem?_eq_none h1] at h2; cases h2
theorem TN.base {w w1 : World} {cs bs : Array Value} {W W' : World} (h : TN w w1 cs bs W) (base : Nat) (hb : Below base W W') (h0 : w.heap.size < base) (h1 : w1.heap.size < base) (hbW : base ≤ W.heap.size) : TN w w1 cs bs W' :=
 ⟨h.1.trans (hb.mono (by omega)), h.2.1.trans (hb.mono (by omega)), (hb.block _ h0).trans h.2.2.1, (hb.block _ h1).trans h.2.2.2⟩
theorem TN.more {w w1 : World} {cs bs : Array Value} {W W' : World} (h : TN w w1 cs bs W) (hb : Below W.heap.size W W') : TN w w1 cs bs W' := h.base W.heap.size hb (Box.in_ h.2.2.1) (Box.in_ h.2.2.2) (Nat.le_refl _)
theorem TN.cells {w w1 : World} {v0 v1 v2 v3 u0 u1 u2 u3 : Value} {W : World} (h : TN w w1 #[v0, v1, v2, v3] #[u0, u1, u2, u3] W) : (W.cell? ⟨w.heap.size, 0, none⟩ = some v0 ∧ W.cell? ⟨w.heap.size, 1, none⟩ = some v1 ∧ W.cell? ⟨w.heap.size, 2, none⟩ = some v2 ∧ W.cell? ⟨w.heap.size, 3, none⟩ = some v3) ∧
 W.cell? ⟨w1.heap.size, 0, none⟩ = some u0 ∧ W.cell? ⟨w1.heap.size, 1, none⟩ = some u1 ∧ W.cell? ⟨w1.heap.size, 2, none⟩ = some u2 ∧ W.cell? ⟨w1.heap.size, 3, none⟩ = some u3 :=
 ⟨⟨h.2.2.1.cell 0 _ rfl, h.2.2.1.cell 1 _ rfl, h.2.2.1.cell 2 _ rfl, h.2.2.1.cell 3 _ rfl⟩, h.2.2.2.cell 0 _ rfl, h.2.2.2.cell 1 _ rfl, h.2.2.2.cell 2 _ rfl, h.2.2.2.cell 3 _ rfl⟩
def Pair (lo hi : Nat) (u v : OneV) (X Y : List Int) (W : World) : Prop :=
 Kd.R (Kd.int .u64) 45 W lo (fun k => (lo ≤ k ∧ k < hi) ∧ some k ≠ v.1.ownBlock) u.1 X ∧ Kd.R (Kd.int .u64) 45 W lo (fun k => (lo ≤ k ∧ k < hi) ∧ some k ≠ u.1.ownBlock) v.1 Y
theorem Pair.below {lo hi : Nat} {u v : OneV} {X Y : List Int} {W W' : World} (h : Pair lo hi u v X Y W) (hb : Below W.heap.size W W') : Pair lo hi u v X Y W' := ⟨Kd.R_below h.1 hb, Kd.R_below h.2 hb⟩
end Go.Proofs.YtjkifeladmhkoaaDoor.St
/- ends.Chain beside the document's Chain, whatever the grammar; its list stands in a block of its own. -/
set_option linter.unusedVariables false
set_option linter.unusedSimpArgs false
namespace Go.Proofs.YtjkifeladmhkoaaDoor.Cx
open Go.RowKit Go.Proofs.YtjkifeladmhkoaaDoorW.PrintWords Go.Proofs.YtjkifeladmhkoaaDoorW.PrintLast Go.Proofs.YtjkifeladmhkoaaDoorW.PrintMore
open Go.Proofs.YtjkifeladmhkoaaDoor.B Go.Proofs.YtjkifeladmhkoaaDoor.AP Go.Proofs.YtjkifeladmhkoaaDoor.E8 Go.Proofs.YtjkifeladmhkoaaDoor.F Go.Proofs.YtjkifeladmhkoaaDoor.Es Go.Proofs.YtjkifeladmhkoaaDoor.Er Go.Proofs.YtjkifeladmhkoaaDoor.St

def Mid3 (lo hi : Nat) (v : Value) (X : List Int) (W : World) : Prop := RC .i64 3 W lo (fun k => lo ≤ k ∧ k < hi) v X
theorem Mid3.below {lo hi : Nat} {v : Value} {X : List Int} {W W' : World} (h : Mid3 lo hi v X W) (hb : Below W.heap.size W W') : Mid3 lo hi v X W' := RC.below h hb
theorem Mid3.nil (lo hi : Nat) (W : World) : Mid3 lo hi (.slice none 0 0) [] W := .inl (Kd.R_nil _ _ _ _ _)
theorem chain_len {l0 l1 : List ByteArray} {a2 : Int} {R : List S41} {i tm : Int} {r : Bool} : (chainG l0 l1 a2 R i tm r).1.length ≤ 60 := by
 unfold chainG
 by_cases hp : (chkG l0 l1 a2 R).1 = 0
 · rw [if_pos hp]
   obtain ⟨q1, q2, q3, q4, q5, q6, q7⟩ := chk_ok hp
   by_cases ho : i < 0 ∨ (l1.length : Int) ≤ i ∨ tm < 0 ∨ (l0.length : Int) ≤ tm
   · rw [if_pos ho]; simp
   · rw [if_neg ho]
     by_cases hz : (farF r tm.toNat l1.length R).getD i.toNat 0 = 0
     · rw [if_pos hz]; simp
     · rw [if_neg hz]
       dsimp only
       have hF := (farF_far (r := r) (tm := tm.toNat) q7).rng i.toNat (by omega)
       have hW := (walkC_ch (farF_far (r := r) (tm := tm.toNat) q7) q7 (((farF r tm.toNat l1.length R).getD i.toNat 0).toNat - 1) i.toNat (by omega) (by omega)).2
       rw [show ((farF r tm.toNat l1.length R).getD i.toNat 0).toNat - 1 + 1 = ((farF r tm.toNat l1.length R).getD i.toNat 0).toNat from by omega] at hW
       omega
 · rw [if_neg hp]; simp
theorem Chain_x (ad : Int → Addr) (l0 l1 : List ByteArray) (a2 : Int) (l3 : List S41) (i tm : Int) (r : Bool) (A0 : Option Addr) (c0 : Nat) (A1 : Option Addr) (c1 : Nat) (A3 : Option Addr) (c3 : Nat) (w : World) (hs : SentsK ad w) (hr0 : Kd.C Kd.string w A0 l0.length l0) (hc0 : l0.length ≤ c0) (hr1 : Kd.C Kd.string w A1 l1.length l1) (hc1 : l1.length ≤ c1) (hr3 : Kd.C k41 w A3 l3.length l3) (hc3 : l3.length ≤ c3) :
 Calls Tryd.prog 15 #[.agg #[.slice A0 l0.length c0, .slice A1 l1.length c1, .int .i64 a2, .slice A3 l3.length c3], .int .i64 i, .int .i64 tm, .bool r] w fun e w' => ∃ L C E, e = .returned (.tuple #[.slice L (chainG l0 l1 a2 l3 i tm r).1.length C, E]) ∧ Aside0 (Mid3 w.heap.size w'.heap.size (.slice L (chainG l0 l1 a2 l3 i tm r).1.length C) (chainG l0 l1 a2 l3 i tm r).1 w' ∧ ErrW ad w' E (chainP l0 l1 a2 l3 i tm r) ∧ Below w.heap.size w w') := by
 have kC := fun W (hb : Below w.heap.size w W) => Check_any ad A0 c0 l0 A1 c1 l1 a2 A3 c3 l3 W (hs.below hb) (Kd.C_below hr0 hb) hc0 (Kd.C_below hr1 hb) hc1 (Kd.C_below hr3 hb) hc3
 have hlen := chain_len (l0 := l0) (l1 := l1) (a2 := a2) (R := l3) (i := i) (tm := tm) (r := r)
 unfold chainG chainP
 unfold chainG at hlen
 by_cases hp : (chkG l0 l1 a2 l3).1 = 0
 · rw [if_pos hp, if_pos hp]
   rw [if_pos hp] at hlen
   obtain ⟨q1, q2, q3, q4, q5, q6, q7⟩ := chk_ok hp
   have kC0 : ∀ W, Below w.heap.size w W → Calls Tryd.prog 52 #[.agg #[.slice A0 l0.length c0, .slice A1 l1.length c1, .int .i64 a2, .slice A3 l3.length c3]] W fun e w' => e = .returned .nilIface ∧ Below W.heap.size W w' := fun W hb => (kC W hb).mono fun e w' ⟨⟨v, he, hv⟩, hb'⟩ => ⟨by rw [he, hv.nil hp], hb'⟩
   by_cases ho : i < 0 ∨ (l1.length : Int) ≤ i ∨ tm < 0 ∨ (l0.length : Int) ≤ tm
   · rw [if_pos ho, if_pos ho]
     refine (Chain_arg _ A0 l0.length c0 A1 l1.length c1 a2 A3 l3.length c3 i tm r w (SentsK.arg hs) (by omega) (by omega) kC0 ho).mono ?_
     rintro e w' ⟨rfl, hb⟩
     exact ⟨none, 0, .iface 190 (.pointer (some (ad 1))), rfl, ⟨Mid3.nil _ _ _, ErrW.sent (by decide) (by decide), hb⟩⟩
   · rw [if_neg ho, if_neg ho]
     rw [if_neg ho] at hlen
     obtain ⟨i, rfl⟩ : ∃ n : Nat, i = n := ⟨i.toNat, by omega⟩
     obtain ⟨tm, rfl⟩ : ∃ n : Nat, tm = n := ⟨tm.toNat, by omega⟩
     rw [Int.toNat_natCast, Int.toNat_natCast] at hlen ⊢
     refine (Chain_ok _ A0 c0 l0 A1 c1 l1 a2 A3 c3 l3 r i tm w hr3 hc3 (SentsK.none_ hs) kC0 q7 (by omega) (by omega) q2 (by omega) (by omega)).mono ?_
     rintro e w' ⟨hb, ⟨hz, rfl⟩ | ⟨hz, g, n, cur, rfl, rfl, hg, hh, ht⟩⟩
     · rw [if_pos hz, if_pos hz]
       exact ⟨none, 0, .iface 190 (.pointer (some (ad 15))), rfl, ⟨Mid3.nil _ _ _, ErrW.sent (by decide) (by decide), hb⟩⟩
     · rw [if_neg hz] at hlen
       rw [if_neg hz, if_neg hz]
       dsimp only at hlen ⊢
       exact ⟨_, _, .nilIface, rfl, ⟨.inr ⟨g, cur, rfl, ⟨hg, (Array.getElem?_eq_some_iff.1 hh).1⟩, hg, hh, by omega, ht⟩, .inl ⟨rfl, rfl, rfl⟩, hb⟩⟩
 · rw [if_neg hp, if_neg hp]
   refine (Chain_bad ad (chkG l0 l1 a2 l3) hp A0 l0.length c0 A1 l1.length c1 a2 A3 l3.length c3 i tm r w (fun W hb => (kC W hb).mono fun e w' ⟨⟨v, he, hv⟩, hb'⟩ => ⟨⟨v, he, ErrW.of hv⟩, hb'⟩)).mono ?_
   rintro e w' ⟨t, u, rfl, hE, hb⟩
   exact ⟨none, 0, .iface t u, rfl, ⟨Mid3.nil _ _ _, hE, hb⟩⟩
end Go.Proofs.YtjkifeladmhkoaaDoor.Cx
/- kit.ApartInts: lists that own their memory, none sharing with another: true. -/
set_option linter.unusedVariables false
set_option linter.unusedSimpArgs false
namespace Go.Proofs.YtjkifeladmhkoaaDoor.AP
open Go.RowKit Go.Proofs.YtjkifeladmhkoaaDoorW.PrintWords Go.Proofs.YtjkifeladmhkoaaDoorW.PrintLast Go.Proofs.YtjkifeladmhkoaaDoorW.PrintMore
open Go.Proofs.YtjkifeladmhkoaaDoor.B (getD_lt getD_set C_pre)

theorem infoEI : (Tryd.prog.info? 3).map (fun i => (i.zero, i.size, i.bytes)) = some (some (.int .i64 0), 1, 8) := by kernel_rfl
theorem infoSI : (Tryd.prog.info? 24).map (fun i => (i.zero, i.size, i.bytes)) = some (some (.slice none 0 0), 1, 24) := by kernel_rfl
set_option maxHeartbeats 4000000 in
set_option maxRecDepth 100000 in
theorem ApartInts_yes (base : Nat) (vs : List OneV) (Xs : List (List Int)) (A : Option Addr) (cA : Nat) (w : World) (hm : vs.length ≤ 1000) (hcA : vs.length ≤ cA) (hA : All A vs w) (hb : ∀ ad, A = some ad → ∀ j, j < vs.length → (vd vs j).ownBlock ≠ some ad.block) (ho : Own .i64 3 base vs Xs w) (hl : Xs.length = vs.length) (hn : ∀ p, p < vs.length → (Xs.getD p []).length ≤ 1000000) (hbase : base ≤ w.heap.size) :
 Calls Tryd.prog 32 #[.slice A vs.length cA] w fun e w' => e = .returned (.bool true) ∧ Below base w w' := by
 obtain ⟨n, hnn⟩ : ∃ n : Nat → Nat, n = fun p => (Xs.getD p []).length := ⟨_, rfl⟩
 have st := S1.start ho hl hA
 rw [← hnn] at st
 have hn' : ∀ p, p < vs.length → n p ≤ 1000000 := by rw [hnn]; exact hn
 have hdis := ho.dis
 obtain ⟨i0, hi0, hz0, hs0, hb0⟩ := info_parts infoEI
 have ST := Aside0.mk st
 have HB := Aside0.mk hb
 have HN := Aside0.mk hn'
 have HD := Aside0.mk hdis
 have HI := Aside0.mk hi0
 have HZ := Aside0.mk hz0
 have HS := Aside0.mk hs0
 have HBY := Aside0.mk hb0
 have HBASE := Aside0.mk hbase
 clear st hb hn' hdis hi0 hz0 hs0 hb0 ho hl hn hnn hA hbase
 go_enter Tryd.func32, Tryd.ntmps32
 go_wp2_with fail
 go_loopw [3, 4] (fun i _ wr => ∃ p : Nat, p ≤ vs.length ∧ i = .int .i64 p ∧ Aside0 (S1 .i64 3 base w A vs n p 0 wr)) (fun i _ _ => vs.length - (intOf i).toNat)
 case atStart => exact ⟨0, Nat.zero_le _, rfl, ST⟩
 case round =>
  clear ST
  obtain ⟨p, hp, rfl, tr⟩ := hrel
  by_cases hlt : p < vs.length
  · have hnp := HN.out p hlt
    go_wp2_with fail
    go_loopw [4] (fun k wq => ∃ q : Nat, q ≤ n p ∧ k = .int .i64 q ∧ Aside0 (S1 .i64 3 base w A vs n p q wq)) (fun k _ => n p - (intOf k).toNat)
    case atStart => exact ⟨0, Nat.zero_le _, rfl, tr⟩
    case round =>
     clear tr
     obtain ⟨q, hq, rfl, tq⟩ := hrel
     obtain ⟨ad, rfl⟩ := tq.out.2.1.addr (by omega)
     have f0 := tq.out.2.1.cell ad rfl p hlt
     by_cases hlt2 : q < n p
     · obtain ⟨g, c, y, hv, hc, hf, hs⟩ := tq.out.step hlt hlt2 HB.out
       rw [hv] at f0
       unfold mark at hs
       have HSS := Aside0.mk hs
       clear hs hv
       go_wp2_with fail
       go_roundw
       case measure => simp [intOf]; omega
       case rel => exact ⟨q + 1, by omega, rfl, HSS⟩
     · obtain ⟨A', c, hv⟩ := tq.out.sl hlt
       rw [hv] at f0
       have HSS := Aside0.mk (tq.out.next (by omega))
       clear hv
       go_wp2_with fail
       go_roundw
       case measure => simp [intOf]; omega
       case rel => exact ⟨p + 1, by omega, rfl, HSS⟩
  · have hpm : p = vs.length := by omega
    subst hpm
    obtain ⟨⟨Ys, y1, y2, y3, y4⟩, y5, y6⟩ := tr.out
    have S0 := Aside0.mk (S3.start (ES := 24) y4 y5 y6)
    have Y2 := Aside0.mk y2
    have Y3 := Aside0.mk y3
    clear y1 y2 y3 y4 y5 y6 tr
    go_wp2_with fail
    go_loopw [5, 6, 7, 8] (fun mv i _ _ wr => ∃ p : Nat, p ≤ vs.length ∧ i = .int .i64 p ∧ Aside0 (S3 .i64 3 24 base w A vs Ys p mv wr)) (fun _ i _ _ _ => vs.length - (intOf i).toNat)
    case atStart => exact ⟨0, Nat.zero_le _, rfl, S0⟩
    case round =>
     clear S0
     obtain ⟨p, hp, rfl, tr⟩ := hrel
     by_cases hlt : p < vs.length
     · have hnp := HN.out p hlt
       have hyl := Y2.out p hlt
       obtain ⟨ad, rfl⟩ := tr.out.2.2.2.2.2.1.addr (by omega)
       have f0 := tr.out.2.2.2.2.2.1.cell ad rfl p hlt
       have g0 := tr.out.goes hlt
       obtain ⟨Yp, hYp⟩ : ∃ Y : List Int, Y = Ys.getD p [] := ⟨_, rfl⟩
       rw [← hYp] at hyl g0
       have G0 := Aside0.mk g0
       have HYP := Aside0.mk hYp
       have HYL := Aside0.mk (show ∀ j, j < 30 → Yp.length + j + 1 ≤ 1000000000 by omega)
       clear g0 hYp
       obtain ⟨wo, rfl⟩ : ∃ wo : World, wo = wr := ⟨_, rfl⟩
       obtain ⟨mo, rfl⟩ : ∃ mo : Value, mo = u5 := ⟨_, rfl⟩
       clear hyl
       go_wp2_with fail
       go_loopw [7, 8] (fun l k wq => ∃ q : Nat, q ≤ 30 ∧ k = .int .i64 q ∧ Aside0 (J .i64 3 base wo (vd vs p) Yp (mark2 p) q l wq)) (fun _ k _ => 30 - (intOf k).toNat)
       case atStart => exact ⟨0, by omega, rfl, G0⟩
       case round =>
        clear G0 f0
        obtain ⟨q, hq, rfl, tq⟩ := hrel
        by_cases hlt2 : q < 30
        · go_wp2_with ((with_reducible refine gate_builtin (b := .append) (xs := #[.tmp 52, .tmp 58]) rfl ?_); at_builtin; go_loud (refine wp_J (v := vd vs p) (X := Yp) (T := mark2 p) (q := q) rfl (.tmp 52) (.tmp 58) 24 rfl Tryd.underlying24 i0 (.int .i64 0) HI.out HZ.out HS.out HBY.out rfl tq.out (Nat.le_trans HBASE.out tr.out.2.2.2.2.2.2.size) rfl rfl (HYL.out q hlt2) ?_); rintro l' w' hJ'; have T2 := Aside0.mk hJ'; clear hJ')
          go_roundw
          case measure => simp [intOf]; omega
          case rel => exact ⟨q + 1, by omega, rfl, T2⟩
        · have hq30 : q = 30 := by omega
          subst hq30
          obtain ⟨Al, cl, hal⟩ := tq.out.sl
          subst hal
          have TQ := Aside0.mk (show J .i64 3 base wo (vd vs p) (Ys.getD p []) (mark2 p) 30 (.slice Al (Yp.length + 30) cl) wr by rw [← HYP.out]; exact tq.out)
          go_wp2_with ((with_reducible refine gate_builtin (b := .append) (xs := #[.tmp 60, .tmp 62]) rfl ?_); at_builtin; go_loud (refine wp_more rfl (.tmp 60) (.tmp 62) 67 rfl Tryd.underlying67 infoSI HBASE.out (by omega) HB.out HD.out tr.out hlt TQ.out rfl rfl ?_); rintro mv' w' h3; have T3 := Aside0.mk h3; clear h3)
          go_roundw
          case measure => simp [intOf]; omega
          case rel => exact ⟨p + 1, by omega, rfl, T3⟩
     · have hpm : p = vs.length := by omega
       subst hpm
       obtain ⟨⟨us, hul, hR, hU, _⟩, _, hV, _, _, hAll, hlow⟩ := tr.out
       obtain ⟨Am, cm, hmv⟩ := Kd.R_slice hR
       subst hmv
       obtain ⟨_, hcm, hCm⟩ := Kd.R_reads' hR
       rw [hul] at hcm hCm
       have hus : All Am us wr := by unfold All; rw [hul]; exact hCm
       have HUS := Aside0.mk hus
       have HU := Aside0.mk hU
       have HV := Aside0.mk hV
       have HALL := Aside0.mk hAll
       have HLOW := Aside0.mk hlow
       have HUL := Aside0.mk hul
       clear hR hU hV hAll hlow hus hCm
       rw [hul]
       clear hul tr
       go_wp2_with fail
       go_loop [9, 10, 11, 12] (fun i _ _ _ => ∃ p : Nat, p ≤ vs.length ∧ i = .int .i64 p) (fun i _ _ _ => vs.length - (intOf i).toNat)
       case atStart => exact ⟨0, Nat.zero_le _, rfl⟩
       case round =>
        obtain ⟨p, hp, rfl⟩ := hrel
        by_cases hlt : p < vs.length
        · have hnp := HN.out p hlt
          have hyl := Y2.out p hlt
          obtain ⟨ad, rfl⟩ := HALL.out.addr (by omega)
          obtain ⟨am, rfl⟩ := HUS.out.addr (by have := HUL.out; omega)
          have f0 := HALL.out.cell ad rfl p hlt
          have f1 := HUS.out.cell am rfl p (by have := HUL.out; omega)
          have hv := HV.out p hlt
          have hu := HU.out p hlt
          obtain ⟨au, cu, eu, hcu⟩ := hu.cell (by simp)
          have hul2 : (Ys.getD p [] ++ (List.range 30).map (mark2 p)).length = n p + 30 := by rw [List.length_append, hyl, List.length_map, List.length_range]
          rw [hul2] at eu hcu
          have hlenu : n p + 30 ≤ cu ∨ True := .inr trivial
          have fu : ∀ q, q < n p → wr.cell? (au.add q) = some (.int .i64 (1000 * (p : Int) + (q : Int))) := fun q hq => by
           rw [hcu q (by omega), getD_lt _ _ _ (by rw [hul2]; omega), List.getElem_append_left (by rw [hyl]; exact hq)]
           have := Y3.out p q hlt hq (.inl hlt)
           rw [getD_lt _ _ _ (by rw [hyl]; exact hq)] at this
           rw [this]; rfl
          have ft : ∀ q, q < 30 → wr.cell? (au.add (n p + q)) = some (.int .i64 (500000 + 1000 * (p : Int) + (q : Int))) := fun q hq => by
           rw [hcu (n p + q) (by omega), getD_lt _ _ _ (by rw [hul2]; omega), List.getElem_append_right (by rw [hyl]; omega)]
           rw [List.getElem_map, List.getElem_range]
           have : n p + q - (Ys.getD p []).length = q := by omega
           rw [this]; rfl
          obtain ⟨Av, cv, ev, hcv, _⟩ := hv
          rw [hyl] at ev
          have fv : ∀ q, q < n p → ∃ av, Av = some av ∧ wr.cell? (av.add q) = some (.int .i64 (1000 * (p : Int) + (q : Int))) := fun q hq => by
           obtain ⟨av, c', e', hx⟩ := (HV.out p hlt).cell (by rw [hyl]; omega)
           have e2 : Av = some av := by rw [ev] at e'; injection e'
           refine ⟨av, e2, ?_⟩
           rw [hx q (by rw [hyl]; exact hq)]
           have := Y3.out p q hlt hq (.inl hlt)
           rw [this]; rfl
          rw [ev] at f0
          rw [eu] at f1
          have FU := Aside0.mk fu
          have FT := Aside0.mk ft
          have FV := Aside0.mk fv
          clear fu ft fv hu hcu eu ev hul2 hyl hcv hlenu
          go_wp2_with fail
          go_loop [11] (fun k => ∃ q : Nat, q ≤ n p ∧ k = .int .i64 q) (fun k => n p - (intOf k).toNat)
          case atStart => exact ⟨0, Nat.zero_le _, rfl⟩
          case round =>
           obtain ⟨q, hq, rfl⟩ := hrel
           by_cases hlt2 : q < n p
           · obtain ⟨av, rfl, g1⟩ := FV.out q hlt2
             have g2 := FU.out q hlt2
             have b0 : (0 : Int) ≤ 1000 * (p : Int) + (q : Int) := by omega
             have b1 : 1000 * (p : Int) + (q : Int) ≤ 100000000 := by omega
             go_wp2_with fail
             go_round
             case measure => simp [intOf]; omega
             case rel => exact ⟨q + 1, by omega, rfl⟩
           · have hqn : q = n p := by omega
             subst hqn
             go_wp2_with fail
             go_loop [12] (fun k => ∃ q : Nat, q ≤ 30 ∧ k = .int .i64 q) (fun k => 30 - (intOf k).toNat)
             case atStart => exact ⟨0, by omega, rfl⟩
             case round =>
              obtain ⟨q, hq, rfl⟩ := hrel
              by_cases hlt3 : q < 30
              · have g1 := FT.out q hlt3
                have b0 : (0 : Int) ≤ 500000 + 1000 * (p : Int) + (q : Int) := by omega
                have b1 : 500000 + 1000 * (p : Int) + (q : Int) ≤ 100000000 := by omega
                go_wp2_with fail
                go_round
                case measure => simp [intOf]; omega
                case rel => exact ⟨q + 1, by omega, rfl⟩
              · go_wp2_with fail
                go_round
                case measure => simp [intOf]; omega
                case rel => exact ⟨p + 1, by omega, rfl⟩
        · go_wp2_with fail
          go_ret
          exact ⟨rfl, HLOW.out⟩
end Go.Proofs.YtjkifeladmhkoaaDoor.AP
/- dovetaillaw08.awake, dovetaillaw08.chain: walked. -/
set_option linter.unusedVariables false
set_option linter.unusedSimpArgs false
namespace Go.Proofs.YtjkifeladmhkoaaDoor.E8
open Go.RowKit Go.Proofs.YtjkifeladmhkoaaDoorW.PrintWords Go.Proofs.YtjkifeladmhkoaaDoorW.PrintLast Go.Proofs.YtjkifeladmhkoaaDoorW.PrintMore
open Go.Proofs.YtjkifeladmhkoaaDoor.B Go.Proofs.YtjkifeladmhkoaaDoor.Es Go.Proofs.YtjkifeladmhkoaaDoor.F

theorem lit_C (k : IntKind) (W : World) (b : Nat) (t : TypeId) (xs : List Int) (hm : xs.length ≤ 9223372036854775807) (h : W.heap[b]? = some (.cells (nums k xs).toArray t (0, 0))) : Kd.C (Kd.int k) W (some ⟨b, 0, none⟩) xs.length xs :=
 (Kq.R_reads' (Kq.R_clip k t W 0 b xs.length _ xs (Nat.le_refl _) hm (Nat.zero_le _) h (by rw [List.take_of_length_le (by simp [nums])]))).2.2
theorem given_C (r1 r2 : List ByteArray) (r3 : Int) (r4 : List S41) (w : World) (h : dovetaillaw08_given.f = some (r1, r2, r3, r4)) :
 Calls Tryd.prog 16 #[] w fun e w' => ∃ A0 c0 A1 c1 A3 c3, e = .returned (.agg #[.slice A0 r1.length c0, .slice A1 r2.length c1, .int .i64 r3, .slice A3 r4.length c3]) ∧ Kd.C Kd.string w' A0 r1.length r1 ∧ r1.length ≤ c0 ∧ Kd.C Kd.string w' A1 r2.length r2 ∧ r2.length ≤ c1 ∧ Kd.C k41 w' A3 r4.length r4 ∧ r4.length ≤ c3 ∧ Below w.heap.size w w' := by
 refine (dovetaillaw08_given.calls r1 r2 r3 r4 w h).mono ?_
 rintro e w' ⟨v0, v1, v3, rfl, h0, h1, h3, hb⟩
 obtain ⟨A0, c0, rfl⟩ := Kd.R_slice h0
 obtain ⟨A1, c1, rfl⟩ := Kd.R_slice h1
 obtain ⟨A3, c3, rfl⟩ := Kd.N_slice h3
 exact ⟨A0, c0, A1, c1, A3, c3, rfl, (Kd.R_reads' h0).2.2, (Kd.R_reads' h0).2.1, (Kd.R_reads' h1).2.2, (Kd.R_reads' h1).2.1, (Kd.N_reads' h3).2.2, (Kd.N_reads' h3).2.1, hb⟩

def dovetaillaw08_awake.ok : Bool :=
 match dovetaillaw08_given.f with
 | some (g0, g1, g2, g3) =>
  decide ((chkG g0 g1 g2 g3).1 = 0) && decide (ends_sets.f 50 g0 g1 g2 g3 0 = some [23, 22, 20]) && decide (ends_sets.f 50 g0 g1 g2 g3 1 = some [27, 26, 24]) && decide (dovetailkit_Sets.f 50 [23, 22, 20] [23, 22, 20] = some true) && decide (dovetailkit_Sets.f 50 [27, 26, 24] [27, 26, 24] = some true)
 | _ => false
theorem dovetaillaw08_awake.ok_true : dovetaillaw08_awake.ok = true := by kernel_rfl
set_option maxHeartbeats 2000000 in
set_option maxRecDepth 100000 in
theorem Awake_calls (ad : Int → Addr) (w : World) (hs : SentsK ad w) : Calls Tryd.prog 13 #[] w fun e w' => e = .returned (.bool true) ∧ Below w.heap.size w w' := by
 obtain ⟨g0, g1, g2, g3, hgv, hof, hs1, hs2⟩ : ∃ g0 g1 g2 g3, dovetaillaw08_given.f = some (g0, g1, g2, g3) ∧ ends_Of.f g0 g1 g2 g3 = some ([23, 22, 20], [27, 26, 24], none) ∧ dovetailkit_Sets.f 50 [23, 22, 20] [23, 22, 20] = some true ∧ dovetailkit_Sets.f 50 [27, 26, 24] [27, 26, 24] = some true := by
  have h := dovetaillaw08_awake.ok_true
  unfold dovetaillaw08_awake.ok at h
  split at h
  · rename_i g0 g1 g2 g3 hg
    simp only [Bool.and_eq_true, decide_eq_true_eq] at h
    refine ⟨g0, g1, g2, g3, hg, ?_, h.1.2, h.2⟩
    unfold ends_Of.f
    rw [if_pos h.1.1.1.1, endsS_is h.1.1.1.2, endsS_is h.1.1.2]
  · cases h
 have HG := Aside0.mk hgv
 have HO := Aside0.mk hof
 have H1 := Aside0.mk hs1
 have H2 := Aside0.mk hs2
 have HSK := Aside0.mk hs
 have TR : Aside0 (∀ {W W' : World}, Below w.heap.size w W → Below W.heap.size W W' → Below w.heap.size w W') := ⟨fun h1 h2 => h1.trans (h2.mono h1.size)⟩
 clear hgv hof hs1 hs2 hs
 go_enter Tryd.func13, Tryd.ntmps13
 go_wp2_with (go_at_call 16; (with_reducible refine (given_C g0 g1 g2 g3 _ HG.out).mono ?_); rintro e w1 ⟨A0, c0, A1, c1, A3, c3, rfl, r0, l0, r1, l1, r3, l3, b1⟩; have R0 := Aside0.mk r0; have R1 := Aside0.mk r1; have R3 := Aside0.mk r3; have B1 := Aside0.mk b1; clear r0 r1 r3 b1)
 refine (ends_Of.calls ad A0 c0 g0 A1 c1 g1 g2 A3 c3 g3 _ _ none w1 (HSK.out.below B1.out) R0.out l0 R1.out l1 R3.out l3 HO.out).mono ?_
 rintro e w2 ⟨v0, v1, tx, rfl, q0, q1, _, b2⟩
 obtain ⟨L, C, e0⟩ : ∃ L C, v0 = .slice L 3 C := Kq.R_slice q0
 obtain ⟨M, D, e1⟩ : ∃ M D, v1 = .slice M 3 D := Kq.R_slice q1
 subst e0 e1
 obtain ⟨_, hC, hL⟩ := Kq.R_reads' q0
 obtain ⟨_, hD, hM⟩ := Kq.R_reads' q1
 have B2 := Aside0.mk (TR.out B1.out b2)
 have QL := Aside0.mk hL
 have QM := Aside0.mk hM
 clear b2 q0 q1 hL hM R0 R1 R3 B1 l0 l1 l3
 simp only [show ∀ tx : TypeId × Value, errV tx none = .nilIface from fun _ => rfl]
 have hb3 : Below w2.heap.size w2 (w2.alloc (.cells #[.slice L 3 C, .slice M 3 D] 36)) := (Below.refl _ w2).alloc (Nat.le_refl _) _
 have hx3 := Box.new w2 #[.slice L 3 C, .slice M 3 D] 36
 have B3 := Aside0.mk hb3
 have X3 := Aside0.mk hx3
 clear hb3 hx3
 have K1 : Aside0 (∀ W, Below w2.heap.size w2 W → Box w2.heap.size #[.slice L 3 C, .slice M 3 D] 36 W → W.cell? ⟨w2.heap.size, 0, none⟩ = some (.slice L 3 C) ∧ W.cell? ⟨w2.heap.size, 1, none⟩ = some (.slice M 3 D)) := ⟨fun W _ hx => ⟨hx.cell 0 _ rfl, hx.cell 1 _ rfl⟩⟩
 have KS1 : Aside0 (∀ (W : World) (q : Nat), q = W.heap.size → Below w2.heap.size w2 W → Calls Tryd.prog 19 #[.slice L 3 C, .slice (some ⟨q, 0, none⟩) 3 3] (W.alloc (.cells #[.int .u64 23, .int .u64 22, .int .u64 20] 45)) fun e w' => e = .returned (.bool true) ∧ Below W.heap.size W w') := ⟨fun W q hq hb => by
  subst hq
  have hb' : Below W.heap.size W (W.alloc (.cells #[.int .u64 23, .int .u64 22, .int .u64 20] 45)) := (Below.refl _ W).alloc (Nat.le_refl _) _
  exact (dovetailkit_Sets.calls 50 L C [23, 22, 20] (some ⟨W.heap.size, 0, none⟩) 3 [23, 22, 20] true _ (Kd.C_below (Kd.C_below QL.out hb) hb') hC (lit_C .u64 _ _ _ [23, 22, 20] (by simp) (heap_alloc_new W _)) (by simp) H1.out).mono fun _ _ ⟨he, hd⟩ => ⟨he, hb'.trans (hd.below.mono hb'.size)⟩⟩
 have KS2 : Aside0 (∀ (W : World) (q : Nat), q = W.heap.size → Below w2.heap.size w2 W → Calls Tryd.prog 19 #[.slice M 3 D, .slice (some ⟨q, 0, none⟩) 3 3] (W.alloc (.cells #[.int .u64 27, .int .u64 26, .int .u64 24] 45)) fun e w' => e = .returned (.bool true) ∧ Below W.heap.size W w') := ⟨fun W q hq hb => by
  subst hq
  have hb' : Below W.heap.size W (W.alloc (.cells #[.int .u64 27, .int .u64 26, .int .u64 24] 45)) := (Below.refl _ W).alloc (Nat.le_refl _) _
  exact (dovetailkit_Sets.calls 50 M D [27, 26, 24] (some ⟨W.heap.size, 0, none⟩) 3 [27, 26, 24] true _ (Kd.C_below (Kd.C_below QM.out hb) hb') hD (lit_C .u64 _ _ _ [27, 26, 24] (by simp) (heap_alloc_new W _)) (by simp) H2.out).mono fun _ _ ⟨he, hd⟩ => ⟨he, hb'.trans (hd.below.mono hb'.size)⟩⟩
 obtain ⟨f0, f1⟩ := K1.out _ B3.out X3.out
 go_wp2_with (first
  | (go_at_call 19; ((with_reducible refine (KS1.out _ _ ?hq B3.out).mono ?_); (case hq => simp); clear f0 f1; rintro e w4 ⟨rfl, b4⟩; have B4 := Aside0.mk (B3.out.trans (b4.mono B3.out.size)); have X4 := Aside0.mk (X3.out.below b4); clear b4; obtain ⟨f0, f1⟩ := K1.out _ B4.out X4.out))
  | (go_at_call 19; ((with_reducible refine (KS2.out _ _ ?hq B4.out).mono ?_); (case hq => simp); clear f0 f1; rintro e w5 ⟨rfl, b5⟩; have B5 := Aside0.mk (B4.out.trans (b5.mono B4.out.size)); clear b5)))
 go_ret
 exact ⟨rfl, B2.out.trans (B5.out.mono B2.out.size)⟩
def dovetaillaw08_awake.f : Option Bool := some true
end Go.Proofs.YtjkifeladmhkoaaDoor.E8
