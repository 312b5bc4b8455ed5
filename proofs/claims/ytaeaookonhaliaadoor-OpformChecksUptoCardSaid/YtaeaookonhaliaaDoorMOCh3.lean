/-
 dovetaillaw06.OpformChecks: whatever is handed in, of bulk at most 1048576, the call answers true, and each argument reads as it did.
 Conditions: those of the given statement OpformChecksUptoCardSaid alone.
-/
import Derived.Deep.Onto
import Derived.ArgAppend
import Derived.OwnWalk
import Derived.Test.YtaeaookonhaliaaDoorMOCh2
import Derived.RangeFuncOne
import Derived.BigQuiet
import Derived.StillTailTactics
import Derived.Deep.RegionHeld3
import Derived.Test.YtaeaookonhaliaaDoorCards
import Derived.Test.YtaeaookonhaliaaDoorTie
import Derived.LaidLaws
import Derived.LaidHandle
import Derived.Lib.LaidTab
import Derived.Lib.LaidIn
import Derived.SevenTiedAt
import Derived.WideShapes
import Derived.JoinedCond
import Derived.ChangeMaps5
import Derived.SizedLaws
import Derived.Deep.DeepHandedRow
import Derived.Deep.DeepWitnessRowRef
/- Rows of cells that own their block, or were cut with their length for a capacity: read, written, gone on with. -/
set_option linter.unusedVariables false
set_option linter.unusedSimpArgs false
namespace Go.Proofs.YtaeaookonhaliaaDoor.CO
open Go.RowKit YtaeaookonhaliaaDoorW.PrintWords YtaeaookonhaliaaDoorW.PrintLast YtaeaookonhaliaaDoorW.PrintMore
section
variable {E size base : Nat} {W W' : World} {v : Value} {n : Nat} {cs : List Value}
def CutO (E size base : Nat) (W : World) (v : Value) (n : Nat) (cs : List Value) : Prop :=
 W.ownsRow base E size v n cs ∨ (cs.length = n * size ∧ ∃ g cur, v = .slice (some ⟨g, 0, none⟩) n n ∧ base ≤ g ∧ W.heap[g]? = some (.cells cur E (0, 0)) ∧ n ≤ maxLen ∧ cur.toList.take (n * size) = cs)
theorem CutO.clip {A : Option Addr} {c : Nat} (h : W.ownsRow base E size (.slice A n c) n cs) : CutO E size base W (.slice A n n) n cs := by
 rcases h with ⟨hl, ⟨e, h0⟩ | ⟨g, cap, cur, e, hb, hg, hn, hc, hs, ht⟩⟩
 · injection e with e1 e2 e3
   subst e1 h0
   exact .inl ⟨hl, .inl ⟨rfl, rfl⟩⟩
 · injection e with e1 e2 e3
   subst e1
   exact .inr ⟨hl, g, cur, rfl, hb, hg, by omega, ht⟩
theorem CutO.form (h : CutO E size base W v n cs) : (v = .slice none 0 0 ∧ n = 0) ∨ ∃ g c cur, v = .slice (some ⟨g, 0, none⟩) n c ∧ n ≤ c ∧ base ≤ g ∧ W.heap[g]? = some (.cells cur E (0, 0)) ∧ cur.toList.take (n * size) = cs := by
 rcases h with ⟨hl, ⟨e, h0⟩ | ⟨g, cap, cur, e, hb, hg, hn, hc, hs, ht⟩⟩ | ⟨hl, g, cur, e, hb, hg, hn, ht⟩
 · exact .inl ⟨e, h0⟩
 · exact .inr ⟨g, cap, cur, e, hn, hb, hg, ht⟩
 · exact .inr ⟨g, n, cur, e, Nat.le_refl _, hb, hg, ht⟩
theorem CutO.sl (h : CutO E size base W v n cs) : ∃ A c, v = .slice A n c ∧ n ≤ c := by
 rcases h.form with ⟨e, h0⟩ | ⟨g, c, cur, e, hc, _⟩
 · subst h0; exact ⟨_, _, e, Nat.le_refl _⟩
 · exact ⟨_, _, e, hc⟩
theorem CutO.lo (h : CutO E size base W v n cs) (k : Nat) (hk : v.ownBlock = some k) : base ≤ k ∧ k < W.heap.size ∧ ∃ cur, W.heap[k]? = some (.cells cur E (0, 0)) := by
 rcases h.form with ⟨e, h0⟩ | ⟨g, c, cur, e, hc, hb, hg, _⟩
 · subst e; simp [Value.ownBlock] at hk
 · subst e
   obtain rfl : g = k := by simpa [Value.ownBlock] using hk
   exact ⟨hb, (Array.getElem?_eq_some_iff.1 hg).1, cur, hg⟩
theorem CutO.cell {g m c : Nat} (h : CutO E size base W (.slice (some ⟨g, 0, none⟩) m c) n cs) (j : Nat) (hj : j < n * size) : W.cell? ⟨g, j, none⟩ = cs[j]? ∧ W.frozen? ⟨g, j, none⟩ = false := by
 rcases h.form with ⟨e, h0⟩ | ⟨g', c', cur, e, hc, hb, hg, ht⟩
 · cases e
 · injection e with e1 e2 e3
   injection e1 with e1
   injection e1 with e1
   subst e1
   refine ⟨?_, by simp [World.frozen?, hg]⟩
   rw [cell_of_row W g j cur E (0, 0) hg, ← ht, List.getElem?_take, if_pos hj]
   simp
theorem CutO.set {g m c : Nat} (h : CutO E size base W (.slice (some ⟨g, 0, none⟩) m c) n cs) (j : Nat) (u : Value) : CutO E size base (W.setCell ⟨g, j, none⟩ u) (.slice (some ⟨g, 0, none⟩) m c) n (cs.set j u) := by
 rcases h with ⟨hl, ⟨e, h0⟩ | ⟨g', cap, cur, e, hb, hg, hn, hc, hs, ht⟩⟩ | ⟨hl, g', cur, e, hb, hg, hn, ht⟩
 · cases e
 · have hgg : g = g' := by injection e with e1 e2 e3; injection e1 with e1; injection e1
   subst hgg
   refine .inl ⟨by rw [List.length_set]; exact hl, .inr ⟨g, cap, cur.setIfInBounds j u, e, hb, blk_set hg j u, hn, hc, by rw [Array.size_setIfInBounds]; exact hs, ?_⟩⟩
   rw [Array.toList_setIfInBounds, List.take_set, ht]
 · have hgg : g = g' := by injection e with e1 e2 e3; injection e1 with e1; injection e1
   subst hgg
   refine .inr ⟨by rw [List.length_set]; exact hl, g, cur.setIfInBounds j u, e, hb, blk_set hg j u, hn, ?_⟩
   rw [Array.toList_setIfInBounds, List.take_set, ht]
theorem CutO.same (h : CutO E size base W v n cs) (hm : ∀ k, v.ownBlock = some k → W'.heap[k]? = W.heap[k]?) : CutO E size base W' v n cs := by
 rcases h with ⟨hl, ⟨e, h0⟩ | ⟨g', cap, cur, e, hb, hg, hn, hc, hs, ht⟩⟩ | ⟨hl, g', cur, e, hb, hg, hn, ht⟩
 · exact .inl ⟨hl, .inl ⟨e, h0⟩⟩
 · exact .inl ⟨hl, .inr ⟨g', cap, cur, e, hb, (hm g' (by rw [e]; rfl)).trans hg, hn, hc, hs, ht⟩⟩
 · exact .inr ⟨hl, g', cur, e, hb, (hm g' (by rw [e]; rfl)).trans hg, hn, ht⟩
theorem CutO.below (h : CutO E size base W v n cs) (hb : Below W.heap.size W W') : CutO E size base W' v n cs := h.same fun k hk => hb.block k (h.lo k hk).2.1
theorem CutO.alloc (h : CutO E size base W v n cs) (o : Obj) : CutO E size base (W.alloc o) v n cs := h.below ((Below.refl _ W).alloc (Nat.le_refl _) o)
theorem CutO.lower {base' : Nat} (h : CutO E size base W v n cs) (hb : base' ≤ base) : CutO E size base' W v n cs := by
 rcases h with h | ⟨hl, g', cur, e, hg, h'⟩
 · exact .inl (h.mono hb)
 · exact .inr ⟨hl, g', cur, e, Nat.le_trans hb hg, h'⟩
theorem wp_CutO {P : Program} {ops : Array Oper} {rest : List Oper} {o : Oper} {a : Act} {Q : Exit → Act → World → Prop} (hgd : o.guard = none) (s x : Operand) (t : TypeId) (hop : o.op = .call { callee := .builtin .append, args := #[s, x], argTypes := #[t, t] })
 (ht : P.underlying t = some (.slice E)) (z : Value) (bytes : Nat) (hinfo : (P.info? E).map (fun i => (i.zero, i.size, i.bytes)) = some (some z, size, bytes)) (hz : z.cells.size = size) (hsz : 0 < size)
 (h : CutO E size base W v n cs) (hbase : base ≤ W.heap.size) (hs : a.eval s = v) (ad : Addr) (m c : Nat) (news : List Value) (hx : a.eval x = .slice (some ad) m c) (hl : news.length = m * size) (hnews : ∀ j u, news[j]? = some u → W.cell? (ad.add j) = some u) (h1 : ∀ u ∈ news, u.oneCell' = true)
 (hm : 0 < m) (h63 : n + m ≤ maxLen) (hb : (n + m) * bytes ≤ 140737488355328)
 (K : ∀ l' w', w'.ownsRow base E size l' (n + m) (cs ++ news) → W.grownBy w' v.ownBlock → (l'.ownBlock = v.ownBlock ∨ ∃ b, l'.ownBlock = some b ∧ W.heap.size ≤ b) → wpList P ops Q rest (a.put o.dst l') w') :
 wpList P ops Q (o :: rest) a W := by
 obtain ⟨i, hi, hzz⟩ := Option.map_eq_some_iff.1 hinfo
 simp only [Prod.mk.injEq] at hzz
 obtain ⟨hi1, hi2, hi3⟩ := hzz
 rcases h with h | ⟨hcl, g, cur, e, hbg, hg, hn, htk⟩
 · refine wpList_append_own_at W hgd s x t hop base E i z size bytes ht hi hi1 hi2 hi3 hz hsz v n cs hs h ad m c news hx hl hnews h1 h63 hb hbase ?_
   intro v1 w1 hown hgr _ hat
   refine K v1 w1 hown hgr ?_
   rcases hat with hat | hat
   · exact .inl hat
   · exact .inr ⟨_, hat, Nat.le_refl _⟩
 · subst e
   refine wpList_append_grows W hgd s x t hop E i z size bytes ht hi hi1 hi2 hi3 hz hsz (some ⟨g, 0, none⟩) n n cs hs (fun e => by cases e) hcl (fun b hb' j u hj => ?_) ad m c news hx hl hnews h1 (by omega) h63 hb fun l' w' ho hgr => ?_
   · obtain rfl := Option.some.inj hb'
     have hj' := (List.getElem?_eq_some_iff.1 hj).1
     have h3 : CutO E size base W (.slice (some ⟨g, 0, none⟩) n n) n cs := .inr ⟨hcl, g, cur, rfl, hbg, hg, hn, htk⟩
     rw [add_plain, (h3.cell j (by rw [← hcl]; exact hj')).1, hj]
   · refine K l' w' (ho.mono hbase) ⟨hgr.os, hgr.tape, hgr.output, hgr.size, fun k hk _ => hgr.block k hk (by simp)⟩ (.inr ?_)
     rcases ho.2 with ⟨_, h0⟩ | ⟨g', cap, cur', e, hb', _⟩
     · omega
     · exact ⟨g', by rw [e]; rfl, hb'⟩
end
end Go.Proofs.YtaeaookonhaliaaDoor.CO
/- opform.Faults: walked. -/
namespace Go.Proofs.YtaeaookonhaliaaDoor.R6
open Go.RowKit Go.Shelf YtaeaookonhaliaaDoorW.PrintWords YtaeaookonhaliaaDoorW.PrintLast YtaeaookonhaliaaDoorW.PrintMore
open B H F CO
attribute [local go_sem] Oper.semAt_some

def fltG : Nat → List S55 → List (Int × Int)
 | _, [] => []
 | i, x :: r => (fsL x.f1).map (fun a : Nat => ((i : Int), (a : Int))) ++ fltG (i + 1) r
def prC (L : List (Int × Int)) : List Value := L.flatMap fun p => [.int .i64 p.1, .int .i64 p.2]
theorem prC_len : ∀ L, (prC L).length = L.length * 2
 | [] => rfl
 | p :: L => by
  have := prC_len L
  simp only [prC, List.flatMap_cons, List.length_append, List.length_cons, List.length_nil] at this ⊢
  omega
theorem prC_snoc (L : List (Int × Int)) (p : Int × Int) : prC (L ++ [p]) = prC L ++ [.int .i64 p.1, .int .i64 p.2] := by simp [prC]
theorem prC_at : ∀ (L : List (Int × Int)) (j : Nat) (h : j < L.length), (prC L)[j * 2]? = some (.int .i64 L[j].1) ∧ (prC L)[j * 2 + 1]? = some (.int .i64 L[j].2)
 | [], j, h => by simp at h
 | p :: L, 0, h => ⟨rfl, rfl⟩
 | p :: L, j + 1, h => by
  have h' : j < L.length := by simpa using h
  have := prC_at L j h'
  have e : prC (p :: L) = [.int .i64 p.1, .int .i64 p.2] ++ prC L := rfl
  rw [e]
  refine ⟨?_, ?_⟩
  · rw [List.getElem?_append_right (by simp; omega)]
    have : (j + 1) * 2 - [Value.int .i64 p.1, .int .i64 p.2].length = j * 2 := by simp; omega
    rw [this]; simpa using (prC_at L j h').1
  · rw [List.getElem?_append_right (by simp; omega)]
    have : (j + 1) * 2 + 1 - [Value.int .i64 p.1, .int .i64 p.2].length = j * 2 + 1 := by simp; omega
    rw [this]; simpa using (prC_at L j h').2
theorem fltG_take : ∀ (R : List S55) (i k : Nat) (h : k < R.length), fltG i (R.take (k + 1)) = fltG i (R.take k) ++ (fsL R[k].f1).map (fun a : Nat => (((i + k : Nat) : Int), (a : Int)))
 | [], i, k, h => by simp at h
 | x :: R, i, 0, h => by simp [fltG]
 | x :: R, i, k + 1, h => by
  have h' : k < R.length := by simpa using h
  have := fltG_take R (i + 1) k h'
  rw [List.take_succ_cons, List.take_succ_cons, fltG, fltG, this]
  have e : i + 1 + k = i + (k + 1) := by omega
  simp [e]
theorem fsL_len (l : List Int) : (fsL l).length ≤ l.length + 1 := by
 unfold fsL fsTo
 by_cases h : l = []
 · rw [if_pos h]; simp
 · rw [if_neg h]
   have := List.length_filter_le (fun i => decide (1 ≤ i) && badAt l i) (List.range l.length)
   rw [List.length_range] at this
   omega
theorem fltG_len : ∀ (R : List S55) (i m : Nat), (∀ x ∈ R, x.f1.length ≤ m) → (fltG i R).length ≤ R.length * (m + 1)
 | [], _, _, _ => by simp [fltG]
 | x :: R, i, m, h => by
  have h1 := fltG_len R (i + 1) m (fun y hy => h y (List.mem_cons_of_mem _ hy))
  have h2 := h x List.mem_cons_self
  have h3 := fsL_len x.f1
  rw [fltG, List.length_append, List.length_map, List.length_cons, Nat.succ_mul]
  omega
theorem infoFt : (Tryd.prog.info? 43).map (fun i => (i.zero, i.size, i.bytes)) = some (some (.agg #[.int .i64 0, .int .i64 0]), 2, 16) := by kernel_rfl

structure FM (w : World) (cs : Array Value) (L : List (Int × Int)) (v : Value) (W : World) : Prop where
 low : Below w.heap.size w W
 gb : W.heap[w.heap.size]? = some (.cells cs 29 (0, 0))
 lb : W.heap[w.heap.size + 1]? = some (.cells #[v] 36 (0, 0))
 row : W.ownsRow w.heap.size 43 2 v L.length (prC L)
section
variable {w W W' : World} {cs : Array Value} {L : List (Int × Int)} {v : Value}
theorem FM.start (w : World) (cs : Array Value) : FM w cs [] (.slice none 0 0) ((w.alloc (.cells cs 29)).alloc (.cells #[.slice none 0 0] 36)) :=
 ⟨((Below.refl _ w).alloc (Nat.le_refl _) _).alloc (by simp) _, heap_alloc2_old w _ _, heap_alloc2_new w _ _, own_nil _ _ _ _⟩
theorem FM.sz (h : FM w cs L v W) : w.heap.size + 2 ≤ W.heap.size := by
 have h2 := (Array.getElem?_eq_some_iff.1 h.lb).1
 omega
theorem FM.more (h : FM w cs L v W) (hb : Below W.heap.size W W') : FM w cs L v W' := by
 have := h.sz
 exact ⟨h.low.trans (hb.mono (by omega)), (hb.block _ (by omega)).trans h.gb, (hb.block _ (by omega)).trans h.lb, pw_own_below h.row hb⟩
theorem FM.cells {v0 v1 v2 v3 : Value} (h : FM w #[v0, v1, v2, v3] L v W) : W.cell? ⟨w.heap.size, 0, none⟩ = some v0 ∧ W.cell? ⟨w.heap.size, 1, none⟩ = some v1 ∧ W.cell? ⟨w.heap.size, 2, none⟩ = some v2 ∧ W.cell? ⟨w.heap.size, 3, none⟩ = some v3 ∧ W.cell? ⟨w.heap.size + 1, 0, none⟩ = some v ∧ W.frozen? ⟨w.heap.size + 1, 0, none⟩ = false :=
 ⟨by rw [Lib.cell_of_heap h.gb]; rfl, by rw [Lib.cell_of_heap h.gb]; rfl, by rw [Lib.cell_of_heap h.gb]; rfl, by rw [Lib.cell_of_heap h.gb]; rfl, by rw [Lib.cell_of_heap h.lb]; rfl, frozen0 h.lb⟩
end
structure FI (w : World) (cs : Array Value) (L : List (Int × Int)) (v : Value) (ib k bs : Nat) (vs : Value) (Ds : List Nat) (B : Nat) (W : World) : Prop where
 fm : FM w cs L v W
 ibx : W.heap[ib]? = some (.cells #[.int .i64 (k : Int)] 3 (0, 0))
 bsx : W.heap[bs]? = some (.cells #[vs] 22 (0, 0))
 ds : ∀ D ∈ Ds, w.heap.size + 2 ≤ D ∧ D < B ∧ W.heap[D]? = some (.deferred (some []))
section
variable {w W W' : World} {cs : Array Value} {L : List (Int × Int)} {v vs : Value} {ib k bs B : Nat} {Ds : List Nat}
theorem row_cells {base E size n : Nat} {cs : List Value} (h : W.ownsRow base E size v n cs) {j : Nat} {o : Obj} (ho : W.heap[j]? = some o) (hc : o.isCells = false) : v.ownBlock ≠ some j := by
 rcases h.2 with ⟨rfl, _⟩ | ⟨g, cap, cur, rfl, _, hg, _⟩
 · simp [Value.ownBlock]
 · intro e
   obtain rfl : g = j := by simpa [Value.ownBlock] using e
   rw [hg] at ho
   cases ho
   cases hc
theorem FI.grown {row : Option Nat} (h : FI w cs L v ib k bs vs Ds B W) (hB : w.heap.size ≤ B) (hg : W.grownBy W' row) (hr : ∀ r, row = some r → B ≤ r ∧ ∃ o : Obj, W.heap[r]? = some o ∧ o.isCells = false) : FI w cs L v ib k bs vs Ds B W' := by
 refine ⟨⟨h.fm.low.grown hg h.fm.low.size (fun r e => Nat.le_trans hB (hr r e).1), grown_cells hg hr h.fm.gb, grown_cells hg hr h.fm.lb, own_other h.fm.row hg ?_⟩, grown_cells hg hr h.ibx, grown_cells hg hr h.bsx, fun D hD => ?_⟩
 · cases row with
   | none =>
    cases hv : v.ownBlock with
    | none => exact .inl rfl
    | some k => exact .inr (by simp)
   | some r =>
    obtain ⟨_, o, ho, hc⟩ := hr r rfl
    exact .inr (row_cells h.fm.row ho hc)
 · obtain ⟨d1, d2, d3⟩ := h.ds D hD
   exact ⟨d1, d2, (hg.block D (Array.getElem?_eq_some_iff.1 d3).1 (fun e => by have := (hr D e.symm).1; omega)).trans d3⟩
theorem FI.app (h : FI w cs L v ib k bs vs Ds B W) (hib : ib ≠ w.heap.size + 1) (hbs : bs ≠ w.heap.size + 1) {p : Int × Int} {v' : Value} {tmp : Obj} {w1 : World} (ho : w1.ownsRow w.heap.size 43 2 v' (L.length + 1) (prC L ++ [.int .i64 p.1, .int .i64 p.2])) (hg : (W.alloc tmp).grownBy w1 v.ownBlock) :
 FI w cs (L ++ [p]) v' ib k bs vs Ds B (w1.setCell ⟨w.heap.size + 1, 0, none⟩ v') ∧ KB w.heap.size bs W (w1.setCell ⟨w.heap.size + 1, 0, none⟩ v') ∧ KeepsOthers W (w1.setCell ⟨w.heap.size + 1, 0, none⟩ v') ∧ w1.cell? ⟨w.heap.size + 1, 0, none⟩ = some v ∧ w1.frozen? ⟨w.heap.size + 1, 0, none⟩ = false := by
 have sz := h.fm.sz
 have hv : Boxed W (w.heap.size + 1) 36 v := h.fm.lb
 have hte : 36 ≠ 43 := by decide
 obtain ⟨q1, q2, q3, q4, q5⟩ := hv.appended hte h.fm.row (by omega) (by omega) ho hg
 have keep : ∀ (b : Nat) (o : Obj), W.heap[b]? = some o → b ≠ w.heap.size + 1 → some b ≠ v.ownBlock → (w1.setCell ⟨w.heap.size + 1, 0, none⟩ v').heap[b]? = some o := fun b o hb hne hnv => by
  have hlt := (Array.getElem?_eq_some_iff.1 hb).1
  rw [Below.heap_setCell _ _ _ _ hne, hg.block b (by simp; omega) hnv, Below.heap_alloc W tmp b hlt]
  exact hb
 have hbx := keep bs _ h.bsx hbs (own_ne h.fm.row h.bsx (by decide))
 refine ⟨⟨⟨h.fm.low.trans q5, keep _ _ h.fm.gb (by simp) (own_ne h.fm.row h.fm.gb (by decide)), q2, by rw [prC_snoc, List.length_append]; exact q3⟩, keep _ _ h.ibx hib (own_ne h.fm.row h.ibx (by decide)), hbx, fun D hD => ?_⟩, ⟨q5, hbx.trans h.bsx.symm⟩, q4, q1.cell, q1.frozen⟩
 obtain ⟨d1, d2, d3⟩ := h.ds D hD
 exact ⟨d1, d2, keep D _ d3 (by omega) (row_cells h.fm.row d3 rfl).symm⟩
end
set_option maxRecDepth 100000 in
theorem clipF_calls (A : Option Addr) (n c : Nat) (w : World) (hc : n ≤ c) (hm : n ≤ 9223372036854775807) :
 Calls Tryd.prog 34 #[.slice A n c] w fun e w' => e = .returned (.slice A n n) ∧ Below w.heap.size w w' := by
 go_enter Tryd.func34, Tryd.ntmps34
 go_wp2_with fail
 go_ret
 exact ⟨rfl, Below.refl _ w⟩
set_option maxRecDepth 100000 in
set_option maxHeartbeats 4000000 in
theorem Faults_calls (A0 : Option Addr) (n0 c0 : Nat) (A1 : Option Addr) (n1 c1 : Nat) (a2 : Int) (A3 : Option Addr) (c3 : Nat) (R : List S55) (w : World) (hr3 : Kd.C k55 w A3 R.length R) (hc3 : R.length ≤ c3) (hR : R.length ≤ 1048576) (hx : ∀ x ∈ R, x.f1.length ≤ 1048576) :
 Calls Tryd.prog 14 #[.agg #[.slice A0 n0 c0, .slice A1 n1 c1, .int .i64 a2, .slice A3 R.length c3]] w fun e w' => ∃ v, e = .returned v ∧ CutO 43 2 w.heap.size w' v (fltG 0 R).length (prC (fltG 0 R)) ∧ Below w.heap.size w w' := by
 obtain ⟨cs, hcs⟩ : ∃ cs : Array Value, cs = #[.slice A0 n0 c0, .slice A1 n1 c1, .int .i64 a2, .slice A3 R.length c3] := ⟨_, rfl⟩
 have st : FM w cs [] (.slice none 0 0) ((w.alloc (.cells #[.slice A0 n0 c0, .slice A1 n1 c1, .int .i64 a2, .slice A3 R.length c3] 29)).alloc (.cells #[.slice none 0 0] 36)) := by subst hcs; exact FM.start w _
 have CE : Aside0 (∀ L v W, FM w cs L v W → W.cell? ⟨w.heap.size, 0, none⟩ = some (.slice A0 n0 c0) ∧ W.cell? ⟨w.heap.size, 1, none⟩ = some (.slice A1 n1 c1) ∧ W.cell? ⟨w.heap.size, 2, none⟩ = some (.int .i64 a2) ∧ W.cell? ⟨w.heap.size, 3, none⟩ = some (.slice A3 R.length c3) ∧ W.cell? ⟨w.heap.size + 1, 0, none⟩ = some v ∧ W.frozen? ⟨w.heap.size + 1, 0, none⟩ = false) := ⟨by
  intro L v W hW; subst hcs; exact hW.cells⟩
 have hbnd : ∀ k, k ≤ R.length → (fltG 0 (R.take k)).length ≤ 1048576 * 1048577 := fun k hk => by
  have := fltG_len (R.take k) 0 1048576 (fun x h => hx x (List.mem_of_mem_take h))
  refine Nat.le_trans this (Nat.mul_le_mul_right _ ?_)
  rw [List.length_take]; omega
 have ST := Aside0.mk st
 have HR3 := Aside0.mk hr3
 have HCS := Lib.hid hcs
 have HBND := Aside0.mk hbnd
 clear st hcs hr3 hbnd
 obtain ⟨i0, hi, hz0, hz1, hz2⟩ := info_parts infoFt
 have HI := Aside0.mk hi
 have HZ0 := Aside0.mk hz0
 have HZ1 := Aside0.mk hz1
 have HZ2 := Aside0.mk hz2
 clear hi hz0 hz1 hz2
 refine (callsIn_wide (n := 7)).1 ?_
 refine callsIn_of_wp_marks Tryd.func14 rfl trivial ?_ rfl
 simp only [Tryd.ntmps14, List.size_toArray, List.length_cons, List.length_nil, Nat.reduceAdd, Nat.reduceSub, Array.replicate_succ, Array.replicate_zero, List.push_toArray, List.append_toArray, List.nil_append, List.cons_append]
 obtain ⟨f0, f1, f2, f3, f4, f5⟩ := CE.out _ _ _ ST.out
 gi_wp2
 refine wpIn_loop (fun a' W => ∃ (k : Nat) (u4 u5 u6 u11 u12 u13 u14 u15 u16 u17 u18 u19 u20 u21 u22 u23 u24 u25 u26 u27 : Value) (Ds : List Nat), a' = { tmps := #[.agg #[.slice A0 n0 c0, .slice A1 n1 c1, .int .i64 a2, .slice A3 R.length c3], .pointer (some ⟨w.heap.size, 0, none⟩), .slice none 0 0, .pointer (some ⟨w.heap.size + 1, 0, none⟩), u4, u5, u6, .pointer (some ⟨w.heap.size, 3, none⟩), .slice A3 R.length c3, .int .i64 R.length, .int .i64 k, u11, u12, u13, u14, u15, u16, u17, u18, u19, u20, u21, u22, u23, u24, u25, u26, u27], defers := marks Ds } ∧ k ≤ R.length ∧ Aside0 (∃ v, FM w cs (fltG 0 (R.take k)) v W) ∧ Aside0 (Ds.Nodup ∧ ∀ D ∈ Ds, w.heap.size + 2 ≤ D ∧ W.heap[D]? = some (.deferred (some []))))
  (fun a' _ => R.length - (intOf (a'.tmps.getD 10 undef)).toNat) ⟨0, _, _, _, _, _, _, _, _, _, _, _, _, _, _, _, _, _, _, _, _, [], rfl, Nat.zero_le _, ⟨_, ST.out⟩, ⟨List.nodup_nil, fun D hD => absurd hD List.not_mem_nil⟩⟩ ?_
 clear ST f0 f1 f2 f3 f4 f5
 rintro a' W ⟨k, u4, u5, u6, u11, u12, u13, u14, u15, u16, u17, u18, u19, u20, u21, u22, u23, u24, u25, u26, u27, Ds, rfl, hk, ⟨v0, tr⟩, hds⟩
 by_cases hlt : k < R.length
 · have hmem := List.getElem_mem hlt
   obtain ⟨ad3, A', c', e1, y0, y1, e4, e5⟩ := at_T55 HR3.out (k : Int) (by omega) (by omega)
   have hrd : rd_T55 R (k : Int) = R[k] := by rw [rdR_D, getD_lt R k _ hlt]
   rw [Int.toNat_natCast, hrd] at y0 y1
   rw [hrd] at e4 e5
   have hx20 := hx _ hmem
   have htk := fltG_take R 0 k hlt
   have hbk := HBND.out k (by omega)
   obtain ⟨x, hxk⟩ : ∃ x, x = R[k] := ⟨_, rfl⟩
   rw [← hxk] at y0 y1 e4 e5 hx20 htk
   rw [Nat.zero_add] at htk
   have HX := Lib.hid hxk
   have HTK := Lib.hid htk
   clear hxk htk
   obtain ⟨L, hL⟩ : ∃ L, L = fltG 0 (R.take k) := ⟨_, rfl⟩
   rw [← hL] at tr hbk HTK
   have HL := Lib.hid hL
   clear hL
   subst e1
   have c0' := (tr.low.cell (World.block_lt_of_cell? w _ y0)).trans y0
   have c1' := (tr.low.cell (World.block_lt_of_cell? w _ y1)).trans y1
   obtain ⟨f0, f1, f2, f3, f4, f5⟩ := CE.out _ _ _ tr
   clear hmem hrd
   have hx2 := Aside0.mk e5
   have TR := Aside0.mk tr
   clear e5 tr
   gi_wp2_with (first
    | (refine ⟨trivial, ?_⟩; gi_at_call 32; refine (callsIn_wide.2 (faults_calls _ _ _ _)).mono ?_; rintro e w3 ⟨rfl, rfl⟩))
   obtain ⟨Wf, hWf⟩ : ∃ Wf, Wf = ((W.alloc (.cells #[.int .i64 k] 3)).alloc (.cells #[.int .i64 x.f0, .slice A' x.f1.length c'] 55)).alloc (.cells #[.slice A' x.f1.length c'] 22) := ⟨_, rfl⟩
   have szf : Wf.heap.size = W.heap.size + 3 := by rw [hWf]; simp
   have bwf : Below W.heap.size W Wf := by rw [hWf]; exact (((Below.refl _ W).alloc (Nat.le_refl _) _).alloc (by simp) _).alloc (by simp; omega) _
   have ocf := TR.out.more bwf
   have ibf : Wf.heap[W.heap.size]? = some (.cells #[.int .i64 (k : Int)] 3 (0, 0)) := by
    rw [hWf]
    exact ((Below.heap_alloc _ _ _ (by simp; omega)).trans (Below.heap_alloc _ _ _ (by simp))).trans (World.alloc_heap_new W _)
   have bsf : Wf.heap[W.heap.size + 1 + 1]? = some (.cells #[.slice A' x.f1.length c'] 22 (0, 0)) := by
    rw [hWf]
    have := World.alloc_heap_new ((W.alloc (.cells #[.int .i64 k] 3)).alloc (.cells #[.int .i64 x.f0, .slice A' x.f1.length c'] 55)) (.cells #[.slice A' x.f1.length c'] 22)
    rwa [World.size_alloc, World.size_alloc] at this
   have cif : FI w cs L v0 W.heap.size k (W.heap.size + 1 + 1) (.slice A' x.f1.length c') Ds Wf.heap.size Wf := ⟨ocf, ibf, bsf, fun D hD => by
    have h1 := (hds.out.2 D hD).2
    have h2 := (Array.getElem?_eq_some_iff.1 h1).1
    exact ⟨(hds.out.2 D hD).1, by omega, (bwf.block D h2).trans h1⟩⟩
   have hwsz := TR.out.sz
   rw [← hWf]
   clear hWf f0 f1 f2 f3 f4 f5 c0' c1' y0 y1
   refine wpIn_rangeFunc_ownG (F := Fence.wide) rfl (by omega) (gf := 43) (lb := #[.pointer (some ⟨W.heap.size + 1 + 1, 0, none⟩)]) rfl trivial (enters_of Tryd.func43 (by kernel_rfl) rfl)
    (faults_stops Fence.wide 6 trivial rfl (by omega) (W.heap.size + 1 + 1) w.heap.size A' c' x.f1 (by omega) w Wf (Nat.le_refl _) hx2.out ocf.low (by omega) bsf) KB.trans (KB.put (by omega) (by omega)) (Below.refl _ _) (fun _ => rfl)
    (fun pre W' => Aside0 (∃ v, FI w cs (L ++ pre.map (fun a : Nat => ((k : Int), (a : Int)))) v W.heap.size k (W.heap.size + 1 + 1) (.slice A' x.f1.length c') Ds Wf.heap.size W'))
    (fun _ _ _ => False)
    (fun s X Y row hs hg hr => ⟨hs.out.imp fun v h => h.grown (by omega) hg hr⟩)
    (fun c s X Y row hs hg hr => hs)
    ⟨⟨v0, by simpa using cif⟩⟩
    (fun y : Nat => { tmps := #[.agg #[.slice A0 n0 c0, .slice A1 n1 c1, .int .i64 a2, .slice (some ad3) R.length c3], .pointer (some ⟨w.heap.size, 0, none⟩), .slice none 0 0, .pointer (some ⟨w.heap.size + 1, 0, none⟩), .pointer (some ⟨W.heap.size, 0, none⟩), .pointer (some ⟨W.heap.size + 1, 0, none⟩), .int .i64 (y : Int), .pointer (some ⟨w.heap.size, 3, none⟩), .slice (some ad3) R.length c3, .int .i64 R.length, .int .i64 k, .bool true, .int .i64 k, .pointer (some (ad3.add (k * 2))), .agg #[.int .i64 x.f0, .slice A' x.f1.length c'], .pointer (some ⟨W.heap.size + 1, 1, none⟩), .slice A' x.f1.length c', .func (.func 43) #[] #[.pointer (some ⟨W.heap.size + 1 + 1, 0, none⟩)], .int .i64 (y : Int), u19, u20, u21, u22, u23, u24, u25, u26, u27], defers := [] }) ?assign ?body ?done ?stop
   case assign =>
    intro l y W' K hK
    gi_wp2
    simpa using hK
   case body =>
    rintro l pre y W' ⟨v, ci⟩ hpl
    obtain ⟨f0, f1, f2, f3, f4, f5⟩ := CE.out _ _ _ ci.fm
    have fi : W'.cell? ⟨W.heap.size, 0, none⟩ = some (.int .i64 (k : Int)) := by rw [Lib.cell_of_heap ci.ibx]; rfl
    have hrow := ci.fm.row
    have hsz' := ci.fm.sz
    have CIA := Aside0.mk ci
    have hlen : (L ++ pre.map (fun a : Nat => ((k : Int), (a : Int)))).length = L.length + pre.length := by rw [List.length_append, List.length_map]
    obtain ⟨Lp, hLp⟩ : ∃ Lp, Lp = L ++ pre.map (fun a : Nat => ((k : Int), (a : Int))) := ⟨_, rfl⟩
    rw [← hLp] at hrow CIA hlen
    have HLP := Lib.hid hLp
    have hb1 : Lp.length + 1 ≤ 2000000000000 := by omega
    clear ci hLp hlen
    gi_wp2_with (gi_at_builtin; go_loud (refine wpListIn_append_own _ rfl _ _ 36 rfl w.heap.size 43 i0 (.agg #[.int .i64 0, .int .i64 0]) 2 16 Tryd.underlying36 HI.out HZ0.out HZ1.out HZ2.out rfl (by decide) v Lp.length _ rfl (hrow.alloc _) ⟨W'.heap.size, 0, none⟩ 1 1 [.int .i64 (k : Int), .int .i64 (y : Int)] rfl rfl ?hnews (by simp [Value.oneCell']) ?b1 ?b2 (by simp; omega) ?_); (case hnews => intro j u hj; rw [add_plain, cell_of_row _ _ _ _ _ _ (World.alloc_heap_new W' _)]; simpa using hj); (case b1 => unfold maxLen; omega); (case b2 => omega); intro v' w1 hown' hgrow _; obtain ⟨q1, q2, q3, hc1, hf1⟩ := CIA.out.app (by omega) (by omega) (p := ((k : Int), (y : Int))) hown' hgrow; obtain ⟨g', cap', rfl⟩ := ownsRow_succ hown')
    refine ⟨q3.from _, q2, ⟨⟨.slice (some ⟨g', 0, none⟩) (Lp.length + 1) cap', ?_⟩⟩⟩
    have e : L ++ (pre ++ [y]).map (fun a : Nat => ((k : Int), (a : Int))) = Lp ++ [((k : Int), (y : Int))] := by rw [HLP.out, List.map_append, List.append_assoc]; rfl
    rw [e]
    exact q1
   case done =>
    rintro D ys W' hD hS ⟨v, ci⟩ hK
    subst hS
    rw [← HTK.out] at ci
    have CIA := Aside0.mk ci
    have HK := Aside0.mk hK
    clear ci hK
    gi_wp2
    refine ⟨⟨k + 1, _, _, _, _, _, _, _, _, _, _, _, _, _, _, _, _, _, _, _, _, D :: Ds, rfl, by omega, ⟨v, CIA.out.fm⟩, ⟨?_, ?_⟩⟩, by simp [intOf]; omega⟩
    · exact List.nodup_cons.2 ⟨fun h => by have := (CIA.out.ds D h).2.1; omega, hds.out.1⟩
    · intro D' hD'
      rcases List.mem_cons.1 hD' with rfl | hD'
      · exact ⟨by omega, HK.out⟩
      · exact ⟨(CIA.out.ds D' hD').1, (CIA.out.ds D' hD').2.2⟩
   case stop =>
    rintro D c pre W' hD _ h hK
    exact h.elim
 · obtain rfl : k = R.length := by omega
   rw [List.take_length] at tr
   obtain ⟨f0, f1, f2, f3, f4, f5⟩ := CE.out _ _ _ tr
   have hbk := HBND.out R.length (Nat.le_refl _)
   rw [List.take_length] at hbk
   have hsl := (CutO.sl (.inl tr.row))
   obtain ⟨A', c', rfl, hc'⟩ := hsl
   have TR := Aside0.mk tr
   obtain ⟨nF, hnF⟩ : ∃ nF, nF = (fltG 0 R).length := ⟨_, rfl⟩
   rw [← hnF] at f4 hbk hc'
   have HNF := Lib.hid hnF
   clear tr hnF
   gi_wp2_with (first
    | (refine ⟨trivial, ?_⟩; gi_at_call 34; refine (callsIn_wide.2 (clipF_calls A' nF c' _ hc' (by omega))).mono ?_; rintro e w3 ⟨rfl, b3⟩))
   have hsz := TR.out.sz
   refine leaves_marks w.heap.size Ds _ hds.out.1 (fun D' hD' => ⟨by have := (hds.out.2 D' hD').1; omega, (b3.block D' (Array.getElem?_eq_some_iff.1 (hds.out.2 D' hD').2).1).trans (hds.out.2 D' hD').2⟩) ?_
   intro w' hb hk'
   have hrow := TR.out.row
   rw [HNF.out]
   refine ⟨_, results_tmp rfl _ _ _, _, rfl, (CutO.clip hrow).same fun k hk => ?_, TR.out.low.trans ((b3.mono (by omega)).trans hb)⟩
   have hk3 : (Value.slice A' (fltG 0 R).length c').ownBlock = some k := by cases A' <;> exact hk
   have hk2 := (CutO.lo (.inl hrow) k hk3).2.1
   refine (hk' k fun hm => ?_).trans (b3.block k hk2)
   exact row_cells hrow (hds.out.2 k hm).2 rfl hk3
end Go.Proofs.YtaeaookonhaliaaDoor.R6
/- dovetaillaw06.OpformForm: the plain law, what lies while it runs, and the ways without a loop. -/
namespace Go.Proofs.YtaeaookonhaliaaDoor.R6
open Go.RowKit Go.Shelf YtaeaookonhaliaaDoorW.PrintWords YtaeaookonhaliaaDoorW.PrintLast YtaeaookonhaliaaDoorW.PrintMore
open B H F CO
theorem fltG_app : ∀ (A B : List S55) (i : Nat), fltG i (A ++ B) = fltG i A ++ fltG (i + A.length) B
 | [], B, i => by simp [fltG]
 | x :: A, B, i => by
  have := fltG_app A B (i + 1)
  rw [List.cons_append, fltG, fltG, this, List.append_assoc, List.length_cons]
  have e : i + 1 + A.length = i + (A.length + 1) := by omega
  rw [e]
theorem fltG_nil : ∀ (R : List S55) (i : Nat), (∀ x ∈ R, fsL x.f1 = []) → fltG i R = []
 | [], _, _ => rfl
 | x :: R, i, h => by
  rw [fltG, h x List.mem_cons_self, fltG_nil R (i + 1) (fun y hy => h y (List.mem_cons_of_mem _ hy))]; rfl
theorem flt_none {R : List S55} (h : badR R = none) : (∀ x ∈ R, fsL x.f1 = []) ∧ fltG 0 R = [] := by
 unfold badR at h
 rw [List.findIdx?_eq_none_iff] at h
 have h1 : ∀ x ∈ R, fsL x.f1 = [] := fun x hx => by simpa using h x hx
 exact ⟨h1, fltG_nil R 0 h1⟩
theorem flt_some {R : List S55} {k : Nat} (h : badR R = some k) : ∃ a rest, fltG 0 R = ((k : Int), a) :: rest := by
 unfold badR at h
 rw [List.findIdx?_eq_some_iff_getElem] at h
 obtain ⟨hk, h1, h2⟩ := h
 have hpre : fltG 0 (R.take k) = [] := fltG_nil _ _ (fun x hx => by
  obtain ⟨j, hj, rfl⟩ := List.mem_take_iff_getElem.1 hx
  simpa using h2 j (by omega))
 have h3 := fltG_take R 0 k hk
 rw [hpre, List.nil_append, Nat.zero_add] at h3
 have h4 := fltG_app (R.take (k + 1)) (R.drop (k + 1)) 0
 rw [List.take_append_drop, h3] at h4
 cases hf : fsL R[k].f1 with
 | nil => rw [hf] at h1; simp at h1
 | cons a zs =>
  rw [hf] at h4
  exact ⟨(a : Int), _, h4⟩
structure GB (w : World) (cs : Array Value) (W : World) : Prop where
 low : Below w.heap.size w W
 gb : Box w.heap.size cs 29 W
section
variable {w W W' : World} {cs : Array Value}
theorem GB.start (w : World) (cs : Array Value) : GB w cs (w.alloc (.cells cs 29)) := ⟨(Below.refl _ w).alloc (Nat.le_refl _) _, Box.new w _ _⟩
theorem GB.sz (h : GB w cs W) : w.heap.size + 1 ≤ W.heap.size := by
 have := (Array.getElem?_eq_some_iff.1 h.gb).1
 omega
theorem GB.more (h : GB w cs W) (hb : Below W.heap.size W W') : GB w cs W' := ⟨h.low.trans (hb.mono (by have := h.sz; omega)), h.gb.below hb⟩
theorem GB.cells {v0 v1 v2 v3 : Value} (h : GB w #[v0, v1, v2, v3] W) : W.cell? ⟨w.heap.size, 0, none⟩ = some v0 ∧ W.cell? ⟨w.heap.size, 1, none⟩ = some v1 ∧ W.cell? ⟨w.heap.size, 2, none⟩ = some v2 ∧ W.cell? ⟨w.heap.size, 3, none⟩ = some v3 :=
 ⟨h.gb.cell 0 _ rfl, h.gb.cell 1 _ rfl, h.gb.cell 2 _ rfl, h.gb.cell 3 _ rfl⟩
end
structure FS (ad : Int → Addr) (w : World) (cs : Array Value) (E F : Value) (p q : Int × Int) (v : Value) (L : List (Int × Int)) (W : World) : Prop where
 gb : GB w cs W
 ee : ErrW ad W E p
 ff : ErrW ad W F q
 fl : CutO 43 2 (w.heap.size + 1) W v L.length (prC L)
theorem FS.more {ad : Int → Addr} {w W W' : World} {cs : Array Value} {E F : Value} {p q : Int × Int} {v : Value} {L : List (Int × Int)} (h : FS ad w cs E F p q v L W) (hb : Below W.heap.size W W') : FS ad w cs E F p q v L W' := ⟨h.gb.more hb, h.ee.below hb, h.ff.below hb, h.fl.below hb⟩
structure GM (w : World) (A0 : Option Addr) (c0 : Nat) (l0 : List ByteArray) (A1 : Option Addr) (c1 : Nat) (l1 : List ByteArray) (A3 : Option Addr) (c3 : Nat) (R : List S55) : Prop where
 r0 : Kd.C Kd.string w A0 l0.length l0
 h0 : l0.length ≤ c0
 r1 : Kd.C Kd.string w A1 l1.length l1
 h1 : l1.length ≤ c1
 r3 : Kd.C k55 w A3 R.length R
 h3 : R.length ≤ c3
theorem GM.below {w w' : World} {A0 : Option Addr} {c0 : Nat} {l0 : List ByteArray} {A1 : Option Addr} {c1 : Nat} {l1 : List ByteArray} {A3 : Option Addr} {c3 : Nat} {R : List S55} (h : GM w A0 c0 l0 A1 c1 l1 A3 c3 R) (hb : Below w.heap.size w w') : GM w' A0 c0 l0 A1 c1 l1 A3 c3 R := ⟨Kd.C_below h.r0 hb, h.h0, Kd.C_below h.r1 hb, h.h1, Kd.C_below h.r3 hb, h.h3⟩
abbrev chkQ (l0 l1 : List ByteArray) (a2 : Int) (R : List S55) : Int × Int := chk (namesOK l0) (namesOK l1) l0.length l1.length a2 R
section
variable {ad : Int → Addr} {A0 : Option Addr} {c0 : Nat} {l0 : List ByteArray} {A1 : Option Addr} {c1 : Nat} {l1 : List ByteArray} {a2 : Int} {A3 : Option Addr} {c3 : Nat} {R : List S55} {w : World} {cs : Array Value}
end
end Go.Proofs.YtaeaookonhaliaaDoor.R6
/- The document's Check, in plain Lean: what gram.Check tells. -/
namespace Go.Proofs.YtaeaookonhaliaaDoor.B
open Go.RowKit YtaeaookonhaliaaDoorW.PrintWords YtaeaookonhaliaaDoorW.PrintLast YtaeaookonhaliaaDoorW.PrintMore

theorem refNamed_in (l : List ByteArray) (hm : l.length ≤ 9223372036854775807) (i : Nat) (hi : i < l.length) (r : Bool) (B : Nat) (hB : ∀ k, B ≤ k → dovetailref03_named.l0 k l ((i + 1 : Nat) : Int) = some r) :
 ∀ (d j k : Nat), i - j = d → j ≤ i → d + B + 1 ≤ k → dovetailref03_named.l1 k l (i : Int) (j : Int) = some (!((l.take i).drop j).any (fun x => decide (l.getD i ByteArray.empty = x)) && r) := by
 intro d
 induction d with
 | zero =>
  intro j k hd hj hk
  obtain ⟨k, rfl⟩ : ∃ m, k = m + 1 := ⟨k - 1, by omega⟩
  have : j = i := by omega
  subst this
  rw [dovetailref03_named.l1, if_neg (by omega), w64 j (by omega), hB k (by omega), List.drop_of_length_le (by rw [List.length_take]; omega)]
  simp
 | succ d ih =>
  intro j k hd hj hk
  obtain ⟨k, rfl⟩ : ∃ m, k = m + 1 := ⟨k - 1, by omega⟩
  have hlt : j < i := by omega
  have hdr : (l.take i).drop j = l[j] :: (l.take i).drop (j + 1) := by
   rw [List.drop_eq_getElem_cons (by rw [List.length_take]; omega), List.getElem_take]
  rw [dovetailref03_named.l1, if_pos (by omega), if_pos (by omega), if_pos (by omega), if_pos (by omega), if_pos (by omega), rdS_D, rdS_D, getD_lt l j _ (by omega), hdr, List.any_cons]
  by_cases c : l[j] = l.getD i ByteArray.empty
  · rw [if_pos ((toL_eq _ _).2 c), decide_eq_true c.symm]; rfl
  · rw [if_neg (fun h => c ((toL_eq _ _).1 h)), w64 j (by omega), ih (j + 1) k (by omega) (by omega) (by omega), decide_eq_false (fun h => c h.symm)]; rfl
theorem refNamed_l (l : List ByteArray) (hm : l.length ≤ 9223372036854775807) : ∀ (d i k : Nat), l.length - i = d → i ≤ l.length → d * (l.length + 3) + 1 ≤ k → dovetailref03_named.l0 k l (i : Int) = some (namesFrom l i) := by
 intro d
 induction d with
 | zero =>
  intro i k hi hle hk
  obtain ⟨k, rfl⟩ : ∃ j, k = j + 1 := ⟨k - 1, by omega⟩
  have : i = l.length := by omega
  subst this
  rw [dovetailref03_named.l0, if_neg (by omega), namesFrom_end]
 | succ d ih =>
  intro i k hi hle hk
  rw [Nat.add_mul, Nat.one_mul] at hk
  obtain ⟨k, rfl⟩ : ∃ j, k = j + 2 := ⟨k - 2, by omega⟩
  have hlt : i < l.length := by omega
  have hin := refNamed_in l hm i hlt _ _ (fun k hk => ih (i + 1) k (by omega) (by omega) hk) i 0 k (by omega) (by omega) (by omega)
  rw [dovetailref03_named.l0, if_pos (by omega), if_pos (by omega), rdS_D, namesFrom_step l i hlt]
  rw [List.drop_zero] at hin
  unfold faultAt
  generalize hs : l.getD i ByteArray.empty = s at hin
  by_cases c1 : s.size = 0
  · rw [if_pos (by omega), dovetailref03_named.j1, if_pos rfl]; simp [c1]
  · rw [if_neg (by omega), dovetailref03_named.j1]
    by_cases c2 : 32 < s.size
    · rw [if_pos (decide_eq_true (by omega))]; simp [c2]
    · have hin' : dovetailref03_named.l1 k l (i : Int) 0 = _ := hin
      rw [if_neg (by simp; omega), hin', decide_eq_false c1, decide_eq_false c2]
      simp
theorem refNamed_f (l : List ByteArray) (k : Nat) (hm : l.length ≤ 9223372036854775807) (hk : l.length * (l.length + 3) + 1 ≤ k) : dovetailref03_named.f k l = some (namesOK l) := by
 unfold dovetailref03_named.f
 have := refNamed_l l hm l.length 0 k (by omega) (by omega) hk
 rw [namesFrom_zero] at this
 exact this
theorem refCheck_in (t n : Nat) (hn : n ≤ 60) (l0 l1 : List ByteArray) (a2 : Int) (R : List S55) (i : Nat) (hi : i < 200) (x0 : Int) (xs : List Int) (hx : xs.length ≤ 32) (r : Int × Int) (B : Nat) (hB : ∀ k, B ≤ k → dovetailref03_Check.l0 k (t : Int) (n : Int) ((i + 1 : Nat) : Int) l0 l1 a2 R = some r) :
 ∀ (d j k : Nat), xs.length - j = d → j ≤ xs.length → d + B + 1 ≤ k → dovetailref03_Check.l1 k (t : Int) (n : Int) (i : Int) (j : Int) l0 l1 a2 R x0 xs = some (if (xs.drop j).any (outS t n) = true then (1, (i : Int)) else r) := by
 intro d
 induction d with
 | zero =>
  intro j k hd hj hk
  obtain ⟨k, rfl⟩ : ∃ m, k = m + 1 := ⟨k - 1, by omega⟩
  have : j = xs.length := by omega
  subst this
  rw [dovetailref03_Check.l1, if_neg (by omega), w64 i (by omega), hB k (by omega), List.drop_length]
  rfl
 | succ d ih =>
  intro j k hd hj hk
  obtain ⟨k, rfl⟩ : ∃ m, k = m + 1 := ⟨k - 1, by omega⟩
  have hlt : j < xs.length := by omega
  have hwn : wrap64 (-(n : Int)) = -(n : Int) := by unfold wrap64; omega
  rw [dovetailref03_Check.l1, if_pos (by omega), if_pos (by omega), rd_D, getD_lt xs j _ hlt, hwn, List.drop_eq_getElem_cons hlt, List.any_cons]
  generalize xs[j] = s
  have ho : outS t n s = (decide ((t : Int) ≤ s) || decide (s < -(n : Int))) := rfl
  rw [ho]
  by_cases c1 : (t : Int) ≤ s
  · rw [if_pos (by omega), decide_eq_true c1]; rfl
  · by_cases c2 : s < -(n : Int)
    · rw [if_neg (by omega), if_pos c2, decide_eq_true c2, Bool.or_true]; rfl
    · rw [if_neg (by omega), if_neg c2, w64 j (by omega), ih (j + 1) k (by omega) (by omega) (by omega), decide_eq_false c1, decide_eq_false c2]; rfl
theorem refCheck_l (t n : Nat) (hn : n ≤ 60) (l0 l1 : List ByteArray) (a2 : Int) (R : List S55) (hR : R.length ≤ 120) : ∀ (d i k : Nat), R.length - i = d → i ≤ R.length → d * 40 + 1 ≤ k → dovetailref03_Check.l0 k (t : Int) (n : Int) (i : Int) l0 l1 a2 R = some (chkRs t n (R.drop i) i) := by
 intro d
 induction d with
 | zero =>
  intro i k hi hle hk
  obtain ⟨k, rfl⟩ : ∃ j, k = j + 1 := ⟨k - 1, by omega⟩
  have : i = R.length := by omega
  subst this
  rw [dovetailref03_Check.l0, if_neg (by omega), List.drop_length]
  rfl
 | succ d ih =>
  intro i k hi hle hk
  obtain ⟨k, rfl⟩ : ∃ j, k = j + 2 := ⟨k - 2, by omega⟩
  have hlt : i < R.length := by omega
  rw [dovetailref03_Check.l0, if_pos (by omega), if_pos (by omega), rdR_D, getD_lt R i _ hlt, chkRs_drop t n R i hlt]
  generalize R[i] = x
  obtain ⟨x0, xs⟩ := x
  dsimp only
  by_cases c0 : 32 < xs.length
  · have e : checkR t n ⟨x0, xs⟩ = 3 := by simp [checkR, c0]
    rw [if_pos (by omega), e, if_neg (by decide)]
  rw [if_neg (by omega)]
  by_cases c1 : x0 < 0
  · have e : checkR t n ⟨x0, xs⟩ = 1 := by simp [checkR, c0, c1]
    rw [if_pos c1, dovetailref03_Check.j4, if_pos rfl, e, if_neg (by decide)]
  rw [if_neg c1, dovetailref03_Check.j4]
  by_cases c2 : (n : Int) ≤ x0
  · have e : checkR t n ⟨x0, xs⟩ = 1 := by simp [checkR, c0, c2]
    rw [if_pos (decide_eq_true (by omega)), e, if_neg (by decide)]
  have hin : dovetailref03_Check.l1 k (t : Int) (n : Int) (i : Int) 0 l0 l1 a2 R x0 xs = _ := refCheck_in t n hn l0 l1 a2 R i (by omega) x0 xs (by omega) _ _ (fun k hk => ih (i + 1) k (by omega) (by omega) hk) xs.length 0 k (by omega) (by omega) (by omega)
  rw [if_neg (by simp; omega), hin, List.drop_zero]
  cases c3 : xs.any (outS t n) with
  | true =>
   have e : checkR t n ⟨x0, xs⟩ = 1 := by simp [checkR, c0, c3]
   rw [if_pos rfl, e, if_neg (by decide)]
  | false =>
   have e : checkR t n ⟨x0, xs⟩ = 0 := by simp [checkR, c0, c1, c2, c3]
   rw [if_neg (by decide), e, if_pos rfl]
theorem refCheck_f (l0 l1 : List ByteArray) (a2 : Int) (R : List S55) (m0 : l0.length ≤ 9223372036854775807) (m1 : l1.length ≤ 9223372036854775807) (k : Nat) (hk : 20000 ≤ k) :
 dovetailref03_Check.f k l0 l1 a2 R = some (chk (namesOK l0) (namesOK l1) l0.length l1.length a2 R) := by
 obtain ⟨k, rfl⟩ : ∃ j, k = j + 4 := ⟨k - 4, by omega⟩
 have hno : ∀ x, dovetailref03_Check.j0 (k + 4) (l0.length : Int) (l1.length : Int) true x l1 a2 R = some (3, -1) := fun x => by rw [dovetailref03_Check.j0, if_pos rfl]
 unfold dovetailref03_Check.f chk
 by_cases c0 : 60 < l0.length
 · rw [if_pos (by omega), hno, if_pos (by omega)]
 rw [if_neg (by omega)]
 by_cases c1 : 60 < l1.length
 · rw [if_pos (by omega), hno, if_pos (by omega)]
 rw [if_neg (by omega)]
 have hw : wrap64 ((l0.length : Int) + (l1.length : Int)) = (l0.length : Int) + (l1.length : Int) := by unfold wrap64; omega
 rw [hw]
 by_cases c2 : 60 < l0.length + l1.length
 · rw [if_pos (by omega), hno, if_pos (by omega)]
 rw [if_neg (by omega), dovetailref03_Check.j0]
 by_cases c3 : 120 < R.length
 · rw [if_pos (decide_eq_true (by omega)), if_pos (by omega)]
 rw [if_neg (by simp; omega), if_neg (by omega)]
 have hb : ∀ n : Nat, n ≤ 60 → n * (n + 3) + 1 ≤ 4000 := fun n hn => by
  have := Nat.mul_le_mul hn (show n + 3 ≤ 63 by omega)
  omega
 have hb0 := hb l0.length (by omega)
 have hb1 := hb l1.length (by omega)
 rw [refNamed_f l0 (k + 3) m0 (by omega), Option.bind_some]
 cases h0 : namesOK l0 with
 | false => rw [if_neg (by decide), dovetailref03_Check.j1, if_pos rfl]; rfl
 | true =>
  rw [if_pos rfl, refNamed_f l1 (k + 3) m1 (by omega), Option.bind_some, dovetailref03_Check.j1]
  cases h1 : namesOK l1 with
  | false => rw [if_pos (by rfl)]; rfl
  | true =>
   rw [if_neg (show ¬ (!true) = true by decide), if_neg (show ¬ (true && true) = false by decide)]
   have hl : dovetailref03_Check.l0 (k + 1) (l0.length : Int) (l1.length : Int) 0 l0 l1 a2 R = _ := refCheck_l l0.length l1.length (by omega) l0 l1 a2 R (by omega) R.length 0 (k + 1) (by omega) (by omega) (by omega)
   rw [List.drop_zero] at hl
   by_cases c4 : l1.length = 0
   · rw [if_pos (by omega), dovetailref03_Check.j2, if_pos rfl, if_pos (by omega)]
   rw [if_neg (by omega)]
   by_cases c5 : a2 < 0
   · rw [if_pos c5, dovetailref03_Check.j2, if_pos rfl, if_pos (.inl c5)]
   rw [if_neg c5, dovetailref03_Check.j2]
   by_cases c6 : (l1.length : Int) ≤ a2
   · rw [if_pos (decide_eq_true (by omega)), if_pos (.inr c6)]
   rw [if_neg (by simp; omega), if_neg (by omega)]
   exact hl
end Go.Proofs.YtaeaookonhaliaaDoor.B
/- dovetailref06.Faults, dovetailref06.Check: walked. -/
namespace Go.Proofs.YtaeaookonhaliaaDoor.R6
open Go.RowKit Go.Shelf YtaeaookonhaliaaDoorW.PrintWords YtaeaookonhaliaaDoorW.PrintLast YtaeaookonhaliaaDoorW.PrintMore
open B H F CO
theorem infoPr : (Tryd.prog.info? 44).map (fun i => (i.zero, i.size, i.bytes)) = some (some (.agg #[.int .i64 0, .int .i64 0]), 2, 16) := by kernel_rfl
structure RP (w : World) (cs : Array Value) (L : List (Int × Int)) (v : Value) (W : World) : Prop where
 gb : GB w cs W
 row : W.ownsRow w.heap.size 44 2 v L.length (prC L)
theorem RP.alloc {w W : World} {cs : Array Value} {L : List (Int × Int)} {v : Value} (h : RP w cs L v W) (o : Obj) : RP w cs L v (W.alloc o) := ⟨h.gb.more ((Below.refl _ W).alloc (Nat.le_refl _) o), h.row.alloc o⟩
theorem wp_RP {w W : World} {cs : Array Value} {L : List (Int × Int)} {v : Value} {ops : Array Oper} {rest : List Oper} {o : Oper} {a : Act} {Q : Exit → Act → World → Prop} (hgd : o.guard = none) (s x : Operand) (hop : o.op = .call { callee := .builtin .append, args := #[s, x], argTypes := #[38, 38] })
 (h : RP w cs L v W) (hs : a.eval s = v) (p : Int × Int) (hx : a.eval x = .slice (some ⟨W.heap.size, 0, none⟩) 1 1) (hl : L.length ≤ 4000000000000)
 (K : ∀ v' w', RP w cs (L ++ [p]) v' w' → wpList Tryd.prog ops Q rest (a.put o.dst v') w') : wpList Tryd.prog ops Q (o :: rest) a (W.alloc (.cells #[.int .i64 p.1, .int .i64 p.2] 44)) := by
 have hsz := h.gb.sz
 refine print_append_cells (P := Tryd.prog) (w0 := w) w.heap.size hgd s x 38 44 (.agg #[.int .i64 0, .int .i64 0]) 2 16 hop Tryd.underlying38 infoPr rfl (by decide) (by decide) v L.length (prC L) [.int .i64 p.1, .int .i64 p.2] hs hx rfl (by simp [Value.oneCell']) h.row h.gb.low (by omega) (by omega) ?_
 intro v1 w1 hown hb hgr hat
 refine K v1 w1 ⟨⟨hb, (hgr.block _ (by omega) (own_ne h.row h.gb.gb (by decide))).trans h.gb.gb⟩, ?_⟩
 rw [prC_snoc, List.length_append]; exact hown
set_option maxRecDepth 100000 in
set_option maxHeartbeats 4000000 in
theorem refFaults_calls (A0 : Option Addr) (n0 c0 : Nat) (A1 : Option Addr) (n1 c1 : Nat) (a2 : Int) (A3 : Option Addr) (c3 : Nat) (R : List S55) (w : World) (hr3 : Kd.C k55 w A3 R.length R) (hc3 : R.length ≤ c3) (hR : R.length ≤ 1048576) (hx : ∀ x ∈ R, x.f1.length ≤ 1048576) :
 Calls Tryd.prog 15 #[.agg #[.slice A0 n0 c0, .slice A1 n1 c1, .int .i64 a2, .slice A3 R.length c3]] w fun e w' => ∃ v, e = .returned v ∧ CutO 44 2 w.heap.size w' v (fltG 0 R).length (prC (fltG 0 R)) ∧ Below w.heap.size w w' := by
 obtain ⟨cs, hcs⟩ : ∃ cs : Array Value, cs = #[.slice A0 n0 c0, .slice A1 n1 c1, .int .i64 a2, .slice A3 R.length c3] := ⟨_, rfl⟩
 have st : RP w cs [] (.slice none 0 0) (w.alloc (.cells #[.slice A0 n0 c0, .slice A1 n1 c1, .int .i64 a2, .slice A3 R.length c3] 29)) := by subst hcs; exact ⟨GB.start w _, own_nil _ _ _ _⟩
 have CE : Aside0 (∀ W, GB w cs W → W.cell? ⟨w.heap.size, 3, none⟩ = some (.slice A3 R.length c3)) := ⟨fun W hW => by subst hcs; exact hW.cells.2.2.2⟩
 have hbnd : ∀ k, k ≤ R.length → (fltG 0 (R.take k)).length ≤ 1048576 * 1048577 := fun k hk => by
  have := fltG_len (R.take k) 0 1048576 (fun x h => hx x (List.mem_of_mem_take h))
  refine Nat.le_trans this (Nat.mul_le_mul_right _ ?_)
  rw [List.length_take]; omega
 have ST := Aside0.mk st
 have HR3 := Aside0.mk hr3
 have HX := Aside0.mk hx
 have HCS := Lib.hid hcs
 have HBND := Aside0.mk hbnd
 clear st hcs hr3 hbnd hx
 go_enter Tryd.func15, Tryd.ntmps15
 go_wp2_with fail
 go_loopw [3, 4] (fun v i wr => ∃ k : Nat, k ≤ R.length ∧ i = .int .i64 k ∧ Aside0 (RP w cs (fltG 0 (R.take k)) v wr)) (fun _ i _ => R.length - (intOf i).toNat)
 case atStart => exact ⟨0, Nat.zero_le _, rfl, ST⟩
 case round =>
  clear ST
  obtain ⟨k, hk, rfl, tr⟩ := hrel
  have f0 := CE.out _ tr.out.gb
  by_cases hlt : k < R.length
  · have hmem := List.getElem_mem hlt
    obtain ⟨ad3, A', c', e1, y0, y1, e4, e5⟩ := at_T55 HR3.out (k : Int) (by omega) (by omega)
    have hrd : rd_T55 R (k : Int) = R[k] := by rw [rdR_D, getD_lt R k _ hlt]
    rw [Int.toNat_natCast, hrd] at y0 y1
    rw [hrd] at e4 e5
    have hx20 := HX.out _ hmem
    have htk := fltG_take R 0 k hlt
    have hbk := HBND.out k (by omega)
    obtain ⟨x, hxk⟩ : ∃ x, x = R[k] := ⟨_, rfl⟩
    rw [← hxk] at y0 y1 e4 e5 hx20 htk
    rw [Nat.zero_add] at htk
    have HTK := Lib.hid htk
    clear hxk htk
    obtain ⟨L, hL⟩ : ∃ L, L = fltG 0 (R.take k) := ⟨_, rfl⟩
    rw [← hL] at tr hbk HTK
    clear hL
    subst e1
    have c1' := (tr.out.gb.low.cell (World.block_lt_of_cell? w _ y1)).trans y1
    have E5 := Aside0.mk e5
    have hfl := fsL_len x.f1
    clear hmem hrd y0 y1 e5
    obtain ⟨X, hX⟩ : ∃ X, X = x.f1 := ⟨_, rfl⟩
    rw [← hX] at c1' e4 E5 HTK hx20 hfl
    clear hX
    have RD : ∀ W, RP w cs L u3 W → True := fun _ _ => trivial
    clear RD
    by_cases hX0 : X = []
    · subst hX0
      have HF : Aside0 (fsL [] = [0]) := ⟨rfl⟩
      go_wp2_with ((with_reducible refine gate_builtin (b := .append) (xs := #[.tmp 23, .tmp 26]) rfl ?_); at_builtin; refine wp_RP rfl (.tmp 23) (.tmp 26) rfl tr.out rfl ((k : Int), 0) rfl (by omega) ?_; intro v' w' hrp; have P1 : Aside0 (RP w cs (fltG 0 (R.take (k + 1))) v' w') := ⟨by rw [HTK.out, HF.out]; exact hrp⟩; clear hrp)
      go_loopw [3, 6] (fun v i wq => i = .int .i64 1 ∧ Aside0 (RP w cs (fltG 0 (R.take (k + 1))) v wq)) (fun _ _ _ => 0)
      case atStart => exact ⟨rfl, P1⟩
      case round =>
       clear P1 tr
       obtain ⟨rfl, tq⟩ := hrel
       go_wp2_with fail
       go_roundw
       case measure => simp [intOf]; omega
       case rel => exact ⟨k + 1, by omega, by go_num, tq⟩
    · have hpos : 0 < X.length := List.length_pos_iff.2 hX0
      have hz2 : ((X.length : Int) == 0) = false := beq_false_of_ne (by omega)
      have hfl2 : fsL X = fsTo X X.length := if_neg hX0
      rw [hfl2] at hfl
      have HFL := Lib.hid hfl2
      clear hfl2
      go_wp2_with fail
      go_loopw [3, 6] (fun v i wq => ∃ j : Nat, j + 1 ≤ X.length ∧ i = .int .i64 ((j : Int) + 1) ∧ Aside0 (RP w cs (L ++ (fsTo X (j + 1)).map (fun a : Nat => ((k : Int), (a : Int)))) v wq)) (fun _ i _ => X.length - (intOf i).toNat)
      case atStart => exact ⟨0, hpos, rfl, ⟨by rw [fsTo_one, List.map_nil, List.append_nil]; exact tr.out⟩⟩
      case round =>
       clear tr
       obtain ⟨j, hj, rfl, tq⟩ := hrel
       by_cases hlt2 : j + 1 < X.length
       · obtain ⟨ad, rfl, hx0⟩ := Kd.at_int (Kd.C_below E5.out tq.out.gb.low) (j : Int) (by omega) (by omega)
         obtain ⟨ad', ead, hx1⟩ := Kd.at_int (Kd.C_below E5.out tq.out.gb.low) ((j : Int) + 1) (by omega) (by omega)
         obtain rfl := Option.some.inj ead
         rw [Int.toNat_natCast, show rd X (j : Int) = X.getD j 0 from rfl] at hx0
         rw [show ((j : Int) + 1).toNat = j + 1 by omega, show rd X ((j : Int) + 1) = X.getD (j + 1) 0 by unfold rd; rw [show ((j : Int) + 1).toNat = j + 1 by omega], show ad.add (j + 1) = ⟨ad.block, ad.off + (j + 1), none⟩ from if_neg (by omega)] at hx1
         have hsu := fsTo_succ X (j + 1) (by omega)
         have hbad : badAt X (j + 1) = (decide (X.getD j 0 < 0) && decide (X.getD (j + 1) 0 < 0)) := rfl
         have hlen : (L ++ (fsTo X (j + 1)).map (fun a : Nat => ((k : Int), (a : Int)))).length ≤ 4000000000000 := by
          have := (fsTo_prefix X (show j + 1 ≤ X.length by omega)).length_le
          rw [List.length_append, List.length_map]
          omega
         have HS : ∀ b, badAt X (j + 1) = b → fsTo X (j + 1 + 1) = fsTo X (j + 1) ++ if b = true then [j + 1] else [] := fun b hb => by rw [hsu, hb]
         have HSS := Aside0.mk HS
         obtain ⟨Lp, hLp⟩ : ∃ Lp, Lp = L ++ (fsTo X (j + 1)).map (fun a : Nat => ((k : Int), (a : Int))) := ⟨_, rfl⟩
         rw [← hLp] at tq hlen
         have HLP := Lib.hid hLp
         clear hsu HS hLp
         generalize X.getD j 0 = u at hx0 hbad
         generalize X.getD (j + 1) 0 = v at hx1 hbad
         have HBAD := Lib.hid hbad
         clear hbad
         by_cases hu : u < 0
         · by_cases hv : v < 0
           · have hs2 := HSS.out true (by rw [HBAD.out, decide_eq_true hu, decide_eq_true hv]; rfl)
             rw [if_pos rfl] at hs2
             have HS2 := Lib.hid hs2
             clear hs2
             go_wp2_with ((with_reducible refine gate_builtin (b := .append) (xs := #[.tmp 47, .tmp 51]) rfl ?_); at_builtin; refine wp_RP rfl (.tmp 47) (.tmp 51) rfl tq.out rfl ((k : Int), ((j + 1 : Nat) : Int)) rfl hlen ?_; intro v' w' hrp; have P1 : Aside0 (RP w cs (L ++ (fsTo X (j + 1 + 1)).map (fun a : Nat => ((k : Int), (a : Int)))) v' w') := ⟨by rw [HS2.out, List.map_append, ← List.append_assoc, ← HLP.out]; exact hrp⟩; clear hrp)
             go_roundw
             case measure => simp [intOf]; omega
             case rel => exact ⟨j + 1, by omega, by go_num, P1⟩
           · have hs2 := HSS.out false (by rw [HBAD.out, decide_eq_true hu, decide_eq_false hv]; rfl)
             rw [if_neg (by decide), List.append_nil] at hs2
             have P1 : Aside0 (RP w cs (L ++ (fsTo X (j + 1 + 1)).map (fun a : Nat => ((k : Int), (a : Int)))) u3 wr) := ⟨by rw [hs2, ← HLP.out]; exact tq.out⟩
             clear hs2
             go_wp2_with fail
             go_roundw
             case measure => simp [intOf]; omega
             case rel => exact ⟨j + 1, by omega, by go_num, P1⟩
         · have hs2 := HSS.out false (by rw [HBAD.out, decide_eq_false hu]; rfl)
           rw [if_neg (by decide), List.append_nil] at hs2
           have P1 : Aside0 (RP w cs (L ++ (fsTo X (j + 1 + 1)).map (fun a : Nat => ((k : Int), (a : Int)))) u3 wr) := ⟨by rw [hs2, ← HLP.out]; exact tq.out⟩
           clear hs2
           go_wp2_with fail
           go_roundw
           case measure => simp [intOf]; omega
           case rel => exact ⟨j + 1, by omega, by go_num, P1⟩
       · have hjl : j + 1 = X.length := by omega
         rw [hjl] at tq
         have P1 : Aside0 (RP w cs (fltG 0 (R.take (k + 1))) u3 wr) := ⟨by rw [HTK.out, HFL.out]; exact tq.out⟩
         have hjz : (j : Int) + 1 = (X.length : Int) := by omega
         clear tq
         go_wp2_with fail
         go_roundw
         case measure => simp [intOf]; omega
         case rel => exact ⟨k + 1, by omega, by go_num, P1⟩
  · obtain rfl : k = R.length := by omega
    go_wp2_with fail
    go_ret
    have hrow := tr.out.row
    have hlow := tr.out.gb.low
    rw [List.take_length] at hrow
    exact ⟨_, rfl, .inl hrow, hlow⟩
set_option maxRecDepth 100000 in
set_option maxHeartbeats 4000000 in
theorem ref6Check_calls (A0 : Option Addr) (c0 : Nat) (l0 : List ByteArray) (A1 : Option Addr) (c1 : Nat) (l1 : List ByteArray) (a2 : Int) (A3 : Option Addr) (c3 : Nat) (R : List S55) (w : World) (hm : GM w A0 c0 l0 A1 c1 l1 A3 c3 R) (hR : R.length ≤ 1048576) (hx : ∀ x ∈ R, x.f1.length ≤ 1048576) :
 Calls Tryd.prog 13 #[.agg #[.slice A0 l0.length c0, .slice A1 l1.length c1, .int .i64 a2, .slice A3 R.length c3]] w fun e w' => e = .returned (.tuple #[.int .i64 (opP l0 l1 a2 R).1, .int .i64 (opP l0 l1 a2 R).2]) ∧ Below w.heap.size w w' := by
 obtain ⟨cs, hcs⟩ : ∃ cs : Array Value, cs = #[.slice A0 l0.length c0, .slice A1 l1.length c1, .int .i64 a2, .slice A3 R.length c3] := ⟨_, rfl⟩
 have st : GB w cs (w.alloc (.cells #[.slice A0 l0.length c0, .slice A1 l1.length c1, .int .i64 a2, .slice A3 R.length c3] 29)) := by subst hcs; exact GB.start w _
 have CE : Aside0 (∀ W, GB w cs W → W.cell? ⟨w.heap.size, 0, none⟩ = some (.slice A0 l0.length c0) ∧ W.cell? ⟨w.heap.size, 1, none⟩ = some (.slice A1 l1.length c1) ∧ W.cell? ⟨w.heap.size, 2, none⟩ = some (.int .i64 a2) ∧ W.cell? ⟨w.heap.size, 3, none⟩ = some (.slice A3 R.length c3)) := ⟨fun W hW => by subst hcs; exact hW.cells⟩
 have K1 : Aside0 (∀ W, GB w cs W → Calls Tryd.prog 33 #[.agg #[.slice A0 l0.length c0, .slice A1 l1.length c1, .int .i64 a2, .slice A3 R.length c3]] W fun e w' => e = .returned (.tuple #[.int .i64 (chkQ l0 l1 a2 R).1, .int .i64 (chkQ l0 l1 a2 R).2]) ∧ Aside0 (GB w cs w')) := ⟨fun W hW =>
  (dovetailref03_Check.calls 20000 A0 c0 l0 A1 c1 l1 a2 A3 c3 R _ _ W (hm.below hW.low).r0 hm.h0 (hm.below hW.low).r1 hm.h1 (hm.below hW.low).r3 hm.h3 (refCheck_f l0 l1 a2 R hm.r0.2.1 hm.r1.2.1 20000 (Nat.le_refl _))).mono fun e w' ⟨he, hb⟩ => ⟨he, ⟨hW.more hb⟩⟩⟩
 have K2 : Aside0 (∀ W, GB w cs W → Calls Tryd.prog 15 #[.agg #[.slice A0 l0.length c0, .slice A1 l1.length c1, .int .i64 a2, .slice A3 R.length c3]] W fun e w' => ∃ v, e = .returned v ∧ (CutO 44 2 W.heap.size w' v (fltG 0 R).length (prC (fltG 0 R)) ∧ GB w cs w')) := ⟨fun W hW =>
  (refFaults_calls A0 l0.length c0 A1 l1.length c1 a2 A3 c3 R W (hm.below hW.low).r3 hm.h3 hR hx).mono fun e w' ⟨v, he, hv, hb⟩ => ⟨v, he, hv, hW.more hb⟩⟩
 have ST := Aside0.mk st
 have HCS := Lib.hid hcs
 unfold opP
 obtain ⟨⟨p1, p2⟩, hpq⟩ : ∃ p, p = chkQ l0 l1 a2 R := ⟨_, rfl⟩
 have hpq' : chk (namesOK l0) (namesOK l1) l0.length l1.length a2 R = (p1, p2) := hpq.symm
 rw [← hpq] at K1
 rw [hpq']
 clear st hcs hm hR hx hpq hpq'
 obtain ⟨f0, f1, f2, f3⟩ := CE.out _ ST.out
 by_cases hp : p1 = 0
 · subst hp
   rw [if_pos rfl]
   cases hb : badR R with
   | none =>
    obtain ⟨hno, hfl⟩ := flt_none hb
    have K3 : Aside0 (∀ W, GB w cs W → Calls Tryd.prog 15 #[.agg #[.slice A0 l0.length c0, .slice A1 l1.length c1, .int .i64 a2, .slice A3 R.length c3]] W fun e w' => ∃ A c, e = .returned (.slice A 0 c) ∧ Aside0 (GB w cs w')) := ⟨fun W hW => (K2.out W hW).mono fun e w' ⟨v, he, hv, hg⟩ => by
     rw [hfl] at hv
     obtain ⟨A, c, rfl, _⟩ := hv.sl
     exact ⟨A, c, he, ⟨hg⟩⟩⟩
    clear K2 hno hfl hb
    go_enter Tryd.func13, Tryd.ntmps13
    go_wp2_with (first
     | (go_at_call 33; (with_reducible refine (K1.out _ ST.out).mono ?_); rintro e w1 ⟨rfl, s1⟩; obtain ⟨g0, g1, g2, g3⟩ := CE.out _ s1.out)
     | (go_at_call 15; (with_reducible refine (K3.out _ s1.out).mono ?_); rintro e w2 ⟨A, c, rfl, s2⟩))
    go_ret2
    exact ⟨rfl, s2.out.low⟩
   | some i =>
    obtain ⟨a, rest, hfl⟩ := flt_some hb
    obtain ⟨n, hn⟩ : ∃ n, n = rest.length := ⟨_, rfl⟩
    have K3 : Aside0 (∀ W, GB w cs W → Calls Tryd.prog 15 #[.agg #[.slice A0 l0.length c0, .slice A1 l1.length c1, .int .i64 a2, .slice A3 R.length c3]] W fun e w' => ∃ g c, e = .returned (.slice (some ⟨g, 0, none⟩) (n + 1) c) ∧ w'.drew.cell? ⟨g, 0, none⟩ = some (.int .i64 (i : Int)) ∧ w'.cell? ⟨g, 0, none⟩ = some (.int .i64 (i : Int)) ∧ Aside0 (GB w cs w')) := ⟨fun W hW => (K2.out W hW).mono fun e w' ⟨v, he, hv, hg⟩ => by
     rw [hfl] at hv
     have hl : (((i : Int), a) :: rest).length = n + 1 := by rw [hn]; rfl
     rw [hl] at hv
     rcases hv.form with ⟨_, h0⟩ | ⟨g, c, cur, e1, _⟩
     · omega
     · subst e1
       have h1 := (hv.cell 0 (by omega)).1
       exact ⟨g, c, he, h1, h1, ⟨hg⟩⟩⟩
    clear K2 hfl hb hn
    go_enter Tryd.func13, Tryd.ntmps13
    go_wp2_with (first
     | (go_at_call 33; (with_reducible refine (K1.out _ ST.out).mono ?_); rintro e w1 ⟨rfl, s1⟩; obtain ⟨g0, g1, g2, g3⟩ := CE.out _ s1.out)
     | (go_at_call 15; (with_reducible refine (K3.out _ s1.out).mono ?_); rintro e w2 ⟨g, c, rfl, x0, x1, s2⟩))
    go_quiet (fail)
    go_wp2_with fail
    go_ret2
    exact ⟨rfl, pw_below_drewN s2.out.low _⟩
 · rw [if_neg hp]
   clear K2
   go_enter Tryd.func13, Tryd.ntmps13
   go_wp2_with (first
    | (go_at_call 33; (with_reducible refine (K1.out _ ST.out).mono ?_); rintro e w1 ⟨rfl, s1⟩; obtain ⟨g0, g1, g2, g3⟩ := CE.out _ s1.out))
   go_ret2
   exact ⟨rfl, s1.out.low⟩
end Go.Proofs.YtaeaookonhaliaaDoor.R6
/- kit.Ints, kit.Strings: are two the same? (taken from GramSm and GramKi, for seats without rules' ties) -/
namespace Go.Proofs.YtaeaookonhaliaaDoor.B
open Go.RowKit YtaeaookonhaliaaDoorW.PrintWords YtaeaookonhaliaaDoorW.PrintLast YtaeaookonhaliaaDoorW.PrintMore

theorem wrap_succ (i : Nat) (h : i < 9223372036854775807) : wrap64 ((i : Int) + 1) = ((i + 1 : Nat) : Int) := by unfold wrap64; omega
theorem toList_eq (a b : ByteArray) : a.toList = b.toList ↔ a = b := by
 constructor
 · intro h
   rw [ByteArray.toList_eq, ByteArray.toList_eq] at h
   have := Array.ext' h
   cases a; cases b; simp_all
 · rintro rfl; rfl

theorem rd_nat (l : List Int) (i : Nat) (h : i < l.length) : rd l (i : Int) = l[i] := by simp [rd, List.getD_eq_getElem?_getD, List.getElem?_eq_getElem h]
theorem rdS_nat (l : List ByteArray) (i : Nat) (h : i < l.length) : rdOf ByteArray.empty l (i : Int) = l[i] := by simp [rdOf, List.getD_eq_getElem?_getD, List.getElem?_eq_getElem h]
theorem KInts_l (l0 l1 : List Int) (hl : l0.length = l1.length) (hm : l0.length ≤ 9223372036854775807) : ∀ (d i k : Nat), l0.length - i = d → i ≤ l0.length → d < k → dovetailkit_Ints.l0 k l0 l1 (i : Int) = some (decide (l0.drop i = l1.drop i)) := by
 intro d
 induction d with
 | zero =>
  intro i k hi hle hk
  obtain ⟨k, rfl⟩ : ∃ j, k = j + 1 := ⟨k - 1, by omega⟩
  have : i = l0.length := by omega
  subst this
  rw [dovetailkit_Ints.l0, if_neg (by omega), List.drop_length, hl, List.drop_length]
  simp
 | succ d ih =>
  intro i k hi hle hk
  obtain ⟨k, rfl⟩ : ∃ j, k = j + 1 := ⟨k - 1, by omega⟩
  have hlt : i < l0.length := by omega
  have hlt1 : i < l1.length := by omega
  rw [dovetailkit_Ints.l0, if_pos (by omega), if_pos (by omega), if_pos (by omega), List.drop_eq_getElem_cons hlt, List.drop_eq_getElem_cons hlt1, rd_nat l0 i hlt, rd_nat l1 i hlt1]
  by_cases he : l0[i] = l1[i]
  · rw [if_pos he, wrap_succ i (by omega), ih (i + 1) k (by omega) (by omega) (by omega)]
    rw [he]; congr 1; rw [decide_eq_decide]; simp only [List.cons.injEq, true_and]
  · rw [if_neg he]; congr 1; symm; rw [decide_eq_false_iff_not]; intro h; exact he (List.cons.inj h).1
theorem KInts_f (l0 l1 : List Int) (k : Nat) (hm : l0.length ≤ 9223372036854775807) (hk : l0.length < k) : dovetailkit_Ints.f k l0 l1 = some (decide (l0 = l1)) := by
 unfold dovetailkit_Ints.f
 by_cases h : l0.length = l1.length
 · rw [if_pos (by omega)]
   have := KInts_l l0 l1 h hm l0.length 0 k (by omega) (by omega) hk
   simpa using this
 · rw [if_neg (by omega)]
   have : l0 ≠ l1 := fun e => h (by rw [e])
   simp [this]
theorem KStrings_l (l0 l1 : List ByteArray) (hl : l0.length = l1.length) (hm : l0.length ≤ 9223372036854775807) : ∀ (d i k : Nat), l0.length - i = d → i ≤ l0.length → d < k → dovetailkit_Strings.l0 k l0 l1 (i : Int) = some (decide (l0.drop i = l1.drop i)) := by
 intro d
 induction d with
 | zero =>
  intro i k hi hle hk
  obtain ⟨k, rfl⟩ : ∃ j, k = j + 1 := ⟨k - 1, by omega⟩
  have : i = l0.length := by omega
  subst this
  rw [dovetailkit_Strings.l0, if_neg (by omega), List.drop_length, hl, List.drop_length]
  simp
 | succ d ih =>
  intro i k hi hle hk
  obtain ⟨k, rfl⟩ : ∃ j, k = j + 1 := ⟨k - 1, by omega⟩
  have hlt : i < l0.length := by omega
  have hlt1 : i < l1.length := by omega
  rw [dovetailkit_Strings.l0, if_pos (by omega), if_pos (by omega), if_pos (by omega), List.drop_eq_getElem_cons hlt, List.drop_eq_getElem_cons hlt1, rdS_nat l0 i hlt, rdS_nat l1 i hlt1]
  by_cases he : l0[i] = l1[i]
  · rw [if_pos ((toList_eq _ _).2 he), wrap_succ i (by omega), ih (i + 1) k (by omega) (by omega) (by omega)]
    rw [he]; congr 1; rw [decide_eq_decide]; simp only [List.cons.injEq, true_and]
  · rw [if_neg (fun h => he ((toList_eq _ _).1 h))]; congr 1; symm; rw [decide_eq_false_iff_not]; intro h; exact he (List.cons.inj h).1
theorem KStrings_f (l0 l1 : List ByteArray) (k : Nat) (hm : l0.length ≤ 9223372036854775807) (hk : l0.length < k) : dovetailkit_Strings.f k l0 l1 = some (decide (l0 = l1)) := by
 unfold dovetailkit_Strings.f
 by_cases h : l0.length = l1.length
 · rw [if_pos (by omega)]
   have := KStrings_l l0 l1 h hm l0.length 0 k (by omega) (by omega) hk
   simpa using this
 · rw [if_neg (by omega)]
   have : l0 ≠ l1 := fun e => h (by rw [e])
   simp [this]
end Go.Proofs.YtaeaookonhaliaaDoor.B
/- dovetaillaw06.OpformKnown: the parts. -/
namespace Go.Proofs.YtaeaookonhaliaaDoor.R6
open Go.RowKit Go.Shelf YtaeaookonhaliaaDoorW.PrintWords YtaeaookonhaliaaDoorW.PrintLast YtaeaookonhaliaaDoorW.PrintMore
open B H F CO
theorem eqF (W : World) (a b c d : Int) : (Op.equalIn 10000 43 (.agg #[.int .i64 a, .int .i64 b]) (.agg #[.int .i64 c, .int .i64 d])).run Tryd.prog W = .ok ((a == c) && (b == d)) W :=
 eqA_of Tryd.underlying43 (by kernel_rfl) (eqf_cons rfl (run_part_plain W plain_int rfl) (run_part_plain W plain_int rfl) (run_equalIn_int W _ _ .i64 .i64 a c Tryd.underlying3) (eqf_last rfl (run_part_plain W plain_int rfl) (run_part_plain W plain_int rfl) (run_equalIn_int W _ _ .i64 .i64 b d Tryd.underlying3)))
section
variable {w : World}
end
structure KF (w : World) (g c : Nat) (W : World) : Prop where
 low : Below w.heap.size w W
 fl : CutO 43 2 w.heap.size W (.slice (some ⟨g, 0, none⟩) 3 c) 3 (prC [(0, 1), (0, 2), (1, 0)])
theorem KF.more {w W W' : World} {g c : Nat} (h : KF w g c W) (hb : Below W.heap.size W W') : KF w g c W' := ⟨h.low.trans (hb.mono h.low.size), h.fl.below hb⟩
theorem KF.cells {w W : World} {g c : Nat} (h : KF w g c W) : W.cell? ⟨g, 0, none⟩ = some (.int .i64 0) ∧ W.cell? ⟨g, 1, none⟩ = some (.int .i64 1) ∧ W.cell? ⟨g, 2, none⟩ = some (.int .i64 0) ∧ W.cell? ⟨g, 3, none⟩ = some (.int .i64 2) ∧ W.cell? ⟨g, 4, none⟩ = some (.int .i64 1) ∧ W.cell? ⟨g, 5, none⟩ = some (.int .i64 0) :=
 ⟨(h.fl.cell 0 (by decide)).1, (h.fl.cell 1 (by decide)).1, (h.fl.cell 2 (by decide)).1, (h.fl.cell 3 (by decide)).1, (h.fl.cell 4 (by decide)).1, (h.fl.cell 5 (by decide)).1⟩
section
variable {ad : Int → Addr} {w : World}
end
end Go.Proofs.YtaeaookonhaliaaDoor.R6
/- What Lent and Kept stand on, in this seat. -/

/- kit.Lent..: lists in memory of their own, a mark behind each. -/
namespace Go.Proofs.YtaeaookonhaliaaDoor.B
open Go.RowKit YtaeaookonhaliaaDoorW.PrintWords YtaeaookonhaliaaDoorW.PrintLast YtaeaookonhaliaaDoorW.PrintMore

def kmx : Kd (List Int × Bool) where
 sz := 1
 E := [3]
 K := fun w x cs => ∃ A c, cs = [.slice A x.1.length c] ∧ match x.2 with
  | true => x.1.length + 1 ≤ c ∧ Kd.C (Kd.int .i64) w A (x.1.length + 1) (x.1 ++ [-7171])
  | false => x.1.length ≤ c ∧ Kd.C (Kd.int .i64) w A x.1.length x.1
 M := fun w base ok x cs => ∃ A c, cs = [.slice A x.1.length c] ∧ match x.2 with
  | true => Kd.R (Kd.int .i64) 3 w base ok (.slice A (x.1.length + 1) c) (x.1 ++ [-7171])
  | false => Kd.R (Kd.int .i64) 3 w base ok (.slice A x.1.length c) x.1
 K_len := by
  rintro w x cs ⟨A, c, rfl, _⟩
  rfl
 K_one := by
  rintro w x cs ⟨A, c, rfl, _⟩ u hu
  rw [List.mem_singleton.1 hu]
  rfl
 K_below := by
  rintro w w1 ⟨xs, b⟩ cs hb ⟨A, c, rfl, h⟩
  cases b
  · exact ⟨A, c, rfl, h.1, Kd.C_below h.2 hb⟩
  · exact ⟨A, c, rfl, h.1, Kd.C_below h.2 hb⟩
 K_of_M := by
  rintro w base ok ⟨xs, b⟩ cs ⟨A, c, rfl, h⟩
  cases b
  · exact ⟨A, c, rfl, (Kd.R_reads' h).2⟩
  · have := Kd.R_reads' h
    rw [List.length_append, List.length_singleton] at this
    exact ⟨A, c, rfl, this.2⟩
 M_mono := by
  rintro w base ok ok' ⟨xs, b⟩ cs hok ⟨A, c, rfl, h⟩
  cases b
  · exact ⟨A, c, rfl, Kd.R_mono h hok⟩
  · exact ⟨A, c, rfl, Kd.R_mono h hok⟩
 M_bound := by
  rintro w base ok ⟨xs, b⟩ cs ⟨A, c, rfl, h⟩
  cases b
  · exact ⟨A, c, rfl, Kd.R_bound h⟩
  · exact ⟨A, c, rfl, Kd.R_bound h⟩
 M_move := by
  rintro w w1 base ok ⟨xs, b⟩ cs hm ⟨A, c, rfl, h⟩
  cases b
  · exact ⟨A, c, rfl, Kd.R_move h hm⟩
  · exact ⟨A, c, rfl, Kd.R_move h hm⟩
 M_lower := by
  rintro w base base' ok ⟨xs, b⟩ cs hb ⟨A, c, rfl, h⟩
  cases b
  · exact ⟨A, c, rfl, Kd.R_lower h hb⟩
  · exact ⟨A, c, rfl, Kd.R_lower h hb⟩
def kRx : Kd (S55 × Bool) := Kd.iso (Kd.pair (Kd.int .i64) kmx) (fun x => (x.1.f0, (x.1.f1, x.2)))
theorem C_pre {α : Type} {d : Kd α} {w : World} {A : Option Addr} {xs ys : List α} {n : Nat} (h : d.C w A n (xs ++ ys)) : d.C w A xs.length xs := by
 refine ⟨rfl, by have := h.1; have := h.2.1; rw [List.length_append] at *; omega, fun hp => ?_⟩
 obtain ⟨ad, e, hc⟩ := h.2.2 (by have := h.1; rw [List.length_append] at this; omega)
 refine ⟨ad, e, fun j p hj => hc j p ?_⟩
 have hlt := (List.getElem?_eq_some_iff.1 hj).1
 rw [List.getElem?_append_left hlt]; exact hj
theorem C_imp {α β : Type} {d : Kd α} {d' : Kd β} {w : World} {A : Option Addr} {n : Nat} {xs : List α} (f : α → β) (h : d.C w A n xs) (hs : d.sz = d'.sz) (hK : ∀ x c, x ∈ xs → d.K w x c → d'.K w (f x) c) : d'.C w A n (xs.map f) := by
 refine ⟨by rw [List.length_map]; exact h.1, h.2.1, fun hp => ?_⟩
 obtain ⟨ad, e, hc⟩ := h.2.2 hp
 refine ⟨ad, e, fun j p hj => ?_⟩
 rw [List.getElem?_map] at hj
 obtain ⟨x, hx, rfl⟩ := Option.map_eq_some_iff.1 hj
 obtain ⟨c, h1, h2, h3⟩ := hc j x hx
 exact ⟨c, by rw [← hs]; exact h1, hK x c (List.mem_of_getElem? hx) h2, by rw [← hs]; exact h3⟩
def mk1 (l : List S55) : List (S55 × Bool) := l.map fun x => (x, true)
theorem mk1_length (l : List S55) : (mk1 l).length = l.length := by simp [mk1]
def MR (w : World) (A : Option Addr) (c : Nat) (l : List S55) : Prop := l.length + 1 ≤ c ∧ Kd.C kRx w A (l.length + 1) (mk1 l ++ [(⟨-7171, []⟩, false)])
theorem MR.below {w w' : World} {A : Option Addr} {c : Nat} {l : List S55} (h : MR w A c l) (hb : Below w.heap.size w w') : MR w' A c l := ⟨h.1, Kd.C_below h.2 hb⟩
theorem MR.of {w : World} {base : Nat} {ok : Nat → Prop} {A : Option Addr} {c : Nat} {l : List S55} (h : Kd.R kRx 55 w base ok (.slice A (l.length + 1) c) (mk1 l ++ [((⟨-7171, []⟩ : S55), false)])) : MR w A c l := by
 have h1 := Kd.R_reads' h
 refine ⟨h1.2.1, ?_⟩
 rw [h1.1]; exact h1.2.2
theorem kRx_K {w : World} {x : S55} {cs : List Value} (h : kRx.K w (x, true) cs) : k55.K w x cs := by
 obtain ⟨a, b, rfl, h1, A, c, rfl, h2, h3⟩ := h
 dsimp only at h2 h3
 exact ⟨a, _, rfl, h1, A, c, rfl, by dsimp only; omega, C_pre h3⟩
theorem MR.reads {w : World} {A : Option Addr} {c : Nat} {l : List S55} (h : MR w A c l) : Kd.C k55 w A l.length l := by
 have h1 := C_pre h.2
 rw [mk1_length] at h1
 have h2 := C_imp (d := kRx) (d' := k55) (fun x => x.1) h1 rfl (fun x c hx hk => by
  obtain ⟨y, _, rfl⟩ := List.mem_map.1 hx
  exact kRx_K hk)
 have : (mk1 l).map (fun x => x.1) = l := List.ext_getElem (by simp [mk1]) (fun i h1 h2 => by simp [mk1])
 rwa [this] at h2

set_option maxHeartbeats 4000000 in
set_option maxRecDepth 100000 in
theorem LentInts_m (A0 : Option Addr) (c0 : Nat) (l : List Int) (w : World) (hr : Kd.C (Kd.int .i64) w A0 l.length l) (hl : l.length < 17592186044415) :
 Calls Tryd.prog 19 #[.slice A0 l.length c0] w fun e w' => ∃ A c, e = .returned (.slice A l.length c) ∧ Aside0 (Kd.R (Kd.int .i64) 3 w' w.heap.size (fun _ => True) (.slice A (l.length + 1) c) (l ++ [(-7171)]) ∧ Below w.heap.size w w') := by
 obtain ⟨y1, hy1⟩ : ∃ y_ : List Int, y_ = ([] : List Int) ++ l := ⟨_, rfl⟩
 obtain ⟨y2, hy2⟩ : ∃ y_ : List Int, y_ = y1 ++ [(-7171)] := ⟨_, rfl⟩
 have q8 : y1.length < 17592186044415 := by rw [hy1]; simpa using hl
 have q9 : ((l.length : Int)) ≤ ((y2.length : Int)) := by rw [hy2, hy1]; simp; omega
 have q7 : ([] : List Int).length + l.length < 17592186044415 := by simpa using hl
 have hy3 : y2.length = l.length + 1 := by rw [hy2, hy1]; simp
 have hy4 : y2 = l ++ [(-7171)] := by rw [hy2, hy1]; simp
 have HR0 := Aside0.mk hr
 have HB := Aside0.mk (Below.refl w.heap.size w)
 have N1 := Aside0.mk hy1
 have N2 := Aside0.mk hy2
 have N3 := Aside0.mk hy3
 have N4 := Aside0.mk hy4
 have Q7 := Aside0.mk q7
 have Q8 := Aside0.mk q8
 have Q9 := Aside0.mk q9
 clear hr hy1 hy2 hy3 hy4 q7 q8 q9 hl
 go_enter Tryd.func19, Tryd.ntmps19
 go_wp2_with (first
  | ((with_reducible refine gate_builtin (b := .append) (xs := #[.tmp 4, .tmp 5]) rfl ?_); at_builtin; refine Kd.R_append_rows (Kd.int .i64) (w0 := w) w.heap.size rfl (.tmp 4) (.tmp 5) 22 3 (.int .i64 0) 8 rfl Tryd.underlying22 info3 rfl (by decide) (by omega) (.slice none 0 0) ([] : List Int) l _ _ _ (fun _ => True) (fun _ => False) rfl rfl ?aO ?aR (fun _ _ h => h) (fun _ h => h.elim) ?aF ?aB ?aS ?aL ?_; (case aR => exact HR0.out); (case aB => exact HB.out); (case aF => exact (fun _ _ => trivial)); (case aO => exact ((Kd.R_nil _ _ _ _ (fun _ => True)))); (case aS => exact Nat.le_refl _); (case aL => have := Q7.out; omega); intro v1 w1 ho hb hg hat; rw [← N1.out] at ho; have n0_ := Aside0.mk hb; have n1_ := Aside0.mk ho; clear HB; have HB := n0_; have HO1 := n1_; clear n0_ n1_ ho hb hg hat)
  | ((with_reducible refine gate_builtin (b := .append) (xs := #[.tmp 7, .tmp 8]) rfl ?_); at_builtin; refine Kd.R_append (Kd.int .i64) (w0 := w) w.heap.size rfl (.tmp 7) (.tmp 8) 22 3 (.int .i64 0) 8 rfl Tryd.underlying22 info3 rfl (by decide) (by omega) v1 y1 (-7171) [.int .i64 (-7171)] (fun _ => True) (fun _ => False) rfl rfl ?aP (fun _ hk => hk.elim) ?aF ?aO ?aB ?aS ?aL ?_; (case aP => exact rfl); (case aB => exact HB.out); (case aF => exact (fun _ _ => trivial)); (case aO => exact HO1.out); (case aS => exact (below_size HB.out)); (case aL => have := Q8.out; omega); intro v2 w2 ho hb hg hat; rw [← N2.out] at ho; have n0_ := Aside0.mk hb; have n1_ := Aside0.mk ho; clear HB HO1; have HB := n0_; have HO2 := n1_; clear n0_ n1_ ho hb hg hat; obtain ⟨Ao, co, eo⟩ := Kd.R_slice HO2.out; subst eo; obtain ⟨i0, hi0, _, hsz0, _⟩ := info_parts info3; have hcut := cut_to (P := Tryd.prog) 22 3 .i64 Tryd.underlying22 hi0 Ao y2.length co (l.length : Int) (by omega) Q9.out (Kd.R_reads' HO2.out).2.1; clear hi0 hsz0))
 go_ret
 refine ⟨Ao, co, rfl, ⟨?_, HB.out⟩⟩
 have h := HO2.out
 rw [N3.out] at h
 rw [← N4.out]
 exact h

set_option maxHeartbeats 4000000 in
set_option maxRecDepth 100000 in
theorem LentStrings_m (A0 : Option Addr) (c0 : Nat) (l : List ByteArray) (w : World) (hr : Kd.C Kd.string w A0 l.length l) (hl : l.length < 8796093022207) :
 Calls Tryd.prog 30 #[.slice A0 l.length c0] w fun e w' => ∃ A c, e = .returned (.slice A l.length c) ∧ Aside0 (Kd.R Kd.string 9 w' w.heap.size (fun _ => True) (.slice A (l.length + 1) c) (l ++ [(⟨#[109, 97, 114, 107]⟩ : ByteArray)]) ∧ Below w.heap.size w w') := by
 obtain ⟨y1, hy1⟩ : ∃ y_ : List ByteArray, y_ = ([] : List ByteArray) ++ l := ⟨_, rfl⟩
 obtain ⟨y2, hy2⟩ : ∃ y_ : List ByteArray, y_ = y1 ++ [(⟨#[109, 97, 114, 107]⟩ : ByteArray)] := ⟨_, rfl⟩
 have q8 : y1.length < 8796093022207 := by rw [hy1]; simpa using hl
 have q9 : ((l.length : Int)) ≤ ((y2.length : Int)) := by rw [hy2, hy1]; simp; omega
 have q7 : ([] : List ByteArray).length + l.length < 8796093022207 := by simpa using hl
 have hy3 : y2.length = l.length + 1 := by rw [hy2, hy1]; simp
 have hy4 : y2 = l ++ [(⟨#[109, 97, 114, 107]⟩ : ByteArray)] := by rw [hy2, hy1]; simp
 have HR0 := Aside0.mk hr
 have HB := Aside0.mk (Below.refl w.heap.size w)
 have N1 := Aside0.mk hy1
 have N2 := Aside0.mk hy2
 have N3 := Aside0.mk hy3
 have N4 := Aside0.mk hy4
 have Q7 := Aside0.mk q7
 have Q8 := Aside0.mk q8
 have Q9 := Aside0.mk q9
 clear hr hy1 hy2 hy3 hy4 q7 q8 q9 hl
 go_enter Tryd.func30, Tryd.ntmps30
 go_wp2_with (first
  | ((with_reducible refine gate_builtin (b := .append) (xs := #[.tmp 4, .tmp 5]) rfl ?_); at_builtin; refine Kd.R_append_rows Kd.string (w0 := w) w.heap.size rfl (.tmp 4) (.tmp 5) 26 9 (.string ⟨#[]⟩) 16 rfl Tryd.underlying26 info9 rfl (by decide) (by omega) (.slice none 0 0) ([] : List ByteArray) l _ _ _ (fun _ => True) (fun _ => False) rfl rfl ?aO ?aR (fun _ _ h => h) (fun _ h => h.elim) ?aF ?aB ?aS ?aL ?_; (case aR => exact HR0.out); (case aB => exact HB.out); (case aF => exact (fun _ _ => trivial)); (case aO => exact ((Kd.R_nil _ _ _ _ (fun _ => True)))); (case aS => exact Nat.le_refl _); (case aL => have := Q7.out; omega); intro v1 w1 ho hb hg hat; rw [← N1.out] at ho; have n0_ := Aside0.mk hb; have n1_ := Aside0.mk ho; clear HB; have HB := n0_; have HO1 := n1_; clear n0_ n1_ ho hb hg hat)
  | ((with_reducible refine gate_builtin (b := .append) (xs := #[.tmp 7, .tmp 8]) rfl ?_); at_builtin; refine Kd.R_append Kd.string (w0 := w) w.heap.size rfl (.tmp 7) (.tmp 8) 26 9 (.string ⟨#[]⟩) 16 rfl Tryd.underlying26 info9 rfl (by decide) (by omega) v1 y1 (⟨#[109, 97, 114, 107]⟩ : ByteArray) [.string ⟨#[109, 97, 114, 107]⟩] (fun _ => True) (fun _ => False) rfl rfl ?aP (fun _ hk => hk.elim) ?aF ?aO ?aB ?aS ?aL ?_; (case aP => exact rfl); (case aB => exact HB.out); (case aF => exact (fun _ _ => trivial)); (case aO => exact HO1.out); (case aS => exact (below_size HB.out)); (case aL => have := Q8.out; omega); intro v2 w2 ho hb hg hat; rw [← N2.out] at ho; have n0_ := Aside0.mk hb; have n1_ := Aside0.mk ho; clear HB HO1; have HB := n0_; have HO2 := n1_; clear n0_ n1_ ho hb hg hat; obtain ⟨Ao, co, eo⟩ := Kd.R_slice HO2.out; subst eo; obtain ⟨i0, hi0, _, hsz0, _⟩ := info_parts info9; have hcut := cut_to (P := Tryd.prog) 26 9 .i64 Tryd.underlying26 hi0 Ao y2.length co (l.length : Int) (by omega) Q9.out (Kd.R_reads' HO2.out).2.1; clear hi0 hsz0))
 go_ret
 refine ⟨Ao, co, rfl, ⟨?_, HB.out⟩⟩
 have h := HO2.out
 rw [N3.out] at h
 rw [← N4.out]
 exact h

set_option maxHeartbeats 8000000 in
set_option maxRecDepth 100000 in
theorem LentRules_m (A0 : Option Addr) (c0 : Nat) (l : List S55) (w : World) (hr : Kd.C k55 w A0 l.length l) (hl : l.length < 4398046511104) (hx : ∀ x ∈ l, x.f1.length < 17592186044415) :
 Calls Tryd.prog 31 #[.slice A0 l.length c0] w fun e w' => ∃ A c, e = .returned (.slice A l.length c) ∧ Aside0 (Kd.R kRx 55 w' w.heap.size (fun _ => True) (.slice A (l.length + 1) c) (mk1 l ++ [((⟨-7171, []⟩ : S55), false)]) ∧ Below w.heap.size w w') := by
 have HR0 := Aside0.mk hr
 have HX := Aside0.mk hx
 have HL := Aside0.mk hl
 have hm := C_max hr
 have HU := Aside0.mk (show True from trivial)
 clear hr hx hl
 go_enter Tryd.func31, Tryd.ntmps31
 go_wp2_with fail
 go_loopw [3, 4, 5] (fun v i _ wr => ∃ k : Nat, k ≤ l.length ∧ i = .int .i64 k ∧ Aside0 (Kd.R kRx 55 wr w.heap.size (fun _ => True) v (mk1 (l.take k)) ∧ Below w.heap.size w wr)) (fun _ i _ _ => l.length - (intOf i).toNat)
 case atStart => exact ⟨0, Nat.zero_le _, rfl, ⟨by simpa [mk1] using Kd.R_nil kRx _ w w.heap.size (fun _ => True), Below.refl _ w⟩⟩
 case round =>
  obtain ⟨k, hk, rfl, tr⟩ := hrel
  by_cases hlt : k < l.length
  · obtain ⟨ad, A, c, rfl, h0, h1, h2, h3⟩ := at_T55 (Kd.C_below HR0.out tr.out.2) (k : Int) (by omega) (by omega)
    have q0 : rd_T55 l (k : Int) = l[k] := by simp [rd_T55, List.getD_eq_getElem?_getD, List.getElem?_eq_getElem hlt]
    have hxk := HX.out l[k] (List.getElem_mem hlt)
    have hnx : mk1 (l.take (k + 1)) = mk1 (l.take k) ++ [(l[k], true)] := by rw [mk1, List.take_succ_eq_append_getElem hlt, List.map_append]; rfl
    rw [Int.toNat_natCast] at h0 h1
    rw [q0] at h0 h1 h2 h3
    generalize l[k] = x at h0 h1 h2 h3 hxk hnx
    have hcall : Calls Tryd.prog 19 #[.slice A x.f1.length c] wr fun e w' => ∃ A' c', e = .returned (.slice A' x.f1.length c') ∧ Aside0 (Kd.R (Kd.int .i64) 3 w' w.heap.size (fun k_ => some k_ = (.slice A' (x.f1.length + 1) c' : Value).ownBlock) (.slice A' (x.f1.length + 1) c') (x.f1 ++ [-7171]) ∧ Kd.R kRx 55 w' w.heap.size (fun _ => True) u3 (mk1 (l.take k)) ∧ Below w.heap.size w w') ∧ w'.cell? (ad.add (k * 2)) = some (.int .i64 x.f0) := by
     refine (LentInts_m A c x.f1 wr h3 hxk).mono ?_
     rintro e w' ⟨A', c', rfl, h⟩
     exact ⟨A', c', rfl, ⟨Kd.R_lower (Kd.R_tight rfl h.out.1) (below_size tr.out.2), Kd.R_below tr.out.1 h.out.2, tr.out.2.trans (h.out.2.mono (below_size tr.out.2))⟩, (h.out.2.cell (World.block_lt_of_cell? wr _ h0)).trans h0⟩
    have HC := Aside0.mk hcall
    have HN := Aside0.mk hnx
    clear hcall h2 h3 q0 hxk hnx
    go_wp2_with (first
     | (go_at_call 19; (with_reducible refine HC.out.mono ?_); rintro e w6 ⟨A', c', rfl, t6, e0⟩)
     | ((with_reducible refine gate_builtin (b := .append) (xs := #[.tmp 18, .tmp 26]) rfl ?_); at_builtin; refine Kd.R_append kRx (w0 := w) w.heap.size rfl (.tmp 18) (.tmp 26) 27 55 (.agg #[(.int .i64 0), (.slice none 0 0)]) 32 rfl Tryd.underlying27 info55 rfl (by decide) (by omega) u3 (mk1 (l.take k)) (x, true) [.int .i64 x.f0, .slice A' x.f1.length c'] (fun _ => True) (fun k_ => some k_ = (.slice A' (x.f1.length + 1) c' : Value).ownBlock) rfl rfl ?aP ?aA ?aF ?aO ?aB ?aS ?aL ?_; (case aP => exact ⟨[.int .i64 x.f0], [.slice A' x.f1.length c'], rfl, rfl, A', c', rfl, t6.out.1⟩); (case aA => exact (fun k_ hk_ => ⟨trivial, ((Kd.R_apart' t6.out.1 (Kd.R_typed t6.out.2.1) (by decide)).1 k_ hk_.symm).2⟩)); (case aB => exact t6.out.2.2); (case aF => exact (fun _ _ => trivial)); (case aO => exact t6.out.2.1); (case aS => exact (below_size t6.out.2.2)); (case aL => have := HL.out; simp only [mk1_length, List.length_take]; omega); intro v8 w8 ho hb hg hat; rw [← HN.out] at ho; have n0_ := Aside0.mk hb; have n1_ := Aside0.mk ho; clear ho hb hg hat))
    go_roundw
    case measure => simp [intOf]; omega
    case rel => exact ⟨k + 1, by omega, rfl, ⟨n1_.out, n0_.out⟩⟩
  · have hkn : k = l.length := by omega
    subst hkn
    have h1 : Kd.R kRx 55 wr w.heap.size (fun _ => True) u3 (mk1 l) := by have := tr.out.1; rwa [List.take_length] at this
    obtain ⟨y2, hy2⟩ : ∃ y_, y_ = mk1 l ++ [((⟨-7171, []⟩ : S55), false)] := ⟨_, rfl⟩
    have q9 : ((l.length : Int)) ≤ ((y2.length : Int)) := by rw [hy2]; simp [mk1_length]; omega
    have hy3 : y2.length = l.length + 1 := by rw [hy2]; simp [mk1_length]
    have N2 := Aside0.mk hy2
    have N3 := Aside0.mk hy3
    have Q9 := Aside0.mk q9
    have H1 := Aside0.mk h1
    clear hy2 hy3 q9 h1
    go_wp2_with (first
     | ((with_reducible refine gate_builtin (b := .append) (xs := #[.tmp 28, .tmp 30]) rfl ?_); at_builtin; refine Kd.R_append kRx (w0 := w) w.heap.size rfl (.tmp 28) (.tmp 30) 27 55 (.agg #[(.int .i64 0), (.slice none 0 0)]) 32 rfl Tryd.underlying27 info55 rfl (by decide) (by omega) u3 (mk1 l) ((⟨-7171, []⟩ : S55), false) [.int .i64 (-7171), .slice none 0 0] (fun _ => True) (fun _ => False) rfl rfl ?aP (fun k_ hk_ => hk_.elim) ?aF ?aO ?aB ?aS ?aL ?_; (case aP => exact ⟨[.int .i64 (-7171)], [.slice none 0 0], rfl, rfl, none, 0, rfl, Kd.R_nil _ _ _ _ _⟩); (case aB => exact tr.out.2); (case aF => exact (fun _ _ => trivial)); (case aO => exact H1.out); (case aS => exact (below_size tr.out.2)); (case aL => have := HL.out; simp only [mk1_length]; omega); intro v2 w2 ho hb hg hat; rw [← N2.out] at ho; have n0_ := Aside0.mk hb; have n1_ := Aside0.mk ho; clear ho hb hg hat; obtain ⟨Ao, co, eo⟩ := Kd.R_slice n1_.out; subst eo; obtain ⟨i0, hi0, _, hsz0, _⟩ := info_parts info55; have hcut := cut_to (P := Tryd.prog) 27 55 .i64 Tryd.underlying27 hi0 Ao y2.length co (l.length : Int) (by omega) Q9.out (Kd.R_reads' n1_.out).2.1; clear hi0 hsz0))
    go_ret
    refine ⟨Ao, co, rfl, ⟨?_, n0_.out⟩⟩
    have h := n1_.out
    rw [N3.out] at h
    rw [← N2.out]
    exact h
end Go.Proofs.YtaeaookonhaliaaDoor.B
/- kit.Kept..: what was lent is as it was. -/
namespace Go.Proofs.YtaeaookonhaliaaDoor.B
open Go.RowKit YtaeaookonhaliaaDoorW.PrintWords YtaeaookonhaliaaDoorW.PrintLast YtaeaookonhaliaaDoorW.PrintMore

theorem cut_cap {P : Program} (t e : TypeId) (kh : IntKind) {i : TypeInfo} (ht : P.underlying t = some (.slice e)) (hi : P.info? e = some i) (A : Option Addr) (n c : Nat) (j : Int) (h0 : 0 ≤ j) (hm : j ≤ c) :
 ∀ W : World, (Instr.slice t (.slice A n c) none (some (.int kh j)) none).run P W = .ok (.slice A j.toNat c) W := by
 intro W
 have hel : P.elem t = e := by simp [Program.elem, ht]
 have hu : P.underlying t = some (.slice (P.elem t)) := by rw [hel]; exact ht
 have ha : (A.map fun x => x.add 0) = A := by cases A <;> simp [Addr.add]
 rw [run_slice_h W t A n c hu kh j h0 hm, hel]
 simp [sizeOf, typeInfo, hi, sliced, Result.andThen, ha]

set_option maxHeartbeats 2000000 in
set_option maxRecDepth 100000 in
theorem KeptInts_yes (A : Option Addr) (c : Nat) (A' : Option Addr) (c' : Nat) (l : List Int) (w : World) (hc : l.length + 1 ≤ c) (hr : Kd.C (Kd.int .i64) w A (l.length + 1) (l ++ [-7171])) (hc' : l.length ≤ c') (hr' : Kd.C (Kd.int .i64) w A' l.length l) :
 Calls Tryd.prog 22 #[.slice A l.length c, .slice A' l.length c'] w fun e w' => e = .returned (.bool true) ∧ Below w.heap.size w w' := by
 have hm := C_max hr'
 have hm1 := C_max hr
 have hm2 : l.length + 1 ≤ 9223372036854775807 := hm1
 have hf := KInts_f l l (l.length + 1) hm (by omega)
 rw [decide_eq_true (rfl : l = l)] at hf
 obtain ⟨ad, rfl, hx⟩ := Kd.at_int hr ((l.length : Nat) : Int) (by omega) (by omega)
 have hmk : w.cell? (ad.add l.length) = some (.int .i64 (-7171)) := by
  rw [Int.toNat_natCast] at hx
  rw [hx]
  simp [rd, List.getD_eq_getElem?_getD]
 have hcall : Calls Tryd.prog 9 #[.slice (some ad) l.length c, .slice A' l.length c'] w fun e w' => e = .returned (.bool true) ∧ Aside0 (Below w.heap.size w w') ∧ w'.cell? (ad.add l.length) = some (.int .i64 (-7171)) := by
  refine (dovetailkit_Ints.calls (l.length + 1) (some ad) c l A' c' l true w (C_pre hr) (by omega) hr' hc' hf).mono ?_
  rintro e w' ⟨he, hb⟩
  have hb' : Below w.heap.size w w' := by first | exact hb | exact hb.below
  exact ⟨he, ⟨hb'⟩, (hb'.cell (World.block_lt_of_cell? w _ hmk)).trans hmk⟩
 obtain ⟨i0, hi0, _, _, _⟩ := info_parts info3
 have hcut : ∀ W : World, (Instr.slice 22 (.slice (some ad) l.length c) none (some (.int .i64 ((l.length : Int) + 1))) none).run Tryd.prog W = .ok (.slice (some ad) (l.length + 1) c) W := fun W => by
  have := cut_cap (P := Tryd.prog) 22 3 .i64 Tryd.underlying22 hi0 (some ad) l.length c ((l.length : Int) + 1) (by omega) (by omega) W
  rwa [show ((l.length : Int) + 1).toNat = l.length + 1 from by omega] at this
 have HC := Aside0.mk hcall
 clear hcall hr hr' hx hf hmk hi0 hm1
 go_enter Tryd.func22, Tryd.ntmps22
 go_wp2_with (go_at_call 9; (with_reducible refine HC.out.mono ?_); rintro e w1 ⟨rfl, hb, f0⟩)
 go_ret
 exact ⟨rfl, hb.out⟩

set_option maxHeartbeats 2000000 in
set_option maxRecDepth 100000 in
theorem KeptStrings_yes (A : Option Addr) (c : Nat) (A' : Option Addr) (c' : Nat) (l : List ByteArray) (w : World) (hc : l.length + 1 ≤ c) (hr : Kd.C Kd.string w A (l.length + 1) (l ++ [(⟨#[109, 97, 114, 107]⟩ : ByteArray)])) (hc' : l.length ≤ c') (hr' : Kd.C Kd.string w A' l.length l) :
 Calls Tryd.prog 37 #[.slice A l.length c, .slice A' l.length c'] w fun e w' => e = .returned (.bool true) ∧ Below w.heap.size w w' := by
 have hm := C_max hr'
 have hm1 := C_max hr
 have hm2 : l.length + 1 ≤ 9223372036854775807 := hm1
 have hf := KStrings_f l l (l.length + 1) hm (by omega)
 rw [decide_eq_true (rfl : l = l)] at hf
 obtain ⟨ad, rfl, hx⟩ := Kd.at_string hr ((l.length : Nat) : Int) (by omega) (by omega)
 have hmk : w.cell? (ad.add l.length) = some (.string ⟨#[109, 97, 114, 107]⟩) := by
  rw [Int.toNat_natCast] at hx
  rw [hx]
  simp [rdOf, List.getD_eq_getElem?_getD]
 have hcall : Calls Tryd.prog 51 #[.slice (some ad) l.length c, .slice A' l.length c'] w fun e w' => e = .returned (.bool true) ∧ Aside0 (Below w.heap.size w w') ∧ w'.cell? (ad.add l.length) = some (.string ⟨#[109, 97, 114, 107]⟩) := by
  refine (dovetailkit_Strings.calls (l.length + 1) (some ad) c l A' c' l true w (C_pre hr) (by omega) hr' hc' hf).mono ?_
  rintro e w' ⟨he, hb⟩
  have hb' : Below w.heap.size w w' := by first | exact hb | exact hb.below
  exact ⟨he, ⟨hb'⟩, (hb'.cell (World.block_lt_of_cell? w _ hmk)).trans hmk⟩
 obtain ⟨i0, hi0, _, _, _⟩ := info_parts info9
 have hcut : ∀ W : World, (Instr.slice 26 (.slice (some ad) l.length c) none (some (.int .i64 ((l.length : Int) + 1))) none).run Tryd.prog W = .ok (.slice (some ad) (l.length + 1) c) W := fun W => by
  have := cut_cap (P := Tryd.prog) 26 9 .i64 Tryd.underlying26 hi0 (some ad) l.length c ((l.length : Int) + 1) (by omega) (by omega) W
  rwa [show ((l.length : Int) + 1).toNat = l.length + 1 from by omega] at this
 have HC := Aside0.mk hcall
 clear hcall hr hr' hx hf hmk hi0 hm1
 go_enter Tryd.func37, Tryd.ntmps37
 go_wp2_with (go_at_call 51; (with_reducible refine HC.out.mono ?_); rintro e w1 ⟨rfl, hb, f0⟩)
 go_ret
 exact ⟨rfl, hb.out⟩

theorem MR.addr {w : World} {A : Option Addr} {c : Nat} {l : List S55} (h : MR w A c l) : ∃ ad, A = some ad := by
 obtain ⟨ad, e, _⟩ := h.2.2.2 (by omega)
 exact ⟨ad, e⟩
theorem MR.cells {w : World} {ad : Addr} {c : Nat} {l : List S55} (h : MR w (some ad) c l) (i : Nat) (hi : i < l.length) : ∃ A1 c1, w.cell? (ad.add (i * 2)) = some (.int .i64 l[i].f0) ∧ w.cell? ⟨(ad.add (i * 2)).block, (ad.add (i * 2)).off + 1, none⟩ = some (.slice A1 l[i].f1.length c1) ∧ l[i].f1.length + 1 ≤ c1 ∧ Kd.C (Kd.int .i64) w A1 (l[i].f1.length + 1) (l[i].f1 ++ [-7171]) := by
 obtain ⟨ad', e, hc⟩ := h.2.2.2 (by omega)
 obtain rfl := Option.some.inj e
 obtain ⟨cs, h1, h2, h3⟩ := hc i (l[i], true) (by rw [List.getElem?_append_left (by rw [mk1_length]; exact hi)]; simp [mk1, List.getElem?_eq_getElem hi])
 obtain ⟨a, b, rfl, q1, A1, c1, rfl, q2⟩ := h2
 have q1' : a = [.int .i64 l[i].f0] := q1
 subst q1'
 refine ⟨A1, c1, h3 0 _ rfl, ?_, q2.1, q2.2⟩
 rw [← add_field _ _ 1 (by omega)]
 exact h3 1 _ rfl
theorem MR.mark {w : World} {ad : Addr} {c : Nat} {l : List S55} (h : MR w (some ad) c l) : w.cell? (ad.add (l.length * 2)) = some (.int .i64 (-7171)) := by
 obtain ⟨ad', e, hc⟩ := h.2.2.2 (by omega)
 obtain rfl := Option.some.inj e
 obtain ⟨cs, h1, h2, h3⟩ := hc l.length (⟨-7171, []⟩, false) (by rw [List.getElem?_append_right (by rw [mk1_length]; exact Nat.le_refl _), mk1_length, Nat.sub_self]; rfl)
 obtain ⟨a, b, rfl, q1, _⟩ := h2
 have q1' : a = [.int .i64 (-7171)] := q1
 subst q1'
 exact h3 0 _ rfl
set_option maxHeartbeats 4000000 in
set_option maxRecDepth 100000 in
theorem KeptRules_yes (A : Option Addr) (c : Nat) (A' : Option Addr) (c' : Nat) (l : List S55) (w : World) (hr : MR w A c l) (hc' : l.length ≤ c') (hr' : Kd.C k55 w A' l.length l) :
 Calls Tryd.prog 38 #[.slice A l.length c, .slice A' l.length c'] w fun e w' => e = .returned (.bool true) ∧ Below w.heap.size w w' := by
 have hm := C_max hr'
 have hm1 := C_max hr.2
 have hm2 : l.length + 1 ≤ 9223372036854775807 := hm1
 have hc := hr.1
 obtain ⟨ad, rfl⟩ := hr.addr
 have hmk := hr.mark
 obtain ⟨i0, hi0, _, _, _⟩ := info_parts info55
 have hcut : ∀ W : World, (Instr.slice 27 (.slice (some ad) l.length c) none (some (.int .i64 ((l.length : Int) + 1))) none).run Tryd.prog W = .ok (.slice (some ad) (l.length + 1) c) W := fun W => by
  have := cut_cap (P := Tryd.prog) 27 55 .i64 Tryd.underlying27 hi0 (some ad) l.length c ((l.length : Int) + 1) (by omega) (by omega) W
  rwa [show ((l.length : Int) + 1).toNat = l.length + 1 from by omega] at this
 have HR := Aside0.mk hr
 have HR' := Aside0.mk hr'
 clear hr hr' hi0 hm1
 go_enter Tryd.func38, Tryd.ntmps38
 go_wp2_with fail
 clear hcut hmk
 go_loopw [5] (fun i wr => ∃ k : Nat, k ≤ l.length ∧ i = .int .i64 k ∧ Aside0 (Below w.heap.size w wr)) (fun i _ => l.length - (intOf i).toNat)
 case atStart => exact ⟨0, Nat.zero_le _, rfl, ⟨Below.refl _ w⟩⟩
 case round =>
  obtain ⟨k, hk, rfl, tr⟩ := hrel
  by_cases hlt : k < l.length
  · obtain ⟨A1, c1, g0, g1, g2, g3⟩ := (HR.out.below tr.out).cells k hlt
    obtain ⟨ad', A2, c2, rfl, h0, h1, h2, h3⟩ := at_T55 (Kd.C_below HR'.out tr.out) (k : Int) (by omega) (by omega)
    have q0 : rd_T55 l (k : Int) = l[k] := by simp [rd_T55, List.getD_eq_getElem?_getD, List.getElem?_eq_getElem hlt]
    rw [Int.toNat_natCast] at h0 h1
    rw [q0] at h0 h1 h2 h3
    have hcall : ∀ W, Below wr.heap.size wr W → Calls Tryd.prog 22 #[.slice A1 l[k].f1.length c1, .slice A2 l[k].f1.length c2] W fun e w' => e = .returned (.bool true) ∧ Aside0 (Below w.heap.size w w') := by
     intro W hW
     refine (KeptInts_yes A1 c1 A2 c2 l[k].f1 W g2 (Kd.C_below g3 hW) h2 (Kd.C_below h3 hW)).mono ?_
     rintro e w' ⟨he, hb⟩
     exact ⟨he, ⟨(tr.out.trans (hW.mono (below_size tr.out))).trans (hb.mono (Nat.le_trans (below_size tr.out) hW.size))⟩⟩
    generalize l[k] = x at g0 g1 h0 h1 hcall
    have HC := Aside0.mk hcall
    clear hcall g2 g3 h2 h3 q0
    go_wp2_with fail
    go_still_tail 22, (by kernel_rfl)
    change wpList _ _ _ _ _ wr.drew
    go_wp2_with (go_at_call 22; (with_reducible refine (HC.out _ (Below.refl _ wr).drew).mono ?_); rintro e w6 ⟨rfl, t6⟩)
    go_roundw
    case measure => simp [intOf]; omega
    case rel => exact ⟨k + 1, by omega, rfl, t6⟩
  · have hkn : k = l.length := by omega
    subst hkn
    go_wp2_with fail
    go_ret
    exact ⟨rfl, tr.out⟩
end Go.Proofs.YtaeaookonhaliaaDoor.B
/- kit.LentGrammar, kit.KeptGrammar. -/
namespace Go.Proofs.YtaeaookonhaliaaDoor.B
open Go.RowKit YtaeaookonhaliaaDoorW.PrintWords YtaeaookonhaliaaDoorW.PrintLast YtaeaookonhaliaaDoorW.PrintMore

structure MG (w : World) (A0 : Option Addr) (c0 : Nat) (l0 : List ByteArray) (A1 : Option Addr) (c1 : Nat) (l1 : List ByteArray) (A3 : Option Addr) (c3 : Nat) (l3 : List S55) : Prop where
 h0 : l0.length + 1 ≤ c0
 r0 : Kd.C Kd.string w A0 (l0.length + 1) (l0 ++ [(⟨#[109, 97, 114, 107]⟩ : ByteArray)])
 h1 : l1.length + 1 ≤ c1
 r1 : Kd.C Kd.string w A1 (l1.length + 1) (l1 ++ [(⟨#[109, 97, 114, 107]⟩ : ByteArray)])
 r3 : MR w A3 c3 l3
theorem MG.below {w w' : World} {A0 A1 A3 : Option Addr} {c0 c1 c3 : Nat} {l0 l1 : List ByteArray} {l3 : List S55} (h : MG w A0 c0 l0 A1 c1 l1 A3 c3 l3) (hb : Below w.heap.size w w') : MG w' A0 c0 l0 A1 c1 l1 A3 c3 l3 :=
 ⟨h.h0, Kd.C_below h.r0 hb, h.h1, Kd.C_below h.r1 hb, h.r3.below hb⟩
def GG (w : World) (cs cs' : Array Value) (W : World) : Prop := Below w.heap.size w W ∧ Box w.heap.size cs 29 W ∧ Box (w.heap.size + 1) cs' 29 W
theorem GG.low {w : World} {cs cs' : Array Value} {W : World} (h : GG w cs cs' W) : Below w.heap.size w W := h.1
theorem GG.start (w : World) (cs cs' : Array Value) : GG w cs cs' ((w.alloc (.cells cs 29)).alloc (.cells cs' 29)) :=
 ⟨((Below.refl _ w).alloc (Nat.le_refl _) _).alloc (by simp) _, (Box.new w _ _).alloc _, by have := Box.new (w.alloc (.cells cs 29)) cs' 29; simpa using this⟩
theorem GG.more {w : World} {cs cs' : Array Value} {W W' : World} (h : GG w cs cs' W) (hb : Below W.heap.size W W') : GG w cs cs' W' := ⟨h.1.trans (hb.mono h.1.size), h.2.1.below hb, h.2.2.below hb⟩
theorem GG.two {w : World} {cs cs' : Array Value} {W : World} (h : GG w cs cs' W) : w.heap.size + 2 ≤ W.heap.size := by
 have h2 : W.heap[w.heap.size + 1]? = some (.cells cs' 29 (0, 0)) := h.2.2
 rcases Nat.lt_or_ge (w.heap.size + 1) W.heap.size with h1 | h1
 · exact h1
 · rw [Array.getElem?_eq_none h1] at h2; cases h2
theorem GG.cells {w : World} {v0 v1 v2 v3 u0 u1 u2 u3 : Value} {W : World} (h : GG w #[v0, v1, v2, v3] #[u0, u1, u2, u3] W) : (W.cell? ⟨w.heap.size, 0, none⟩ = some v0 ∧ W.cell? ⟨w.heap.size, 1, none⟩ = some v1 ∧ W.cell? ⟨w.heap.size, 2, none⟩ = some v2 ∧ W.cell? ⟨w.heap.size, 3, none⟩ = some v3) ∧
 W.cell? ⟨w.heap.size + 1, 0, none⟩ = some u0 ∧ W.cell? ⟨w.heap.size + 1, 1, none⟩ = some u1 ∧ W.cell? ⟨w.heap.size + 1, 2, none⟩ = some u2 ∧ W.cell? ⟨w.heap.size + 1, 3, none⟩ = some u3 :=
 ⟨⟨h.2.1.cell 0 _ rfl, h.2.1.cell 1 _ rfl, h.2.1.cell 2 _ rfl, h.2.1.cell 3 _ rfl⟩, h.2.2.cell 0 _ rfl, h.2.2.cell 1 _ rfl, h.2.2.cell 2 _ rfl, h.2.2.cell 3 _ rfl⟩
set_option maxHeartbeats 4000000 in
set_option maxRecDepth 100000 in
theorem KeptGrammar_yes (B0 : Option Addr) (d0 : Nat) (B1 : Option Addr) (d1 : Nat) (B3 : Option Addr) (d3 : Nat) (A0 : Option Addr) (c0 : Nat) (l0 : List ByteArray) (A1 : Option Addr) (c1 : Nat) (l1 : List ByteArray) (a2 : Int) (A3 : Option Addr) (c3 : Nat) (l3 : List S55) (w : World) (hm : MG w B0 d0 l0 B1 d1 l1 B3 d3 l3) (hr0 : Kd.C Kd.string w A0 l0.length l0) (hc0 : l0.length ≤ c0) (hr1 : Kd.C Kd.string w A1 l1.length l1) (hc1 : l1.length ≤ c1) (hr3 : Kd.C k55 w A3 l3.length l3) (hc3 : l3.length ≤ c3) :
 Calls Tryd.prog 18 #[.agg #[.slice B0 l0.length d0, .slice B1 l1.length d1, .int .i64 a2, .slice B3 l3.length d3], .agg #[.slice A0 l0.length c0, .slice A1 l1.length c1, .int .i64 a2, .slice A3 l3.length c3]] w fun e w' => e = .returned (.bool true) ∧ Below w.heap.size w w' := by
 obtain ⟨cs, hcs⟩ : ∃ cs : Array Value, cs = #[.slice B0 l0.length d0, .slice B1 l1.length d1, .int .i64 a2, .slice B3 l3.length d3] := ⟨_, rfl⟩
 obtain ⟨cs', hcs'⟩ : ∃ cs : Array Value, cs = #[.slice A0 l0.length c0, .slice A1 l1.length c1, .int .i64 a2, .slice A3 l3.length c3] := ⟨_, rfl⟩
 have CE : ∀ W, GG w cs cs' W → (W.cell? ⟨w.heap.size, 0, none⟩ = some (.slice B0 l0.length d0) ∧ W.cell? ⟨w.heap.size, 1, none⟩ = some (.slice B1 l1.length d1) ∧ W.cell? ⟨w.heap.size, 2, none⟩ = some (.int .i64 a2) ∧ W.cell? ⟨w.heap.size, 3, none⟩ = some (.slice B3 l3.length d3)) ∧ W.cell? ⟨w.heap.size + 1, 0, none⟩ = some (.slice A0 l0.length c0) ∧ W.cell? ⟨w.heap.size + 1, 1, none⟩ = some (.slice A1 l1.length c1) ∧ W.cell? ⟨w.heap.size + 1, 2, none⟩ = some (.int .i64 a2) ∧ W.cell? ⟨w.heap.size + 1, 3, none⟩ = some (.slice A3 l3.length c3) := by
  intro W hW; subst hcs hcs'; exact hW.cells
 have st : GG w cs cs' ((w.alloc (.cells #[.slice B0 l0.length d0, .slice B1 l1.length d1, .int .i64 a2, .slice B3 l3.length d3] 29)).alloc (.cells #[.slice A0 l0.length c0, .slice A1 l1.length c1, .int .i64 a2, .slice A3 l3.length c3] 29)) := by subst hcs hcs'; exact GG.start w _ _
 have k0 : ∀ W, Below w.heap.size w W → Calls Tryd.prog 37 #[.slice B0 l0.length d0, .slice A0 l0.length c0] W fun e w' => e = .returned (.bool true) ∧ Aside0 (Below W.heap.size W w') := fun W hW => (KeptStrings_yes B0 d0 A0 c0 l0 W hm.h0 (Kd.C_below hm.r0 hW) hc0 (Kd.C_below hr0 hW)).mono fun _ _ h => ⟨h.1, ⟨h.2⟩⟩
 have k1 : ∀ W, Below w.heap.size w W → Calls Tryd.prog 37 #[.slice B1 l1.length d1, .slice A1 l1.length c1] W fun e w' => e = .returned (.bool true) ∧ Aside0 (Below W.heap.size W w') := fun W hW => (KeptStrings_yes B1 d1 A1 c1 l1 W hm.h1 (Kd.C_below hm.r1 hW) hc1 (Kd.C_below hr1 hW)).mono fun _ _ h => ⟨h.1, ⟨h.2⟩⟩
 have k3 : ∀ W, Below w.heap.size w W → Calls Tryd.prog 38 #[.slice B3 l3.length d3, .slice A3 l3.length c3] W fun e w' => e = .returned (.bool true) ∧ Aside0 (Below W.heap.size W w') := fun W hW => (KeptRules_yes B3 d3 A3 c3 l3 W (hm.r3.below hW) hc3 (Kd.C_below hr3 hW)).mono fun _ _ h => ⟨h.1, ⟨h.2⟩⟩
 have CE' := Aside0.mk CE
 have ST := Aside0.mk st
 have K0 := Aside0.mk k0
 have K1 := Aside0.mk k1
 have K3 := Aside0.mk k3
 have HCS := Lib.hid hcs
 have HCS' := Lib.hid hcs'
 clear CE st k0 k1 k3 hm hr0 hr1 hr3 hcs hcs'
 go_enter Tryd.func18, Tryd.ntmps18
 go_wp2_with (first
  | (go_at_call 37; (with_reducible refine (K0.out _ ST.out.low).mono ?_); rintro e w1 ⟨rfl, b1⟩; have t1 := Aside0.mk (ST.out.more b1.out); clear b1; obtain ⟨⟨f0, f1, f2, f3⟩, g0, g1, g2, g3⟩ := CE'.out _ t1.out)
  | (go_at_call 37; (with_reducible refine (K1.out _ t1.out.low).mono ?_); rintro e w2 ⟨rfl, b2⟩; have t2 := Aside0.mk (t1.out.more b2.out); clear b2 f0 f1 f2 f3 g0 g1 g2 g3; obtain ⟨⟨f0, f1, f2, f3⟩, g0, g1, g2, g3⟩ := CE'.out _ t2.out)
  | (go_at_call 38; (with_reducible refine (K3.out _ t2.out.low).mono ?_); rintro e w3 ⟨rfl, b3⟩; have t3 := Aside0.mk (t2.out.more b3.out); clear b3))
 go_ret
 exact ⟨rfl, t3.out.low⟩
set_option maxHeartbeats 8000000 in
set_option maxRecDepth 100000 in
theorem LentGrammar_m (A0 : Option Addr) (c0 : Nat) (l0 : List ByteArray) (A1 : Option Addr) (c1 : Nat) (l1 : List ByteArray) (a2 : Int) (A3 : Option Addr) (c3 : Nat) (l3 : List S55) (w : World) (hr0 : Kd.C Kd.string w A0 l0.length l0) (hr1 : Kd.C Kd.string w A1 l1.length l1) (hr3 : Kd.C k55 w A3 l3.length l3)
 (b0 : l0.length < 8796093022207) (b1 : l1.length < 8796093022207) (b3 : l3.length < 4398046511104) (bx : ∀ x ∈ l3, x.f1.length < 17592186044415) :
 Calls Tryd.prog 11 #[.agg #[.slice A0 l0.length c0, .slice A1 l1.length c1, .int .i64 a2, .slice A3 l3.length c3]] w fun e w' => ∃ B0 d0 B1 d1 B3 d3, e = .returned (.agg #[.slice B0 l0.length d0, .slice B1 l1.length d1, .int .i64 a2, .slice B3 l3.length d3]) ∧ Aside0 (MG w' B0 d0 l0 B1 d1 l1 B3 d3 l3 ∧ Below w.heap.size w w') := by
 obtain ⟨cs, hcs⟩ : ∃ cs : Array Value, cs = #[.slice A0 l0.length c0, .slice A1 l1.length c1, .int .i64 a2, .slice A3 l3.length c3] := ⟨_, rfl⟩
 obtain ⟨cs', hcs'⟩ : ∃ cs : Array Value, cs = #[.slice none 0 0, .slice none 0 0, .int .i64 0, .slice none 0 0] := ⟨_, rfl⟩
 have CE : ∀ W, GG w cs cs' W → W.cell? ⟨w.heap.size, 0, none⟩ = some (.slice A0 l0.length c0) ∧ W.cell? ⟨w.heap.size, 1, none⟩ = some (.slice A1 l1.length c1) ∧ W.cell? ⟨w.heap.size, 2, none⟩ = some (.int .i64 a2) ∧ W.cell? ⟨w.heap.size, 3, none⟩ = some (.slice A3 l3.length c3) ∧ W.heap[w.heap.size + 1]? = some (.cells #[.slice none 0 0, .slice none 0 0, .int .i64 0, .slice none 0 0] 29 (0, 0)) := by
  intro W hW; subst hcs hcs'; obtain ⟨⟨h0, h1, h2, h3⟩, _⟩ := hW.cells; exact ⟨h0, h1, h2, h3, hW.2.2⟩
 have st : GG w cs cs' ((w.alloc (.cells #[.slice A0 l0.length c0, .slice A1 l1.length c1, .int .i64 a2, .slice A3 l3.length c3] 29)).alloc (.cells #[.slice none 0 0, .slice none 0 0, .int .i64 0, .slice none 0 0] 29)) := by subst hcs hcs'; exact GG.start w _ _
 have SF : ∀ W', GG w cs cs' W' → (W'.cell? ⟨w.heap.size, 0, none⟩ = some (.slice A0 l0.length c0) ∧ W'.cell? ⟨w.heap.size, 1, none⟩ = some (.slice A1 l1.length c1) ∧ W'.cell? ⟨w.heap.size, 2, none⟩ = some (.int .i64 a2) ∧ W'.cell? ⟨w.heap.size, 3, none⟩ = some (.slice A3 l3.length c3) ∧ W'.cell? ⟨w.heap.size + 1, 0, none⟩ = some (.slice none 0 0) ∧ W'.cell? ⟨w.heap.size + 1, 1, none⟩ = some (.slice none 0 0) ∧ W'.cell? ⟨w.heap.size + 1, 2, none⟩ = some (.int .i64 0) ∧ W'.cell? ⟨w.heap.size + 1, 3, none⟩ = some (.slice none 0 0) ∧ W'.frozen? ⟨w.heap.size + 1, 0, none⟩ = false ∧ W'.frozen? ⟨w.heap.size + 1, 1, none⟩ = false ∧ W'.frozen? ⟨w.heap.size + 1, 2, none⟩ = false ∧ W'.frozen? ⟨w.heap.size + 1, 3, none⟩ = false) := by
  intro W' hW
  obtain ⟨h0, h1, h2, h3, h4⟩ := CE W' hW
  have hb : Box (w.heap.size + 1) #[.slice none 0 0, .slice none 0 0, .int .i64 0, .slice none 0 0] 29 W' := h4
  have hf : ∀ j, W'.frozen? ⟨w.heap.size + 1, j, none⟩ = false := fun j => by unfold World.frozen?; rw [show W'.heap[(⟨w.heap.size + 1, j, none⟩ : Addr).block]? = _ from h4]; rfl
  exact ⟨h0, h1, h2, h3, hb.cell 0 _ rfl, hb.cell 1 _ rfl, hb.cell 2 _ rfl, hb.cell 3 _ rfl, hf 0, hf 1, hf 2, hf 3⟩
 have k0 : ∀ W, GG w cs cs' W → Calls Tryd.prog 30 #[.slice A0 l0.length c0] W fun e W' => (∃ B d, e = .returned (.slice B l0.length d) ∧ Aside0 (Kd.R Kd.string 9 W' w.heap.size (fun k => w.heap.size + 2 ≤ k) (.slice B (l0.length + 1) d) (l0 ++ [(⟨#[109, 97, 114, 107]⟩ : ByteArray)]) ∧ GG w cs cs' W' ∧ Below W.heap.size W W')) ∧ (W'.cell? ⟨w.heap.size, 0, none⟩ = some (.slice A0 l0.length c0) ∧ W'.cell? ⟨w.heap.size, 1, none⟩ = some (.slice A1 l1.length c1) ∧ W'.cell? ⟨w.heap.size, 2, none⟩ = some (.int .i64 a2) ∧ W'.cell? ⟨w.heap.size, 3, none⟩ = some (.slice A3 l3.length c3) ∧ W'.cell? ⟨w.heap.size + 1, 0, none⟩ = some (.slice none 0 0) ∧ W'.cell? ⟨w.heap.size + 1, 1, none⟩ = some (.slice none 0 0) ∧ W'.cell? ⟨w.heap.size + 1, 2, none⟩ = some (.int .i64 0) ∧ W'.cell? ⟨w.heap.size + 1, 3, none⟩ = some (.slice none 0 0) ∧ W'.frozen? ⟨w.heap.size + 1, 0, none⟩ = false ∧ W'.frozen? ⟨w.heap.size + 1, 1, none⟩ = false ∧ W'.frozen? ⟨w.heap.size + 1, 2, none⟩ = false ∧ W'.frozen? ⟨w.heap.size + 1, 3, none⟩ = false) := by
  intro W hW
  refine (LentStrings_m A0 c0 l0 W (Kd.C_below hr0 hW.low) b0).mono ?_
  rintro e w' ⟨B, d, rfl, h⟩
  exact ⟨⟨B, d, rfl, ⟨Kd.R_lower (Kd.R_mono (Kd.R_bound h.out.1) (fun k hk => Nat.le_trans hW.two hk.2.1)) (Nat.le_trans (by omega) hW.two), hW.more h.out.2, h.out.2⟩⟩, SF _ (hW.more h.out.2)⟩
 have k1 : ∀ W, GG w cs cs' W → Calls Tryd.prog 30 #[.slice A1 l1.length c1] W fun e W' => (∃ B d, e = .returned (.slice B l1.length d) ∧ Aside0 (Kd.R Kd.string 9 W' w.heap.size (fun k => w.heap.size + 2 ≤ k) (.slice B (l1.length + 1) d) (l1 ++ [(⟨#[109, 97, 114, 107]⟩ : ByteArray)]) ∧ GG w cs cs' W' ∧ Below W.heap.size W W')) ∧ (W'.cell? ⟨w.heap.size, 0, none⟩ = some (.slice A0 l0.length c0) ∧ W'.cell? ⟨w.heap.size, 1, none⟩ = some (.slice A1 l1.length c1) ∧ W'.cell? ⟨w.heap.size, 2, none⟩ = some (.int .i64 a2) ∧ W'.cell? ⟨w.heap.size, 3, none⟩ = some (.slice A3 l3.length c3) ∧ W'.cell? ⟨w.heap.size + 1, 0, none⟩ = some (.slice none 0 0) ∧ W'.cell? ⟨w.heap.size + 1, 1, none⟩ = some (.slice none 0 0) ∧ W'.cell? ⟨w.heap.size + 1, 2, none⟩ = some (.int .i64 0) ∧ W'.cell? ⟨w.heap.size + 1, 3, none⟩ = some (.slice none 0 0) ∧ W'.frozen? ⟨w.heap.size + 1, 0, none⟩ = false ∧ W'.frozen? ⟨w.heap.size + 1, 1, none⟩ = false ∧ W'.frozen? ⟨w.heap.size + 1, 2, none⟩ = false ∧ W'.frozen? ⟨w.heap.size + 1, 3, none⟩ = false) := by
  intro W hW
  refine (LentStrings_m A1 c1 l1 W (Kd.C_below hr1 hW.low) b1).mono ?_
  rintro e w' ⟨B, d, rfl, h⟩
  exact ⟨⟨B, d, rfl, ⟨Kd.R_lower (Kd.R_mono (Kd.R_bound h.out.1) (fun k hk => Nat.le_trans hW.two hk.2.1)) (Nat.le_trans (by omega) hW.two), hW.more h.out.2, h.out.2⟩⟩, SF _ (hW.more h.out.2)⟩
 have k3 : ∀ W, GG w cs cs' W → Calls Tryd.prog 31 #[.slice A3 l3.length c3] W fun e W' => (∃ B d, e = .returned (.slice B l3.length d) ∧ Aside0 (Kd.R kRx 55 W' w.heap.size (fun k => w.heap.size + 2 ≤ k) (.slice B (l3.length + 1) d) (mk1 l3 ++ [((⟨-7171, []⟩ : S55), false)]) ∧ GG w cs cs' W' ∧ Below W.heap.size W W')) ∧ (W'.cell? ⟨w.heap.size, 0, none⟩ = some (.slice A0 l0.length c0) ∧ W'.cell? ⟨w.heap.size, 1, none⟩ = some (.slice A1 l1.length c1) ∧ W'.cell? ⟨w.heap.size, 2, none⟩ = some (.int .i64 a2) ∧ W'.cell? ⟨w.heap.size, 3, none⟩ = some (.slice A3 l3.length c3) ∧ W'.cell? ⟨w.heap.size + 1, 0, none⟩ = some (.slice none 0 0) ∧ W'.cell? ⟨w.heap.size + 1, 1, none⟩ = some (.slice none 0 0) ∧ W'.cell? ⟨w.heap.size + 1, 2, none⟩ = some (.int .i64 0) ∧ W'.cell? ⟨w.heap.size + 1, 3, none⟩ = some (.slice none 0 0) ∧ W'.frozen? ⟨w.heap.size + 1, 0, none⟩ = false ∧ W'.frozen? ⟨w.heap.size + 1, 1, none⟩ = false ∧ W'.frozen? ⟨w.heap.size + 1, 2, none⟩ = false ∧ W'.frozen? ⟨w.heap.size + 1, 3, none⟩ = false) := by
  intro W hW
  refine (LentRules_m A3 c3 l3 W (Kd.C_below hr3 hW.low) b3 bx).mono ?_
  rintro e w' ⟨B, d, rfl, h⟩
  exact ⟨⟨B, d, rfl, ⟨Kd.R_lower (Kd.R_mono (Kd.R_bound h.out.1) (fun k hk => Nat.le_trans hW.two hk.2.1)) (Nat.le_trans (by omega) hW.two), hW.more h.out.2, h.out.2⟩⟩, SF _ (hW.more h.out.2)⟩
 obtain ⟨f0, f1, f2, f3, f4, f5, f6, f7, f8, f9, f10, f11⟩ := SF _ st
 have ST := Aside0.mk st
 have HCS := Lib.hid hcs
 have HCS' := Lib.hid hcs'
 have K0 := Aside0.mk k0
 have K1 := Aside0.mk k1
 have K3 := Aside0.mk k3
 clear CE st k0 k1 k3 hr0 hr1 hr3 hcs hcs' SF bx
 go_enter Tryd.func11, Tryd.ntmps11
 go_wp2_with fail
 go_region_held3 (fun W' => W'.cell? ⟨w.heap.size, 0, none⟩ = some (.slice A0 l0.length c0) ∧ W'.cell? ⟨w.heap.size, 1, none⟩ = some (.slice A1 l1.length c1) ∧ W'.cell? ⟨w.heap.size, 2, none⟩ = some (.int .i64 a2) ∧ W'.cell? ⟨w.heap.size, 3, none⟩ = some (.slice A3 l3.length c3))
  (go_keep)
  ((first
   | (go_at_call 30; (with_reducible refine (K0.out _ ?_).mono ?_); exact (by first | exact ST.out | exact ST.out.more (Below.refl _ _).drew); rintro e w1 ⟨⟨B0, d0, rfl, t1⟩, g0, g1, g2, g3, g4, g5, g6, g7, g8, g9, g10, g11⟩)
   | (go_at_call 30; (with_reducible refine (K1.out _ t1.out.2.1).mono ?_); rintro e w2 ⟨⟨B1, d1, rfl, t2⟩, g0, g1, g2, g3, g4, g5, g6, g7, g8, g9, g10, g11⟩)
   | (go_at_call 31; (with_reducible refine (K3.out _ t2.out.2.1).mono ?_); rintro e w3 ⟨⟨B3, d3, rfl, t3⟩, g0, g1, g2, g3, g4, g5, g6, g7, g8, g9, g10, g11⟩)))
 go_wp2_with fail
 refine bodyPost_ret (v := .agg #[.slice B0 l0.length d0, .slice B1 l1.length d1, .int .i64 a2, .slice B3 l3.length d3]) (by simp [results, Tryd.results11, go_sem, g4, g5, g6, g7]) rfl ⟨B0, d0, B1, d1, B3, d3, rfl, ⟨?_, ?_⟩⟩
 · have e0 := Kd.R_reads' (Kd.R_far (Kd.R_far (Kd.R_far (Kd.R_far (Kd.R_below (Kd.R_below t1.out.1 t2.out.2.2) t3.out.2.2) (p := ⟨w.heap.size + 1, 0, none⟩) (fun k hk => by dsimp only; omega) (.slice B0 l0.length d0)) (p := ⟨w.heap.size + 1, 1, none⟩) (fun k hk => by dsimp only; omega) (.slice B1 l1.length d1)) (p := ⟨w.heap.size + 1, 2, none⟩) (fun k hk => by dsimp only; omega) (.int .i64 a2)) (p := ⟨w.heap.size + 1, 3, none⟩) (fun k hk => by dsimp only; omega) (.slice B3 l3.length d3))
   have e1 := Kd.R_reads' (Kd.R_far (Kd.R_far (Kd.R_far (Kd.R_far (Kd.R_below t2.out.1 t3.out.2.2) (p := ⟨w.heap.size + 1, 0, none⟩) (fun k hk => by dsimp only; omega) (.slice B0 l0.length d0)) (p := ⟨w.heap.size + 1, 1, none⟩) (fun k hk => by dsimp only; omega) (.slice B1 l1.length d1)) (p := ⟨w.heap.size + 1, 2, none⟩) (fun k hk => by dsimp only; omega) (.int .i64 a2)) (p := ⟨w.heap.size + 1, 3, none⟩) (fun k hk => by dsimp only; omega) (.slice B3 l3.length d3))
   have e3 := MR.of (Kd.R_far (Kd.R_far (Kd.R_far (Kd.R_far t3.out.1 (p := ⟨w.heap.size + 1, 0, none⟩) (fun k hk => by dsimp only; omega) (.slice B0 l0.length d0)) (p := ⟨w.heap.size + 1, 1, none⟩) (fun k hk => by dsimp only; omega) (.slice B1 l1.length d1)) (p := ⟨w.heap.size + 1, 2, none⟩) (fun k hk => by dsimp only; omega) (.int .i64 a2)) (p := ⟨w.heap.size + 1, 3, none⟩) (fun k hk => by dsimp only; omega) (.slice B3 l3.length d3))
   rw [← e0.1] at e0
   rw [← e1.1] at e1
   exact ⟨e0.2.1, e0.2.2, e1.2.1, e1.2.2, e3⟩
 · have hb := t3.out.2.1.low
   exact (((hb.setCell (p := ⟨w.heap.size + 1, 0, none⟩) (by dsimp only; omega) _).setCell (p := ⟨w.heap.size + 1, 1, none⟩) (by dsimp only; omega) _).setCell (p := ⟨w.heap.size + 1, 2, none⟩) (by dsimp only; omega) _).setCell (p := ⟨w.heap.size + 1, 3, none⟩) (by dsimp only; omega) _
end Go.Proofs.YtaeaookonhaliaaDoor.B
/- dovetaillaw06.OpformChecks: what lies while it runs. -/
namespace Go.Proofs.YtaeaookonhaliaaDoor.R6
open Go.RowKit Go.Shelf YtaeaookonhaliaaDoorW.PrintWords YtaeaookonhaliaaDoorW.PrintLast YtaeaookonhaliaaDoorW.PrintMore
open B H F CO
theorem prC_set (L : List (Int × Int)) (i : Nat) (p : Int × Int) (hi : i < L.length) : prC (L.set i p) = ((prC L).set (i * 2) (.int .i64 p.1)).set (i * 2 + 1) (.int .i64 p.2) := by
 apply List.ext_getElem?
 intro j
 have hl : (prC (L.set i p)).length = (prC L).length := by rw [prC_len, prC_len, List.length_set]
 rcases Nat.lt_or_ge j (prC L).length with hj | hj
 · have hj2 : j < L.length * 2 := by rwa [prC_len] at hj
   obtain ⟨q, hq⟩ : ∃ q, q = j / 2 := ⟨_, rfl⟩
   have hqL : q < L.length := by omega
   have h1 := prC_at (L.set i p) q (by rw [List.length_set]; exact hqL)
   have h2 := prC_at L q hqL
   rw [List.getElem_set] at h1
   have hql : q * 2 + 1 < (prC L).length := by rw [prC_len]; omega
   have hcase : j = q * 2 ∨ j = q * 2 + 1 := by omega
   by_cases hqi : i = q
   · subst hqi
     rw [if_pos rfl] at h1
     rcases hcase with e | e
     · rw [e, h1.1, List.getElem?_set_ne (by omega), List.getElem?_set_self (by omega)]
     · rw [e, h1.2, List.getElem?_set_self (by rw [List.length_set]; omega)]
   · rw [if_neg hqi] at h1
     rcases hcase with e | e
     · rw [e, h1.1, List.getElem?_set_ne (by omega), List.getElem?_set_ne (by omega), h2.1]
     · rw [e, h1.2, List.getElem?_set_ne (by omega), List.getElem?_set_ne (by omega), h2.2]
 · rw [List.getElem?_eq_none (by omega), List.getElem?_eq_none (by rw [List.length_set, List.length_set]; exact hj)]
structure LM (w : World) (vl vm vf : Value) (Ll Lm F : List (Int × Int)) (W : World) : Prop where
 low : Below w.heap.size w W
 fl : CutO 43 2 w.heap.size W vl Ll.length (prC Ll)
 fm : CutO 43 2 w.heap.size W vm Lm.length (prC Lm)
 ff : CutO 44 2 w.heap.size W vf F.length (prC F)
 ne : ∀ k, vl.ownBlock = some k → vm.ownBlock ≠ some k
section
variable {w W : World} {vl vm vf : Value} {Ll Lm F : List (Int × Int)}
theorem LM.swap (h : LM w vl vm vf Ll Lm F W) : LM w vm vl vf Lm Ll F W := ⟨h.low, h.fm, h.fl, h.ff, fun k hk e => h.ne k e hk⟩
theorem LM.more {W' : World} (h : LM w vl vm vf Ll Lm F W) (hb : Below W.heap.size W W') : LM w vl vm vf Ll Lm F W' := ⟨h.low.trans (hb.mono h.low.size), h.fl.below hb, h.fm.below hb, h.ff.below hb, h.ne⟩
theorem LM.nef (h : LM w vl vm vf Ll Lm F W) (k : Nat) (hk : vf.ownBlock = some k) : vl.ownBlock ≠ some k := fun e => by
 obtain ⟨_, _, c1, h1⟩ := h.ff.lo k hk
 obtain ⟨_, _, c2, h2⟩ := h.fl.lo k e
 rw [h1] at h2
 have := Option.some.inj h2
 injection this with _ e2
 exact absurd e2 (by decide)
theorem LM.atL (h : LM w vl vm vf Ll Lm F W) (i : Nat) (hi : i < Ll.length) : ∃ g c, vl = .slice (some ⟨g, 0, none⟩) Ll.length c ∧ Ll.length ≤ c ∧ W.cell? ⟨g, i * 2, none⟩ = some (.int .i64 Ll[i].1) ∧ W.cell? ⟨g, i * 2 + 1, none⟩ = some (.int .i64 Ll[i].2) ∧ W.frozen? ⟨g, i * 2, none⟩ = false ∧ W.frozen? ⟨g, i * 2 + 1, none⟩ = false := by
 rcases h.fl.form with ⟨_, h0⟩ | ⟨g, c, cur, e, hc, _⟩
 · omega
 · have h1 := h.fl
   rw [e] at h1
   have h2 := h1.cell (i * 2) (by omega)
   have h3 := h1.cell (i * 2 + 1) (by omega)
   have h4 := prC_at Ll i hi
   exact ⟨g, c, e, hc, h2.1.trans h4.1, h3.1.trans h4.2, h2.2, h3.2⟩
theorem LM.atF (h : LM w vl vm vf Ll Lm F W) (i : Nat) (hi : i < F.length) : ∃ g c, vf = .slice (some ⟨g, 0, none⟩) F.length c ∧ F.length ≤ c ∧ W.cell? ⟨g, i * 2, none⟩ = some (.int .i64 F[i].1) ∧ W.cell? ⟨g, i * 2 + 1, none⟩ = some (.int .i64 F[i].2) := by
 rcases h.ff.form with ⟨_, h0⟩ | ⟨g, c, cur, e, hc, _⟩
 · omega
 · have h1 := h.ff
   rw [e] at h1
   have h2 := h1.cell (i * 2) (by omega)
   have h3 := h1.cell (i * 2 + 1) (by omega)
   have h4 := prC_at F i hi
   exact ⟨g, c, e, hc, h2.1.trans h4.1, h3.1.trans h4.2⟩
theorem LM.setL {g m c : Nat} (h : LM w (.slice (some ⟨g, 0, none⟩) m c) vm vf Ll Lm F W) (i : Nat) (hi : i < Ll.length) (a b : Int) : LM w (.slice (some ⟨g, 0, none⟩) m c) vm vf (Ll.set i (a, b)) Lm F ((W.setCell ⟨g, i * 2, none⟩ (.int .i64 a)).setCell ⟨g, i * 2 + 1, none⟩ (.int .i64 b)) := by
 have hg := (h.fl.lo g rfl).1
 have hsame : ∀ k, k ≠ g → ((W.setCell ⟨g, i * 2, none⟩ (.int .i64 a)).setCell ⟨g, i * 2 + 1, none⟩ (.int .i64 b)).heap[k]? = W.heap[k]? := fun k hk => (Below.heap_setCell _ _ _ _ hk).trans (Below.heap_setCell _ _ _ _ hk)
 refine ⟨(h.low.setCell (p := ⟨g, i * 2, none⟩) hg _).setCell (p := ⟨g, i * 2 + 1, none⟩) hg _, ?_, h.fm.same fun k hk => hsame k (fun e => ?_), h.ff.same fun k hk => hsame k (fun e => ?_), h.ne⟩
 · have := (h.fl.set (i * 2) (.int .i64 a)).set (i * 2 + 1) (.int .i64 b)
   rw [List.length_set, prC_set Ll i (a, b) hi]
   exact this
 · subst e; exact h.ne k rfl hk
 · subst e; exact h.nef k hk rfl
theorem wp_appL {ops : Array Oper} {rest : List Oper} {o : Oper} {a : Act} {Q : Exit → Act → World → Prop} (hgd : o.guard = none) (s x : Operand) (hop : o.op = .call { callee := .builtin .append, args := #[s, x], argTypes := #[36, 36] })
 (h : LM w vl vm vf Ll Lm F W) (hs : a.eval s = vl) (p : Int × Int) (hx : a.eval x = .slice (some ⟨W.heap.size, 0, none⟩) 1 1) (hl : Ll.length ≤ 4000000000000)
 (K : ∀ v' w', LM w v' vm vf (Ll ++ [p]) Lm F w' → wpList Tryd.prog ops Q rest (a.put o.dst v') w') : wpList Tryd.prog ops Q (o :: rest) a (W.alloc (.cells #[.int .i64 p.1, .int .i64 p.2] 43)) := by
 have hlow := h.low.size
 refine wp_CutO (P := Tryd.prog) hgd s x 36 hop Tryd.underlying36 (.agg #[.int .i64 0, .int .i64 0]) 16 infoFt rfl (by decide) (h.fl.alloc _) (by simp; omega) hs ⟨W.heap.size, 0, none⟩ 1 1 [.int .i64 p.1, .int .i64 p.2] hx rfl (fun j u hj => ?_) (by simp [Value.oneCell']) (by decide) (by unfold maxLen; omega) (by omega) ?_
 · rw [add_plain, cell_of_row _ _ _ _ _ _ (World.alloc_heap_new W _)]
   simpa using hj
 · intro l' w' ho hg hat
   have keep : ∀ k, k < W.heap.size → vl.ownBlock ≠ some k → w'.heap[k]? = W.heap[k]? := fun k hk hne => (hg.block k (by simp; omega) (fun e => hne e.symm)).trans (Below.heap_alloc W _ k hk)
   refine K l' w' ⟨(h.low.alloc (by omega) _).grown hg (by simp; omega) (fun k hk => (h.fl.lo k hk).1), ?_, h.fm.same fun k hk => keep k (h.fm.lo k hk).2.1 (fun e => h.ne k e hk), h.ff.same fun k hk => keep k (h.ff.lo k hk).2.1 (h.nef k hk), fun k hk e => ?_⟩
   · rw [List.length_append, List.length_singleton, prC_snoc]; exact .inl ho
   · rcases hat with e1 | ⟨b, e1, hb⟩
     · exact h.ne k (e1 ▸ hk) e
     · rw [e1] at hk
       have := Option.some.inj hk
       have h2 := (h.fm.lo k e).2.1
       simp at hb
       omega
end
def mkL (i : Nat) (F : List (Int × Int)) : List (Int × Int) := List.replicate i (-7, 0) ++ F.drop i
theorem mkL_len (i : Nat) (F : List (Int × Int)) (hi : i ≤ F.length) : (mkL i F).length = F.length := by unfold mkL; rw [List.length_append, List.length_replicate, List.length_drop]; omega
theorem mkL_at (i : Nat) (F : List (Int × Int)) (hi : i < F.length) : (mkL i F)[i]'(by rw [mkL_len i F (by omega)]; exact hi) = F[i] := by
 unfold mkL
 rw [List.getElem_append_right (by simp)]
 simp
theorem mkL_set (i : Nat) (F : List (Int × Int)) (hi : i < F.length) : (mkL i F).set i (-7, 0) = mkL (i + 1) F := by
 unfold mkL
 rw [List.set_append_right _ _ (by simp), List.length_replicate, Nat.sub_self, List.drop_eq_getElem_cons hi, List.set_cons_zero, List.replicate_succ', List.append_assoc]
 rfl
section
variable {w W : World} {Al Am Af : Option Addr} {ml mm mf cl cm cf : Nat} {vl vm vf : Value} {Ll Lm F : List (Int × Int)}
theorem LM.gL (h : LM w (.slice Al ml cl) vm vf Ll Lm F W) (i : Nat) (hi : i < Ll.length) (a b : Int) (hab : Ll[i] = (a, b)) : ∃ g, Al = some ⟨g, 0, none⟩ ∧ W.cell? ⟨g, i * 2, none⟩ = some (.int .i64 a) ∧ W.cell? ⟨g, i * 2 + 1, none⟩ = some (.int .i64 b) ∧ W.frozen? ⟨g, i * 2, none⟩ = false ∧ W.frozen? ⟨g, i * 2 + 1, none⟩ = false := by
 obtain ⟨g, c, e, _, h1, h2, h3, h4⟩ := h.atL i hi
 injection e with e1 e2 e3
 rw [hab] at h1 h2
 exact ⟨g, e1, h1, h2, h3, h4⟩
theorem LM.gM (h : LM w vl (.slice Am mm cm) vf Ll Lm F W) (i : Nat) (hi : i < Lm.length) (a b : Int) (hab : Lm[i] = (a, b)) : ∃ g, Am = some ⟨g, 0, none⟩ ∧ W.cell? ⟨g, i * 2, none⟩ = some (.int .i64 a) ∧ W.cell? ⟨g, i * 2 + 1, none⟩ = some (.int .i64 b) ∧ W.frozen? ⟨g, i * 2, none⟩ = false ∧ W.frozen? ⟨g, i * 2 + 1, none⟩ = false := h.swap.gL i hi a b hab
theorem LM.gF (h : LM w vl vm (.slice Af mf cf) Ll Lm F W) (i : Nat) (hi : i < F.length) (a b : Int) (hab : F[i] = (a, b)) : ∃ g, Af = some ⟨g, 0, none⟩ ∧ W.cell? ⟨g, i * 2, none⟩ = some (.int .i64 a) ∧ W.cell? ⟨g, i * 2 + 1, none⟩ = some (.int .i64 b) := by
 obtain ⟨g, c, e, _, h1, h2⟩ := h.atF i hi
 injection e with e1 e2 e3
 rw [hab] at h1 h2
 exact ⟨g, e1, h1, h2⟩
end
structure CB (w w1 : World) (cs bs : Array Value) (W : World) : Prop where
 low : Below w.heap.size w W
 low1 : Below w1.heap.size w1 W
 gb : Box w.heap.size cs 29 W
 ib : Box w1.heap.size bs 29 W
section
variable {w w1 W W' : World} {cs bs : Array Value}
theorem CB.start (h : GB w cs w1) : CB w w1 cs bs (w1.alloc (.cells bs 29)) :=
 ⟨h.low.alloc h.low.size _, (Below.refl _ _).alloc (Nat.le_refl _) _, h.gb.alloc _, Box.new _ _ _⟩
theorem CB.sz (h : CB w w1 cs bs W) : w.heap.size ≤ W.heap.size ∧ w1.heap.size < W.heap.size := ⟨h.low.size, (Array.getElem?_eq_some_iff.1 h.ib).1⟩
theorem CB.more (h : CB w w1 cs bs W) (hb : Below W.heap.size W W') : CB w w1 cs bs W' := ⟨h.low.trans (hb.mono h.low.size), h.low1.trans (hb.mono h.low1.size), h.gb.below hb, h.ib.below hb⟩
theorem CB.cells {v0 v1 v2 v3 u0 u1 u2 u3 : Value} (h : CB w w1 #[v0, v1, v2, v3] #[u0, u1, u2, u3] W) : W.cell? ⟨w.heap.size, 0, none⟩ = some v0 ∧ W.cell? ⟨w.heap.size, 1, none⟩ = some v1 ∧ W.cell? ⟨w.heap.size, 2, none⟩ = some v2 ∧ W.cell? ⟨w.heap.size, 3, none⟩ = some v3 ∧ W.cell? ⟨w1.heap.size, 0, none⟩ = some u0 ∧ W.cell? ⟨w1.heap.size, 1, none⟩ = some u1 ∧ W.cell? ⟨w1.heap.size, 2, none⟩ = some u2 ∧ W.cell? ⟨w1.heap.size, 3, none⟩ = some u3 :=
 ⟨h.gb.cell 0 _ rfl, h.gb.cell 1 _ rfl, h.gb.cell 2 _ rfl, h.gb.cell 3 _ rfl, h.ib.cell 0 _ rfl, h.ib.cell 1 _ rfl, h.ib.cell 2 _ rfl, h.ib.cell 3 _ rfl⟩
end
structure CS (ad : Int → Addr) (w w1 : World) (cs bs : Array Value) (E : Value) (p : Int × Int) (vl vm vf : Value) (F : List (Int × Int)) (W : World) : Prop where
 cb : CB w w1 cs bs W
 ee : ErrW ad W E p
 lm : LM w vl vm vf F F F W
theorem CS.more {ad : Int → Addr} {w w1 W W' : World} {cs bs : Array Value} {E : Value} {p : Int × Int} {vl vm vf : Value} {F : List (Int × Int)} (h : CS ad w w1 cs bs E p vl vm vf F W) (hb : Below W.heap.size W W') : CS ad w w1 cs bs E p vl vm vf F W' := ⟨h.cb.more hb, h.ee.below hb, h.lm.more hb⟩
end Go.Proofs.YtaeaookonhaliaaDoor.R6
/- dovetaillaw06.OpformChecks: walked. -/
namespace Go.Proofs.YtaeaookonhaliaaDoor.R6
open Go.RowKit Go.Shelf YtaeaookonhaliaaDoorW.PrintWords YtaeaookonhaliaaDoorW.PrintLast YtaeaookonhaliaaDoorW.PrintMore
open B H F CO
theorem CutO.disj {E1 E2 size b1 b2 : Nat} {W : World} {v1 v2 : Value} {n1 n2 : Nat} {c1 c2 : List Value} {W0 : World} (h1 : CutO E1 size b1 W0 v1 n1 c1) (h2 : CutO E2 size b2 W v2 n2 c2) (hb : W0.heap.size ≤ b2) : ∀ k, v1.ownBlock = some k → v2.ownBlock ≠ some k := fun k hk e => by
 have := (h1.lo k hk).2.1
 have := (h2.lo k e).1
 omega
set_option maxRecDepth 100000 in
set_option maxHeartbeats 8000000 in
theorem OpformChecks_calls (ad : Int → Addr) (A0 : Option Addr) (c0 : Nat) (l0 : List ByteArray) (A1 : Option Addr) (c1 : Nat) (l1 : List ByteArray) (a2 : Int) (A3 : Option Addr) (c3 : Nat) (R : List S55) (w : World) (hs : SentsK ad w) (hg : HandleP w) (hr0 : Kd.C Kd.string w A0 l0.length l0) (hc0 : l0.length ≤ c0) (hr1 : Kd.C Kd.string w A1 l1.length l1) (hc1 : l1.length ≤ c1) (hr3 : Kd.C k55 w A3 R.length R) (hc3 : R.length ≤ c3) (hu : l0.length ≤ 1048576 ∧ l1.length ≤ 1048576 ∧ R.length ≤ 1048576 ∧ (∀ a ∈ R, a.f1.length ≤ 1048576) ∧ (∀ a ∈ l0, a.size ≤ 1048576) ∧ ∀ a ∈ l1, a.size ≤ 1048576) :
 Calls Tryd.prog 4 #[.agg #[.slice A0 l0.length c0, .slice A1 l1.length c1, .int .i64 a2, .slice A3 R.length c3]] w fun e w' => e = .returned (.bool true) ∧ Below w.heap.size w w' := by
 obtain ⟨cs, hcs⟩ : ∃ cs : Array Value, cs = #[.slice A0 l0.length c0, .slice A1 l1.length c1, .int .i64 a2, .slice A3 R.length c3] := ⟨_, rfl⟩
 have hm : GM w A0 c0 l0 A1 c1 l1 A3 c3 R := ⟨hr0, hc0, hr1, hc1, hr3, hc3⟩
 have st : GB w cs (w.alloc (.cells #[.slice A0 l0.length c0, .slice A1 l1.length c1, .int .i64 a2, .slice A3 R.length c3] 29)) := by subst hcs; exact GB.start w _
 have CE0 : Aside0 (∀ W, GB w cs W → W.cell? ⟨w.heap.size, 0, none⟩ = some (.slice A0 l0.length c0) ∧ W.cell? ⟨w.heap.size, 1, none⟩ = some (.slice A1 l1.length c1) ∧ W.cell? ⟨w.heap.size, 2, none⟩ = some (.int .i64 a2) ∧ W.cell? ⟨w.heap.size, 3, none⟩ = some (.slice A3 R.length c3)) := ⟨fun W hW => by subst hcs; exact hW.cells⟩
 have bx : ∀ x ∈ R, x.f1.length < 17592186044415 := fun x hx => by have := hu.2.2.2.1 x hx; omega
 have KL : Aside0 (∀ W, GB w cs W → Calls Tryd.prog 11 #[.agg #[.slice A0 l0.length c0, .slice A1 l1.length c1, .int .i64 a2, .slice A3 R.length c3]] W fun e w' => ∃ B0 d0 B1 d1 B3 d3, e = .returned (.agg #[.slice B0 l0.length d0, .slice B1 l1.length d1, .int .i64 a2, .slice B3 R.length d3]) ∧ Aside0 (MG w' B0 d0 l0 B1 d1 l1 B3 d3 R ∧ GB w cs w')) := ⟨fun W hW =>
  (LentGrammar_m A0 c0 l0 A1 c1 l1 a2 A3 c3 R W (hm.below hW.low).r0 (hm.below hW.low).r1 (hm.below hW.low).r3 (by omega) (by omega) (by omega) bx).mono fun e w' ⟨B0, d0, B1, d1, B3, d3, he, h⟩ => ⟨B0, d0, B1, d1, B3, d3, he, ⟨h.out.1, hW.more h.out.2⟩⟩⟩
 have ST := Aside0.mk st
 have HM := Aside0.mk hm
 have HS := Aside0.mk hs
 have HG := Aside0.mk hg
 have HU := Lib.hid hu
 have HCS := Lib.hid hcs
 clear st hm hs hg hu hcs hr0 hr1 hr3 bx
 obtain ⟨f0, f1, f2, f3⟩ := CE0.out _ ST.out
 go_enter Tryd.func4, Tryd.ntmps4
 go_wp2_with (first
  | (go_at_call 11; (with_reducible refine (KL.out _ ST.out).mono ?_); rintro e w1 ⟨B0, d0, B1, d1, B3, d3, rfl, t1⟩)
  | (go_at_call 12; refine Aside0.out ?_))
 refine Aside0.mk ?_
 obtain ⟨hmg, hgb⟩ := t1.out
 obtain ⟨u0, u1, u3, ux, _⟩ := HU.out
 obtain ⟨bs, hbs⟩ : ∃ bs : Array Value, bs = #[.slice B0 l0.length d0, .slice B1 l1.length d1, .int .i64 a2, .slice B3 R.length d3] := ⟨_, rfl⟩
 have cb0 : CB w w1 cs bs (w1.alloc (.cells #[.slice B0 l0.length d0, .slice B1 l1.length d1, .int .i64 a2, .slice B3 R.length d3] 29)) := by subst hbs; exact CB.start hgb
 have CE : Aside0 (∀ W, CB w w1 cs bs W → W.cell? ⟨w.heap.size, 0, none⟩ = some (.slice A0 l0.length c0) ∧ W.cell? ⟨w.heap.size, 1, none⟩ = some (.slice A1 l1.length c1) ∧ W.cell? ⟨w.heap.size, 2, none⟩ = some (.int .i64 a2) ∧ W.cell? ⟨w.heap.size, 3, none⟩ = some (.slice A3 R.length c3) ∧ W.cell? ⟨w1.heap.size, 0, none⟩ = some (.slice B0 l0.length d0) ∧ W.cell? ⟨w1.heap.size, 1, none⟩ = some (.slice B1 l1.length d1) ∧ W.cell? ⟨w1.heap.size, 2, none⟩ = some (.int .i64 a2) ∧ W.cell? ⟨w1.heap.size, 3, none⟩ = some (.slice B3 R.length d3)) := ⟨fun W hW => by
  have hcs := HCS.out
  subst hcs hbs; exact hW.cells⟩
 have hin : GM w1 B0 d0 l0 B1 d1 l1 B3 d3 R := ⟨C_pre hmg.r0, by have := hmg.h0; omega, C_pre hmg.r1, by have := hmg.h1; omega, hmg.r3.reads, by have := hmg.r3.1; omega⟩
 obtain ⟨F, hF⟩ : ∃ F, F = fltG 0 R := ⟨_, rfl⟩
 obtain ⟨n, hn⟩ : ∃ n, n = F.length := ⟨_, rfl⟩
 have hnb : n ≤ 1048576 * 1048577 := by
  have := fltG_len R 0 1048576 ux
  rw [← hF, ← hn] at this
  exact Nat.le_trans this (Nat.mul_le_mul_right _ u3)
 obtain ⟨p, hp⟩ : ∃ p, p = opP l0 l1 a2 R := ⟨_, rfl⟩
 have K1 : Aside0 (∀ W, CB w w1 cs bs W → Calls Tryd.prog 12 #[.agg #[.slice B0 l0.length d0, .slice B1 l1.length d1, .int .i64 a2, .slice B3 R.length d3]] W fun e w' => ∃ E, e = .returned E ∧ Aside0 (CB w w1 cs bs w' ∧ ErrW ad w' E p)) := ⟨fun W hW => by
  have h := hin.below hW.low1
  refine (opCheck_calls ad B0 d0 l0 B1 d1 l1 a2 B3 d3 R W (HS.out.below hW.low) h.r0 h.h0 h.r1 h.h1 h.r3 h.h3).mono ?_
  rintro e w' ⟨E, he, hE, hb⟩
  exact ⟨E, he, ⟨hW.more hb, by rw [hp]; exact hE⟩⟩⟩
 have K2 : Aside0 (∀ W E, (CB w w1 cs bs W ∧ ErrW ad W E p) → Calls Tryd.prog 13 #[.agg #[.slice A0 l0.length c0, .slice A1 l1.length c1, .int .i64 a2, .slice A3 R.length c3]] W fun e w' => e = .returned (.tuple #[.int .i64 p.1, .int .i64 p.2]) ∧ Aside0 (CB w w1 cs bs w' ∧ ErrW ad w' E p)) := ⟨fun W E hW => by
  refine (ref6Check_calls A0 c0 l0 A1 c1 l1 a2 A3 c3 R W (HM.out.below hW.1.low) u3 ux).mono ?_
  rw [← hp]
  rintro e w' ⟨he, hb⟩
  exact ⟨he, ⟨hW.1.more hb, hW.2.below hb⟩⟩⟩
 have K3 : Aside0 (∀ W E, (CB w w1 cs bs W ∧ ErrW ad W E p) → Calls Tryd.prog 14 #[.agg #[.slice B0 l0.length d0, .slice B1 l1.length d1, .int .i64 a2, .slice B3 R.length d3]] W fun e w' => ∃ Al cl, e = .returned (.slice Al n cl) ∧ Aside0 (CB w w1 cs bs w' ∧ ErrW ad w' E p ∧ CutO 43 2 w.heap.size w' (.slice Al n cl) F.length (prC F))) := ⟨fun W E hW => by
  have h := hin.below hW.1.low1
  refine (Faults_calls B0 l0.length d0 B1 l1.length d1 a2 B3 d3 R W h.r3 h.h3 u3 ux).mono ?_
  rintro e w' ⟨v, he, hv, hb⟩
  rw [← hF] at hv
  obtain ⟨Al, cl, rfl, _⟩ := hv.sl
  exact ⟨Al, cl, by rw [hn]; exact he, ⟨hW.1.more hb, hW.2.below hb, by rw [hn]; exact hv.lower hW.1.sz.1⟩⟩⟩
 have K4 : Aside0 (∀ W E Al cl, (CB w w1 cs bs W ∧ ErrW ad W E p ∧ CutO 43 2 w.heap.size W (.slice Al n cl) F.length (prC F)) → Calls Tryd.prog 14 #[.agg #[.slice B0 l0.length d0, .slice B1 l1.length d1, .int .i64 a2, .slice B3 R.length d3]] W fun e w' => ∃ Am cm, e = .returned (.slice Am n cm) ∧ Aside0 (CB w w1 cs bs w' ∧ ErrW ad w' E p ∧ CutO 43 2 w.heap.size w' (.slice Al n cl) F.length (prC F) ∧ CutO 43 2 w.heap.size w' (.slice Am n cm) F.length (prC F) ∧ ∀ k, (Value.slice Al n cl).ownBlock = some k → (Value.slice Am n cm).ownBlock ≠ some k)) := ⟨fun W E Al cl hW => by
  have h := hin.below hW.1.low1
  refine (Faults_calls B0 l0.length d0 B1 l1.length d1 a2 B3 d3 R W h.r3 h.h3 u3 ux).mono ?_
  rintro e w' ⟨v, he, hv, hb⟩
  rw [← hF] at hv
  obtain ⟨Am, cm, rfl, _⟩ := hv.sl
  rw [← hn] at he
  have hv' : CutO 43 2 W.heap.size w' (.slice Am n cm) F.length (prC F) := by rw [hn]; exact hv
  exact ⟨Am, cm, he, ⟨hW.1.more hb, hW.2.1.below hb, hW.2.2.below hb, hv'.lower hW.1.sz.1, CutO.disj hW.2.2 hv' (Nat.le_refl _)⟩⟩⟩
 have K5 : Aside0 (∀ W E Al cl Am cm, (CB w w1 cs bs W ∧ ErrW ad W E p ∧ CutO 43 2 w.heap.size W (.slice Al n cl) F.length (prC F) ∧ CutO 43 2 w.heap.size W (.slice Am n cm) F.length (prC F) ∧ ∀ k, (Value.slice Al n cl).ownBlock = some k → (Value.slice Am n cm).ownBlock ≠ some k) → Calls Tryd.prog 15 #[.agg #[.slice A0 l0.length c0, .slice A1 l1.length c1, .int .i64 a2, .slice A3 R.length c3]] W fun e w' => ∃ Af cf, e = .returned (.slice Af n cf) ∧ Aside0 (CS ad w w1 cs bs E p (.slice Al n cl) (.slice Am n cm) (.slice Af n cf) F w')) := ⟨fun W E Al cl Am cm hW => by
  have h := HM.out.below hW.1.low
  refine (refFaults_calls A0 l0.length c0 A1 l1.length c1 a2 A3 c3 R W h.r3 h.h3 u3 ux).mono ?_
  rintro e w' ⟨v, he, hv, hb⟩
  rw [← hF] at hv
  obtain ⟨Af, cf, rfl, _⟩ := hv.sl
  rw [← hn] at he
  have hv' : CutO 44 2 W.heap.size w' (.slice Af n cf) F.length (prC F) := by rw [hn]; exact hv
  exact ⟨Af, cf, he, ⟨hW.1.more hb, hW.2.1.below hb, (hW.1.more hb).low, hW.2.2.1.below hb, hW.2.2.2.1.below hb, hv'.lower hW.1.sz.1, hW.2.2.2.2⟩⟩⟩
 have K6 : Aside0 (∀ W E vl vm vf, CS ad w w1 cs bs E p vl vm vf F W → Calls Tryd.prog 16 #[E] W fun e w' => e = .returned (.int .i64 p.1) ∧ Aside0 (CS ad w w1 cs bs E p vl vm vf F w')) := ⟨fun W E vl vm vf h => (Kind_w (HS.out.below h.cb.low) h.ee).mono fun e w' ⟨he, hb⟩ => ⟨he, ⟨h.more hb⟩⟩⟩
 have K7 : Aside0 (∀ W E vl vm vf, CS ad w w1 cs bs E p vl vm vf F W → Calls Tryd.prog 17 #[E] W fun e w' => e = .returned (.int .i64 p.2) ∧ Aside0 (CS ad w w1 cs bs E p vl vm vf F w')) := ⟨fun W E vl vm vf h => (Rule_w (HG.out.below h.cb.low) h.ee).mono fun e w' ⟨he, hb⟩ => ⟨he, ⟨h.more hb⟩⟩⟩
 have K8 : Aside0 (∀ W E vl vm vf, CS ad w w1 cs bs E p vl vm vf F W → Calls Tryd.prog 18 #[.agg #[.slice B0 l0.length d0, .slice B1 l1.length d1, .int .i64 a2, .slice B3 R.length d3], .agg #[.slice A0 l0.length c0, .slice A1 l1.length c1, .int .i64 a2, .slice A3 R.length c3]] W fun e w' => e = .returned (.bool true) ∧ Aside0 (LM w vl vm vf F F F w')) := ⟨fun W E vl vm vf h => by
  have h2 := HM.out.below h.cb.low
  refine (KeptGrammar_yes B0 d0 B1 d1 B3 d3 A0 c0 l0 A1 c1 l1 a2 A3 c3 R W (hmg.below h.cb.low1) h2.r0 h2.h0 h2.r1 h2.h1 h2.r3 h2.h3).mono ?_
  rintro e w' ⟨he, hb⟩
  exact ⟨he, ⟨h.lm.more hb⟩⟩⟩
 have CB0 := Aside0.mk cb0
 obtain ⟨p1, p2⟩ := p
 have HN := Lib.hid hn
 clear hmg hgb hbs hin hF hp cb0 u0 u1 u3 ux KL t1 f0 f1 f2 f3 ST hn
 obtain ⟨f0, f1, f2, f3, f4, f5, f6, f7⟩ := CE.out _ CB0.out
 (with_reducible refine (K1.out _ CB0.out).mono ?_)
 rintro e w2 ⟨E, rfl, t2⟩
 obtain ⟨g0, g1, g2, g3, g4, g5, g6, g7⟩ := CE.out _ t2.out.1
 go_wp2_with (first
  | (go_at_call 13; (with_reducible refine (K2.out _ _ t2.out).mono ?_); rintro e w3 ⟨rfl, t3⟩; obtain ⟨g0, g1, g2, g3, g4, g5, g6, g7⟩ := CE.out _ t3.out.1)
  | (go_at_call 14; (with_reducible refine (K3.out _ _ t3.out).mono ?_); clear K3; rintro e w4 ⟨Al, cl, rfl, t4⟩; obtain ⟨g0, g1, g2, g3, g4, g5, g6, g7⟩ := CE.out _ t4.out.1)
  | (go_at_call 14; (with_reducible refine (K4.out _ _ _ _ t4.out).mono ?_); rintro e w5 ⟨Am, cm, rfl, t5⟩; obtain ⟨g0, g1, g2, g3, g4, g5, g6, g7⟩ := CE.out _ t5.out.1)
  | (go_at_call 15; (with_reducible refine (K5.out _ _ _ _ _ _ t5.out).mono ?_); rintro e w6 ⟨Af, cf, rfl, t6⟩)
  | (go_at_call 16; (with_reducible refine (K6.out _ _ _ _ _ t6.out).mono ?_); rintro e w7 ⟨rfl, t7⟩)
  | (go_at_call 17; (with_reducible refine (K7.out _ _ _ _ _ t7.out).mono ?_); rintro e w8 ⟨rfl, t8⟩; obtain ⟨g0, g1, g2, g3, g4, g5, g6, g7⟩ := CE.out _ t8.out.cb)
  | (go_at_call 18; (with_reducible refine (K8.out _ _ _ _ _ t8.out).mono ?_); rintro e w9 ⟨rfl, t9⟩; clear g0 g1 g2 g3 g4 g5 g6 g7 t8 t7 t6))
 have KA : Aside0 (∀ vl vm vf Ll Lm W, LM w vl vm vf Ll Lm F W → Calls Tryd.prog 10 #[] W fun e w' => e = .returned (.bool true) ∧ Aside0 (Below w.heap.size w w')) := ⟨fun vl vm vf Ll Lm W h => (awake_calls ad W (HS.out.below h.low) (HG.out.below h.low)).mono fun e w' ⟨he, hb⟩ => ⟨he, ⟨h.low.trans (hb.mono h.low.size)⟩⟩⟩
 clear K1 K2 K4 K5 K6 K7 K8 CE CE0 HM HCS HU CB0 t2 t3 t4 t5
 go_loopw [10] (fun i wr => ∃ k : Nat, k ≤ n ∧ i = .int .i64 k ∧ Aside0 (LM w (.slice Al n cl) (.slice Am n cm) (.slice Af n cf) (mkL k F) F F wr)) (fun i _ => n - (intOf i).toNat)
 case atStart => exact ⟨0, Nat.zero_le _, rfl, t9⟩
 case round =>
  clear t9
  obtain ⟨k, hk, rfl, tr⟩ := hrel
  by_cases hlt : k < n
  · have hkF : k < F.length := by rw [← HN.out]; exact hlt
    obtain ⟨⟨a, b⟩, hab⟩ : ∃ q, q = F[k] := ⟨_, rfl⟩
    obtain ⟨gl, rfl, x0, x1, x2, x3⟩ := tr.out.gL k (by rw [mkL_len k F (by omega)]; exact hkF) a b (by rw [mkL_at k F hkF]; exact hab.symm)
    obtain ⟨gm, rfl, y0, y1, _, _⟩ := tr.out.gM k hkF a b hab.symm
    obtain ⟨gf, rfl, z0, z1⟩ := tr.out.gF k hkF a b hab.symm
    have heq : ∀ W, (Op.equalIn 10000 43 (.agg #[.int .i64 a, .int .i64 b]) (.agg #[.int .i64 a, .int .i64 b])).run Tryd.prog W = .ok true W := fun W => by rw [eqF]; simp
    have hkb : (k : Int) < (n : Int) := by omega
    clear hab
    go_wp2_with fail
    go_quiet (fail)
    have T2 : Aside0 (LM w (.slice (some ⟨gl, 0, none⟩) n cl) (.slice (some ⟨gm, 0, none⟩) n cm) (.slice (some ⟨gf, 0, none⟩) n cf) (mkL k F) F F (wr.drewN nq)) := ⟨tr.out.more (pw_below_drewN (Below.refl _ _) nq)⟩
    generalize wr.drewN nq = wq at T2 ⊢
    clear x0 x1 x2 x3 y0 y1 z0 z1 tr heq
    have hkm : k < (mkL k F).length := by rw [mkL_len k F (by omega)]; exact hkF
    obtain ⟨⟨a', b'⟩, hab'⟩ : ∃ q, q = (mkL k F)[k] := ⟨_, rfl⟩
    obtain ⟨gl', egl, x0, x1, x2, x3⟩ := T2.out.gL k hkm a' b' hab'.symm
    obtain rfl : gl = gl' := by injection egl with e; injection e
    have hsL := T2.out.setL k hkm (-7) 0
    rw [mkL_set k F hkF] at hsL
    have P1 := Aside0.mk hsL
    clear hsL egl hab'
    go_wp2_with fail
    go_roundw
    case measure => simp [intOf]; omega
    case rel => exact ⟨k + 1, by omega, by go_num, P1⟩
  · obtain rfl : k = n := by omega
    have S0 : Aside0 (LM w (.slice Al k cl) (.slice Am k cm) (.slice Af k cf) (mkL k F ++ List.replicate 0 (-8, 0)) (F ++ List.replicate 0 (-9, 0)) F wr) := ⟨by simpa using tr.out⟩
    have hlF : F.length = k := HN.out.symm
    have hmk : (mkL k F).length = k := by rw [mkL_len k F (by omega)]; exact hlF
    clear tr
    have HMK := Lib.hid hmk
    have HLF := Lib.hid hlF
    clear hmk hlF
    go_wp2_with fail
    go_loopw [7, 8, 11] (fun vl vm i wr => ∃ j : Nat, j ≤ 30 ∧ i = .int .i64 j ∧ Aside0 (LM w vl vm (.slice Af k cf) (mkL k F ++ List.replicate j (-8, 0)) (F ++ List.replicate j (-9, 0)) F wr)) (fun _ _ i _ => 30 - (intOf i).toNat)
    case atStart => exact ⟨0, by omega, rfl, S0⟩
    case round =>
     clear S0
     obtain ⟨j, hj, rfl, tr⟩ := hrel
     by_cases hlt : j < 30
     · have e1 : mkL k F ++ List.replicate (j + 1) (-8, 0) = (mkL k F ++ List.replicate j (-8, 0)) ++ [((-8 : Int), (0 : Int))] := by rw [List.replicate_succ', List.append_assoc]
       have e2 : F ++ List.replicate (j + 1) (-9, 0) = (F ++ List.replicate j (-9, 0)) ++ [((-9 : Int), (0 : Int))] := by rw [List.replicate_succ', List.append_assoc]
       have b1 : (mkL k F ++ List.replicate j ((-8 : Int), (0 : Int))).length ≤ 4000000000000 := by rw [List.length_append, HMK.out, List.length_replicate]; omega
       have b2 : (F ++ List.replicate j ((-9 : Int), (0 : Int))).length ≤ 4000000000000 := by rw [List.length_append, HLF.out, List.length_replicate]; omega
       have E1 := Lib.hid e1
       have E2 := Lib.hid e2
       clear e1 e2
       go_wp2_with (first
        | ((with_reducible refine gate_builtin (b := .append) (xs := #[.tmp 108, .tmp 110]) rfl ?_); at_builtin; refine wp_appL rfl (.tmp 108) (.tmp 110) rfl tr.out rfl (-8, 0) rfl b1 ?_; intro vl' w' hlm; rw [← E1.out] at hlm; have P1 := Aside0.mk hlm; clear hlm)
        | ((with_reducible refine gate_builtin (b := .append) (xs := #[.tmp 112, .tmp 114]) rfl ?_); at_builtin; refine wp_appL rfl (.tmp 112) (.tmp 114) rfl P1.out.swap rfl (-9, 0) rfl b2 ?_; intro vm' w2' hlm; rw [← E2.out] at hlm; have P2 := Aside0.mk hlm.swap; clear hlm))
       go_roundw
       case measure => simp [intOf]; omega
       case rel => exact ⟨j + 1, by omega, by go_num, P2⟩
     · obtain rfl : j = 30 := by omega
       obtain ⟨L2, hLe⟩ : ∃ L2, L2 = mkL k F ++ List.replicate 30 ((-8 : Int), (0 : Int)) := ⟨_, rfl⟩
       obtain ⟨M2, hMe⟩ : ∃ M2, M2 = F ++ List.replicate 30 ((-9 : Int), (0 : Int)) := ⟨_, rfl⟩
       rw [← hLe, ← hMe] at tr
       have hlL : L2.length = k + 30 := by rw [hLe, List.length_append, HMK.out, List.length_replicate]
       have hlM : M2.length = k + 30 := by rw [hMe, List.length_append, HLF.out, List.length_replicate]
       have hL1 : Aside0 (∀ j (h : j < L2.length), j < k → L2[j] = (-7, 0)) := ⟨fun j h hj => by
        subst hLe
        rw [List.getElem_append_left (by rw [HMK.out]; exact hj)]
        unfold mkL
        rw [List.getElem_append_left (by rw [List.length_replicate]; exact hj), List.getElem_replicate]⟩
       have hL2 : Aside0 (∀ j (h : k + j < L2.length), L2[k + j] = (-8, 0)) := ⟨fun j h => by
        subst hLe
        rw [List.getElem_append_right (by rw [HMK.out]; omega), List.getElem_replicate]⟩
       have hM1 : Aside0 (∀ j (h : j < M2.length) (h' : j < F.length), M2[j] = F[j]) := ⟨fun j h h' => by
        subst hMe
        rw [List.getElem_append_left h']⟩
       have hM2 : Aside0 (∀ j (h : k + j < M2.length), M2[k + j] = (-9, 0)) := ⟨fun j h => by
        subst hMe
        rw [List.getElem_append_right (by rw [HLF.out]; omega), List.getElem_replicate]⟩
       clear hLe hMe
       obtain ⟨Al2, cl2, e7, _⟩ := tr.out.fl.sl
       obtain ⟨Am2, cm2, e8, _⟩ := tr.out.fm.sl
       rw [hlL] at e7
       rw [hlM] at e8
       subst e7 e8
       have HLL := Lib.hid hlL
       have HLM := Lib.hid hlM
       clear hlL hlM
       go_wp2_with fail
       go_loopw [12] (fun i wr => ∃ j : Nat, j ≤ k ∧ i = .int .i64 j ∧ Aside0 (LM w (.slice Al2 (k + 30) cl2) (.slice Am2 (k + 30) cm2) (.slice Af k cf) L2 M2 F wr)) (fun i _ => k - (intOf i).toNat)
       case atStart => exact ⟨0, Nat.zero_le _, rfl, tr⟩
       case round =>
        clear tr
        obtain ⟨j, hj, rfl, tr⟩ := hrel
        by_cases hlt2 : j < k
        · have hjF : j < F.length := by rw [HLF.out]; exact hlt2
          have hjL : j < L2.length := by rw [HLL.out]; omega
          have hjM : j < M2.length := by rw [HLM.out]; omega
          obtain ⟨⟨a, b⟩, hab⟩ : ∃ q, q = F[j] := ⟨_, rfl⟩
          obtain ⟨gl, rfl, x0, x1, _, _⟩ := tr.out.gL j hjL (-7) 0 (hL1.out j hjL hlt2)
          obtain ⟨gm, rfl, y0, y1, _, _⟩ := tr.out.gM j hjM a b (by rw [hM1.out j hjM hjF]; exact hab.symm)
          obtain ⟨gf, rfl, z0, z1⟩ := tr.out.gF j hjF a b hab.symm
          have hkb : (j : Int) < (k : Int) := by omega
          clear hab
          go_wp2_with fail
          go_quiet (fail)
          have T2 : Aside0 (LM w (.slice (some ⟨gl, 0, none⟩) (k + 30) cl2) (.slice (some ⟨gm, 0, none⟩) (k + 30) cm2) (.slice (some ⟨gf, 0, none⟩) k cf) L2 M2 F (wr.drewN nq)) := ⟨tr.out.more (pw_below_drewN (Below.refl _ _) nq)⟩
          generalize wr.drewN nq = wq at T2 ⊢
          clear x0 x1 y0 y1 z0 z1 tr
          go_wp2_with fail
          go_roundw
          case measure => simp [intOf]; omega
          case rel => exact ⟨j + 1, by omega, by go_num, T2⟩
        · obtain rfl : j = k := by omega
          go_wp2_with fail
          go_loopw [13] (fun i wr => ∃ q : Nat, q ≤ 30 ∧ i = .int .i64 q ∧ Aside0 (LM w (.slice Al2 (j + 30) cl2) (.slice Am2 (j + 30) cm2) (.slice Af j cf) L2 M2 F wr)) (fun i _ => 30 - (intOf i).toNat)
          case atStart => exact ⟨0, Nat.zero_le _, rfl, tr⟩
          case round =>
           clear tr
           obtain ⟨q, hq, rfl, tr⟩ := hrel
           by_cases hlt3 : q < 30
           · have hjL : j + q < L2.length := by rw [HLL.out]; omega
             have hjM : j + q < M2.length := by rw [HLM.out]; omega
             obtain ⟨gl, rfl, x0, x1, _, _⟩ := tr.out.gL (j + q) hjL (-8) 0 (hL2.out q hjL)
             obtain ⟨gm, rfl, y0, y1, _, _⟩ := tr.out.gM (j + q) hjM (-9) 0 (hM2.out q hjM)
             go_wp2_with fail
             go_roundw
             case measure => simp [intOf]; omega
             case rel => exact ⟨q + 1, by omega, by go_num, tr⟩
           · obtain rfl : q = 30 := by omega
             go_wp2_with (first
              | (go_at_call 10; (with_reducible refine (KA.out _ _ _ _ _ _ tr.out).mono ?_); rintro e w10 ⟨rfl, t10⟩))
             go_ret
             exact ⟨rfl, t10.out⟩
end Go.Proofs.YtaeaookonhaliaaDoor.R6
namespace Go.Proofs.YtaeaookonhaliaaDoor.opformChecks
open Go.ChangeShapes Go.WideShapes Go.ChangeAt Go.RowKit YtaeaookonhaliaaDoorW.PrintWords H B

theorem own : ownKnob Tryd.prog.godebug = none := by kernel_rfl
theorem laidOut : laidOutB Tryd.prog = true := by kernel_rfl

set_option maxRecDepth 100000 in
theorem contract (H : Type) (enc : TypeId × Value → H) (W : World) (base : Nat) (args : Array Value) (ds gs : List (DataW H)) (before : List MemPlace)
 (hval : ∀ (j : Nat) t v, Tryd.f4.params[j]? = some t → args[j]? = some v → Value.okWide Tryd.prog W .any base t v)
 (ad : Int → Addr) (hs : SentsK ad W) (hg : HandleP W)
 (hz : (DataW.weightsEach Tryd.prog (Tryd.f4.params.toList ++ (Rows.OpenSpec.upto Rows.opformChecksSpec).bare.plain.varTypes Tryd.prog) (ds ++ gs)).all (· ≤ reachBytes) = true)
 (hW : DataW.Whole enc Tryd.prog Tryd.f4.params.toList Rows.opformChecksSpec.vars false W args.toList ds gs before) (hk : Rows.uptoSmall H (ds ++ gs) = true) :
 Calls Tryd.prog 4 args W fun e W' => ∃ v, e = .returned v ∧ Rows.opformChecksSpec.post enc Tryd.prog Tryd.f4 false true false false W args v W' := by
 have hW' := hW
 obtain ⟨p, q, hA0, hV, rfl, hfz, hnd⟩ := hW
 have hA : DataW.TrodAll enc Tryd.prog W 0 (fun _ => true) true Tryd.f4.params.toList args.toList ds p := hA0
 rw [Tryd.params4] at hA hval
 obtain ⟨v0, vs0, d0, ds0, p0, q0, hargs, rfl, rfl, h0, r0⟩ := trodAll_cons hA
 obtain ⟨rfl, rfl, rfl⟩ := trodAll_nil r0
 obtain rfl : args = #[v0] := by cases args; simp_all
 obtain ⟨rfl, rfl⟩ := trodVars_none hV
 have hb : Rows.uptoBulkAll ([d0] ++ []) ≤ 1048576 := of_decide_eq_true hk
 simp only [List.append_nil, Rows.uptoBulkAll] at hb
 obtain ⟨g0, A00, c00, A01, c01, A03, c03, rfl, l00, k00, l01, k01, l03, k03, u0⟩ := OG.open_gu (hval 0 29 v0 rfl rfl) h0 (by omega)
 refine (R6.OpformChecks_calls ad A00 c00 g0.f0 A01 c01 g0.f1 g0.f2 A03 c03 g0.f3 W hs hg k00 l00 k01 l01 k03 l03 u0).mono fun e W' ⟨he, bel⟩ => ?_
 subst he
 simp only [List.append_nil] at hW'
 exact ⟨_, rfl, _, _, _, [], _, [], hW', trodAll_mk1 (shut_bool Tryd.underlying4 _), (trodAll_cons_mk (Below.trod laidOut (by kernel_rfl) (of_decide_eq_true (by kernel_rfl)) h0 bel (trod_below h0)) trodAll_mk0), rfl, bel.frame _, fun h => by cases h⟩

theorem laid_met (os : Os) (args : Array Value) : laidMetH Tryd.prog Rows.opformChecksUptoRow.laid ((laidWorld16 os).forCall (fun _ _ => 0) ⟨#[], args, []⟩).memory := laid_met16 os args
theorem sents {W : World} (h : laidMetH Tryd.prog Rows.opformChecksUptoRow.laid W) : (∃ ad, SentsK ad W) ∧ HandleP W := sents16 h
theorem reads (os : Os) {H : Type} (enc : TypeId × Value → H) : ∃ places, DataW.whole enc Tryd.prog ((laidWorld16 os).forCall (fun _ _ => 0) ⟨#[], #[Value.agg #[.slice none 0 0, .slice none 0 0, .int .i64 0, .slice none 0 0]], []⟩).memory Tryd.f4.params.toList Rows.opformChecksSpec.vars false (#[Value.agg #[.slice none 0 0, .slice none 0 0, .int .i64 0, .slice none 0 0]] : Array Value).toList 8 = some ([.agg [.nil, .nil, .lit (.int .i64 0), .nil]], [], places) :=
 ⟨[], by kernel_rfl⟩

set_option maxRecDepth 100000 in
theorem lifted (os : Os) (started : os.Started) (H : Type) (enc : TypeId × Value → H) (F : Stop.Interp) :
 ReturnsInHanded {} Tryd.checked os 4 .any ((Rows.OpenSpec.upto Rows.opformChecksSpec).preRow enc Tryd.prog Tryd.f4 Rows.opformChecksUptoRow.domain false Rows.opformChecksUptoRow.laid) (((Rows.OpenSpec.upto Rows.opformChecksSpec).at F).post enc Tryd.prog Tryd.f4 false true false false) := by
 obtain ⟨places, hx⟩ := reads os enc
 refine returnsInHanded_of_row (C := Tryd.checked) (s := Rows.OpenSpec.upto Rows.opformChecksSpec) own started (by kernel_rfl) Tryd.func4
  (witness_row_atRef (enc := enc) (C := Tryd.checked) false (laidWorld16 os) #[Value.agg #[.slice none 0 0, .slice none 0 0, .int .i64 0, .slice none 0 0]] rfl (by kernel_rfl) (by kernel_rfl) (by kernel_rfl)
   (OpenSpec.preRow_of_cond 8 hx (by kernel_rfl) (fun k hk => by cases hk; kernel_rfl) (by kernel_rfl) (laid_met os _))) ?_
 intro W base args ds gs before hval hW _ hcond hz hL _ _
 obtain ⟨⟨ad, hs⟩, hg⟩ := sents hL
 exact contract H enc W base args ds gs before hval ad hs hg hz hW (hcond _ rfl)

theorem said : Rows.OpformChecksUptoSaid :=
 OpenClaim.holds_of_cond 4 Tryd.f4 rfl rfl rfl rfl rfl rfl rfl ⟨rfl, rfl, rfl, rfl, rfl⟩ rfl rfl rfl rfl rfl (by kernel_rfl) Tryd.func4 (by kernel_rfl)
  (of_decide_eq_true (by kernel_rfl)) (by unfold Func.isWrapper; first | (rw [if_pos (by decide +kernel)]; kernel_rfl) | (rw [if_neg (by decide +kernel)]; exact ⟨rfl, rfl⟩))
  (fun os started H enc _ F => by rw [OpenClaim.pre_eq_preRow]; exact lifted os started H enc F)

theorem plain (f : FuncId) (fn : Func) (hf : Tryd.pinned.checked.prog.funcNamed "dovetail/dovetaillaw06.OpformChecks" = some f) (hfn : Tryd.pinned.checked.prog.funcs[f]? = some fn) :
 true = Tryd.pinned.checked.prog.looks [] ∧ ∀ (j : Nat) t, fn.params[j]? = some t → Tryd.pinned.checked.prog.wantsStandIn t = false := by
 obtain rfl : f = 4 := Option.some.inj ((show Tryd.prog.funcNamed "dovetail/dovetaillaw06.OpformChecks" = some 4 by kernel_rfl).symm.trans hf) |>.symm
 obtain rfl : fn = Tryd.f4 := (Option.some.inj (Tryd.func4.symm.trans hfn)).symm
 refine ⟨by kernel_rfl, fun j t ht => ?_⟩
 rw [Tryd.params4] at ht
 obtain rfl : t = 29 := by simpa using Array.mem_of_getElem? ht
 exact (show Tryd.prog.wantsStandIn 29 = false by kernel_rfl)

theorem proved : Rows.OpformChecksUptoCardSaid :=
 Claim7.holds_tied_plain_at .later [] _ _ _ _ said (fun _ h => by cases h) (by kernel_rfl) (fun _ h => by cases h) opformChecksUpto_row_tie rfl ⟨rfl, rfl⟩ (by kernel_rfl) rfl plain (by kernel_rfl)
#print axioms proved
end Go.Proofs.YtaeaookonhaliaaDoor.opformChecks
