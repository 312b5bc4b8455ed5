/-
 dovetaillaw02.WordsCut: whatever is handed in, of bulk at most 1048576, the call answers true, and each argument reads as it did.
 Conditions: those of the given statement WordsCutUptoSaid alone.
-/
import Derived.Test.YtchhfpkdleifdaaProg
import Derived.WalkKit
import Derived.KernelRfl
import Derived.WalkSpells
import Derived.WalkLawsBesides
import Derived.Lib.Hide
import Derived.Lib.Strings
import Derived.Lib.Slices
import Derived.Lib.Walk
import Derived.Lib.Builder
import Derived.Lib.AppendStr
import Derived.Lib.UnsafeStr
import Derived.Laws.Externs
import Derived.Laws.IdiomCopy
import Derived.Laws.BitsLemmas
import Derived.Deep.QuietTactic
import Derived.BigQuiet
import Derived.Deep.LoopGhost
import Derived.StillTailTactics
import Derived.Deep.RegionWith
import Derived.Deep.RegionHeld3
import Derived.Deep.DeepFit
import Derived.Deep.DeepCutAuto
import Derived.Below
import Derived.Deep.Draws
import Derived.Deep.AppendLies
import Derived.Maps.AppendAt
import Derived.OwnWalk
import Derived.Laws.BytesArg
import Derived.Laws.MakeOwn
import Derived.Laws.OwnMore
import Derived.Deep.OwnRows
import Derived.Tactics
import Derived.Lib.ConvBytes
import Derived.Laws.Slices
import Derived.RowKit3
import Derived.WideLaws
import Derived.Deep.CutBlock
import Derived.Laws.Rows
import Derived.ArgAppend
import Derived.RowKit
import Derived.Test.YtchhfpkdleifdaaRows
import Derived.ProofKit
import Derived.OpenShut
import Derived.ChangeArms
import Derived.Deep.CondSized
import Derived.OrdersHeld
import Derived.Laws.StructEq
import Derived.RangeFuncNested
import Derived.RangeFuncBound
import Derived.RangeFuncCalls
import Derived.RangeFuncLeaves
import Derived.Lib.Bytealg
import Derived.Test.YtchhfpkdleifdaaChecked
import Derived.Shelf.Abstract
import Derived.Shelf.RegionOpen
import Derived.OwnWalkIn
import Derived.TacticsInMore
import Derived.LoopNIn
import Derived.LoopIn
import Derived.Sort.QuietIn
import Derived.Sort.CutIn
import Derived.JoinedCond
/- What the texts of this seat import. -/
namespace Go.Proofs.Ytchhfpkdleifdaa.H
end Go.Proofs.Ytchhfpkdleifdaa.H
set_option linter.unusedVariables false
set_option linter.unusedSimpArgs false
namespace Go.Proofs.YtchhfpkdleifdaaW.PrintWords
open Go.RowKit

structure Aside0 (p : Prop) : Prop where mk :: (out : p)
structure Drawn0 (w w' : World) : Prop where mk :: (out : ∃ n, w' = w.drewN n)
theorem Drawn0.refl (w : World) : Drawn0 w w := ⟨⟨0, rfl⟩⟩
theorem Drawn0.below {w w' : World} (h : Drawn0 w w') : Below w.heap.size w w' := by
  obtain ⟨n, rfl⟩ := h
  induction n with
  | zero => exact Below.refl _ _
  | succ n ih => rw [← World.drew_drewN]; exact ih.drew


def bt (s : ByteArray) (i : Int) : Int := if h : i.toNat < s.size then ((s[i.toNat]'h).toNat : Int) else 0
theorem bt_at (s : ByteArray) (i : Int) : ∀ h : i.toNat < s.size, ((s[i.toNat]'h).toNat : Int) = bt s i := fun h => by simp [bt, h]
theorem below_alloc {w W : World} (h : Below w.heap.size w W) (o : Obj) : Below w.heap.size w (W.alloc o) := h.alloc h.size o
theorem grown_of_below {w w1 : World} (h : Below w.heap.size w w1) (row : Option Nat) : w.grownBy w1 row := ⟨h.os, h.tape, h.output, h.size, fun i hi _ => h.block i hi⟩
theorem pw_cell_below {w w1 : World} (h : Below w.heap.size w w1) {a : Addr} {v : Value} (hc : w.cell? a = some v) : w1.cell? a = some v := (h.cell (World.block_lt_of_cell? w a hc)).trans hc

def ReadsInt (w : World) (k : IntKind) (A : Option Addr) (n : Nat) (xs : List Int) : Prop :=
  xs.length = n ∧ n ≤ 9223372036854775807 ∧ (0 < n → ∃ ad, A = some ad ∧ ∀ j, j < n → w.cell? (ad.add j) = some (.int k (xs.getD j 0)))
theorem ReadsInt.below {w w1 : World} {k : IntKind} {A : Option Addr} {n : Nat} {xs : List Int} (h : ReadsInt w k A n xs) (hb : Below w.heap.size w w1) : ReadsInt w1 k A n xs :=
  ⟨h.1, h.2.1, fun hn => by
    obtain ⟨ad, e, hc⟩ := h.2.2 hn
    exact ⟨ad, e, fun j hj => pw_cell_below hb (hc j hj)⟩⟩

theorem own_nil (W : World) (base : Nat) (e : TypeId) (size : Nat) : W.ownsRow base e size (.slice none 0 0) 0 [] := ⟨by simp, .inl ⟨rfl, rfl⟩⟩
theorem own_base {w : World} {base : Nat} {e : TypeId} {size n : Nat} {v : Value} {xs : List Value} (h : w.ownsRow base e size v n xs) (k : Nat) (hk : v.ownBlock = some k) : base ≤ k := by
  rcases h.2 with ⟨rfl, _⟩ | ⟨g, cap, cur, rfl, hb, _⟩
  · simp [Value.ownBlock] at hk
  · have : g = k := by simpa [Value.ownBlock] using hk
    omega
theorem own_lt {w : World} {base : Nat} {e : TypeId} {size n : Nat} {v : Value} {xs : List Value} (h : w.ownsRow base e size v n xs) (k : Nat) (hk : v.ownBlock = some k) : k < w.heap.size := by
  rcases h.2 with ⟨rfl, _⟩ | ⟨g, cap, cur, rfl, hb, hh, _⟩
  · simp [Value.ownBlock] at hk
  · have : g = k := by simpa [Value.ownBlock] using hk
    subst this
    exact (Array.getElem?_eq_some_iff.1 hh).1
theorem pw_own_below {w w1 : World} {base : Nat} {e : TypeId} {size n : Nat} {v : Value} {xs : List Value} (h : w.ownsRow base e size v n xs) (hb : Below w.heap.size w w1) : w1.ownsRow base e size v n xs :=
  h.kept (grown_of_below hb none) (by cases v.ownBlock <;> simp)
section
variable {P : Program} {ops : Array Oper} {rest : List Oper} {o : Oper} {a : Act} {Q : Exit → Act → World → Prop}

end

section
variable {P : Program}
end
section
variable {P : Program} {ops : Array Oper} {rest : List Oper} {o : Oper} {a : Act} {Q : Exit → Act → World → Prop}
end

theorem data_length (s : ByteArray) : s.data.toList.length = s.size := by rw [Array.length_toList]; rfl
def LeO {α : Type} (a b : Option α) : Prop := ∀ r, a = some r → b = some r
theorem LeO.refl {α : Type} (a : Option α) : LeO a a := fun _ h => h
theorem LeO.none {α : Type} (b : Option α) : LeO Option.none b := fun _ h => by cases h
theorem LeO.trans {α : Type} {a b c : Option α} (h : LeO a b) (k : LeO b c) : LeO a c := fun r hr => k r (h r hr)
theorem LeO.ite {α : Type} {c : Prop} [Decidable c] {a a' b b' : Option α} (h : LeO a a') (k : LeO b b') : LeO (if c then a else b) (if c then a' else b') := by
  split
  · exact h
  · exact k
theorem LeO.bind {α β : Type} {a a' : Option α} {f f' : α → Option β} (h : LeO a a') (k : ∀ x, LeO (f x) (f' x)) : LeO (a.bind f) (a'.bind f') := by
  intro r hr
  obtain ⟨x, hx, hf⟩ := Option.bind_eq_some_iff.1 hr
  exact Option.bind_eq_some_iff.2 ⟨x, h x hx, k x r hf⟩
def Reps {α : Type} (R : α → List Value → Prop) (size : Nat) (ps : List α) (cs : List Value) : Prop :=
  cs.length = ps.length * size ∧ ∀ j p, ps[j]? = some p → R p ((cs.drop (j * size)).take size)
theorem Reps.none {α : Type} (R : α → List Value → Prop) (size : Nat) : Reps R size [] [] := ⟨by simp, fun j p h => by simp at h⟩
theorem Reps.snoc {α : Type} {R : α → List Value → Prop} {size : Nat} {ps : List α} {cs c : List Value} {p : α} (h : Reps R size ps cs) (hp : R p c) (hc : c.length = size) : Reps R size (ps ++ [p]) (cs ++ c) := by
  refine ⟨by rw [List.length_append, h.1, hc, List.length_append, List.length_singleton, Nat.add_mul, Nat.one_mul], fun j q hq => ?_⟩
  rcases Nat.lt_or_ge j ps.length with hj | hj
  · rw [List.getElem?_append_left hj] at hq
    have h1 : j * size + size ≤ cs.length := by rw [h.1, ← Nat.succ_mul]; exact Nat.mul_le_mul_right _ hj
    have h2 := h.2 j q hq
    rw [List.drop_append_of_le_length (by omega), List.take_append_of_le_length (by rw [List.length_drop]; omega)]
    exact h2
  · have hj' : j = ps.length := by
      have := (List.getElem?_eq_some_iff.1 hq).1
      rw [List.length_append, List.length_singleton] at this
      omega
    subst hj'
    have hq' : p = q := by simpa using hq
    subst hq'
    rw [← h.1, List.drop_left, ← hc, List.take_length]
    exact hp
theorem Reps.imp_ {α : Type} {R R' : α → List Value → Prop} {size : Nat} {ps : List α} {cs : List Value} (h : Reps R size ps cs) (hR : ∀ p c, R p c → R' p c) : Reps R' size ps cs := ⟨h.1, fun j p hj => hR _ _ (h.2 j p hj)⟩

def ReadsRow {α : Type} (R : α → List Value → Prop) (size : Nat) (w : World) (A : Option Addr) (n : Nat) (ps : List α) : Prop :=
  ps.length = n ∧ n ≤ 9223372036854775807 ∧ (0 < n → ∃ ad, A = some ad ∧ ∀ j p, ps[j]? = some p → ∃ c, c.length = size ∧ R p c ∧ ∀ i u, c[i]? = some u → w.cell? (ad.add (j * size + i)) = some u)
theorem ReadsRow.imp_ {α : Type} {R R' : α → List Value → Prop} {size : Nat} {w w1 : World} {A : Option Addr} {n : Nat} {ps : List α} (h : ReadsRow R size w A n ps) (hb : Below w.heap.size w w1) (hR : ∀ p c, R p c → R' p c) : ReadsRow R' size w1 A n ps :=
  ⟨h.1, h.2.1, fun hn => by
    obtain ⟨ad, e, hc⟩ := h.2.2 hn
    refine ⟨ad, e, fun j p hj => ?_⟩
    obtain ⟨c, hs, hr, hcell⟩ := hc j p hj
    exact ⟨c, hs, hR _ _ hr, fun i u hu => pw_cell_below hb (hcell i u hu)⟩⟩
theorem own_reads_row {α : Type} {R : α → List Value → Prop} {w : World} {base n size : Nat} {e : TypeId} {v : Value} {ps : List α} {cs : List Value} (h : w.ownsRow base e size v n cs) (hR : Reps R size ps cs) (hn : ps.length = n) :
    ∃ A c, v = .slice A n c ∧ ReadsRow R size w A n ps := by
  rcases Nat.eq_zero_or_pos n with h0 | h0
  · rcases h.2 with ⟨rfl, rfl⟩ | ⟨g, cap, cur, rfl, _⟩
    · exact ⟨none, 0, rfl, hn, by omega, fun hp => absurd hp (by omega)⟩
    · exact ⟨_, cap, rfl, hn, by omega, fun hp => absurd hp (by omega)⟩
  · obtain ⟨g, cap, rfl, _, _⟩ := h.form h0
    have hm : n ≤ 9223372036854775807 := by
      rcases h.2 with ⟨_, h1⟩ | ⟨g', cap', cur, he, _, _, h1, h2, _⟩
      · omega
      · simp only [maxLen] at h2
        omega
    refine ⟨_, cap, rfl, hn, hm, fun _ => ⟨_, rfl, fun j p hj => ⟨(cs.drop (j * size)).take size, ?_, hR.2 j p hj, fun i u hu => ?_⟩⟩⟩
    · have hjl := (List.getElem?_eq_some_iff.1 hj).1
      have h1 : j * size + size ≤ cs.length := by rw [hR.1, ← Nat.succ_mul]; exact Nat.mul_le_mul_right _ hjl
      rw [List.length_take, List.length_drop]
      omega
    · refine h.cells (g := g) rfl _ u ?_
      rw [List.getElem?_take] at hu
      split at hu
      · rw [List.getElem?_drop] at hu
        exact hu
      · cases hu
section
variable {P : Program} {ops : Array Oper} {rest : List Oper} {o : Oper} {a : Act} {Q : Exit → Act → World → Prop}
theorem print_append_cells {w0 W : World} (base : Nat) (hgd : o.guard = none) (s x : Operand) (t e : TypeId) (z : Value) (size bytes : Nat)
    (ho : o.op = .call { callee := .builtin .append, args := #[s, x], argTypes := #[t, t] })
    (ht : P.underlying t = some (.slice e)) (hinfo : (P.info? e).map (fun i => (i.zero, i.size, i.bytes)) = some (some z, size, bytes)) (hz : z.cells.size = size) (hs0 : 0 < size) (hb0 : 0 < bytes)
    (v : Value) (n : Nat) (xs ys : List Value) (hs : a.eval s = v) (hx : a.eval x = .slice (some ⟨W.heap.size, 0, none⟩) 1 1) (hys : ys.length = size) (h1 : ∀ u ∈ ys, u.oneCell' = true)
    (HO : W.ownsRow base e size v n xs) (HB : Below base w0 W) (hbase : base ≤ W.heap.size) (hl : (n + 1) * bytes ≤ 140737488355328)
    (h : ∀ v1 w1, w1.ownsRow base e size v1 (n + 1) (xs ++ ys) → Below base w0 w1 → W.grownBy w1 v.ownBlock → (v1.ownBlock = v.ownBlock ∨ ∃ b, v1.ownBlock = some b ∧ W.heap.size ≤ b) → wpList P ops Q rest (a.put o.dst v1) w1) :
    wpList P ops Q (o :: rest) a (W.alloc (.cells ys.toArray e)) := by
  obtain ⟨i0, hi, hzz⟩ := Option.map_eq_some_iff.1 hinfo
  simp only [Prod.mk.injEq] at hzz
  obtain ⟨hz0, hz1, hz2⟩ := hzz
  have hlen : n + 1 ≤ 140737488355328 := Nat.le_trans (Nat.le_mul_of_pos_right _ hb0) hl
  refine wpList_append_own_at (W.alloc (.cells ys.toArray e)) hgd s x t ho base e i0 z size bytes ht hi hz0 hz1 hz2 hz hs0 v n xs hs (HO.alloc _) ⟨W.heap.size, 0, none⟩ 1 1 ys hx (by rw [hys]; simp)
    (by simpa using World.news_of_block (cs := ys.toArray) (t := e) (fr := (0, 0)) (heap_alloc_new W (.cells ys.toArray e))) h1 (by simp only [maxLen]; omega) hl (by simp; omega) ?_
  intro v1 w1 hown hg _ hat
  refine h v1 w1 hown ((HB.alloc hbase _).grown hg (by simp; omega) (own_base HO)) (World.grownBy.trans (World.grownBy_alloc W _ _) hg) ?_
  rcases hat with hat | hat
  · exact .inl hat
  · exact .inr ⟨_, hat, by simp⟩
end

theorem blk_set {w : World} {g : Nat} {t : TypeId} {cs : Array Value} (h : w.heap[g]? = some (.cells cs t (0, 0))) (i : Nat) (u : Value) : (w.setCell ⟨g, i, none⟩ u).heap[g]? = some (.cells (cs.setIfInBounds i u) t (0, 0)) := by
  simp [World.setCell, Array.getElem?_modify, h]
theorem blk_far {w : World} {g : Nat} {t : TypeId} {cs : Array Value} (h : w.heap[g]? = some (.cells cs t (0, 0))) {p : Addr} (hp : g ≠ p.block) (u : Value) : (w.setCell p u).heap[g]? = some (.cells cs t (0, 0)) := (Below.heap_setCell w p u g hp).trans h
def KeepBut (w w' : World) (g : Nat) (row : Option Nat) : Prop := w.heap.size ≤ w'.heap.size ∧ ∀ i, i < w.heap.size → i ≠ g → some i ≠ row → w'.heap[i]? = w.heap[i]?
theorem KeepBut.refl (w : World) (g : Nat) (row : Option Nat) : KeepBut w w g row := ⟨Nat.le_refl _, fun _ _ _ _ => rfl⟩
theorem KeepBut.of_below {w w1 : World} (h : Below w.heap.size w w1) (g : Nat) (row : Option Nat) : KeepBut w w1 g row := ⟨h.size, fun i hi _ _ => h.block i hi⟩
theorem KeepBut.trans {w w1 w2 : World} {g : Nat} {row row1 : Option Nat} (h : KeepBut w w1 g row) (k : KeepBut w1 w2 g row1) (hr : row1 = row ∨ ∃ b, row1 = some b ∧ w.heap.size ≤ b) : KeepBut w w2 g row :=
  ⟨Nat.le_trans h.1 k.1, fun i hi hg hn => by
    refine (k.2 i (Nat.lt_of_lt_of_le hi h.1) hg ?_).trans (h.2 i hi hg hn)
    rcases hr with rfl | ⟨b, rfl, hb⟩
    · exact hn
    · intro e
      injection e with e
      omega⟩
section
variable {P : Program} {ops : Array Oper} {o : Oper} {a : Act} {Q : Exit → Act → World → Prop} {K : Act → World → Prop}
end
theorem own_weaken {w : World} {base base' : Nat} {e : TypeId} {size n : Nat} {v : Value} {xs : List Value} (h : w.ownsRow base e size v n xs) (hb : base' ≤ base) : w.ownsRow base' e size v n xs := by
  obtain ⟨h1, h2⟩ := h
  refine ⟨h1, ?_⟩
  rcases h2 with h2 | ⟨g, cap, cur, rfl, hg, r⟩
  · exact .inl h2
  · exact .inr ⟨g, cap, cur, rfl, Nat.le_trans hb hg, r⟩
section
variable {α : Type} {enc : α → Value} {d : α}
def rdOf (d : α) (xs : List α) (i : Int) : α := xs.getD i.toNat d
def ReadsOf (enc : α → Value) (d : α) (w : World) (A : Option Addr) (n : Nat) (xs : List α) : Prop :=
  xs.length = n ∧ n ≤ 9223372036854775807 ∧ (0 < n → ∃ ad, A = some ad ∧ ∀ j, j < n → w.cell? (ad.add j) = some (enc (xs.getD j d)))
theorem ReadsOf.at_ {w : World} {A : Option Addr} {n : Nat} {xs : List α} (h : ReadsOf enc d w A n xs) (i : Int) (h0 : 0 ≤ i) (h1 : i < n) : ∃ ad, A = some ad ∧ w.cell? (ad.add i.toNat) = some (enc (rdOf d xs i)) := by
  obtain ⟨ad, e, hc⟩ := h.2.2 (by omega)
  exact ⟨ad, e, hc _ (by omega)⟩
theorem ReadsOf.below {w w1 : World} {A : Option Addr} {n : Nat} {xs : List α} (h : ReadsOf enc d w A n xs) (hb : Below w.heap.size w w1) : ReadsOf enc d w1 A n xs :=
  ⟨h.1, h.2.1, fun hn => by
    obtain ⟨ad, e, hc⟩ := h.2.2 hn
    exact ⟨ad, e, fun j hj => pw_cell_below hb (hc j hj)⟩⟩
end
section
variable {α : Type} {P : Program} {ops : Array Oper} {rest : List Oper} {o : Oper} {a : Act} {Q : Exit → Act → World → Prop}
end

section
variable {P : Program}
end
theorem own_le {w : World} {base n m c size : Nat} {e : TypeId} {A : Option Addr} {xs : List Value} (h : w.ownsRow base e size (.slice A m c) n xs) : m ≤ c := by
  rcases h.2 with ⟨he, _⟩ | ⟨g, cap, cur, he, _, _, hnc, _⟩
  · injection he with _ h2 h3
    omega
  · injection he with _ h2 h3
    omega
def OwnRow {α : Type} (R : α → List Value → Prop) (e : TypeId) (size : Nat) (w : World) (base : Nat) (v : Value) (ps : List α) : Prop :=
  ∃ inner, w.ownsRow base e size v ps.length inner ∧ Reps R size ps inner
section
variable {α : Type} {R R' : α → List Value → Prop} {e : TypeId} {size : Nat} {w w1 : World} {base : Nat} {v : Value} {ps : List α}
theorem OwnRow.none_ (R : α → List Value → Prop) (e : TypeId) (size : Nat) (w : World) (base : Nat) : OwnRow R e size w base (.slice none 0 0) [] := ⟨[], own_nil _ _ _ _, Reps.none _ _⟩
theorem OwnRow.imp_ (h : OwnRow R e size w base v ps) (hR : ∀ p c, R p c → R' p c) : OwnRow R' e size w base v ps := by
  obtain ⟨inner, ho, hr⟩ := h
  exact ⟨inner, ho, hr.imp_ hR⟩
theorem OwnRow.below (h : OwnRow R e size w base v ps) (hb : Below w.heap.size w w1) : OwnRow R e size w1 base v ps := by
  obtain ⟨inner, ho, hr⟩ := h
  exact ⟨inner, pw_own_below ho hb, hr⟩
theorem OwnRow.reads (h : OwnRow R e size w base v ps) : ∃ A c, v = .slice A ps.length c ∧ ps.length ≤ c ∧ ReadsRow R size w A ps.length ps := by
  obtain ⟨inner, ho, hr⟩ := h
  obtain ⟨A, c, rfl, hrow⟩ := own_reads_row ho hr rfl
  exact ⟨A, c, rfl, own_le ho, hrow⟩
theorem OwnRow.lit (W : World) (base : Nat) {inner : List Value} (hr : Reps R size ps inner) (hb : base ≤ W.heap.size) (hm : ps.length ≤ 9223372036854775807) :
    OwnRow R e size (W.alloc (.cells inner.toArray e)) base (.slice (some ⟨W.heap.size, 0, none⟩) ps.length ps.length) ps := by
  have h := World.ownsRow_lit (base := base) (e := e) (size := size) W inner.toArray ps.length hb (by simpa [maxLen] using hm) (by simpa using hr.1)
  exact ⟨inner, by simpa using h, hr⟩
end
section
variable {P : Program} {ops : Array Oper} {rest : List Oper} {o : Oper} {a : Act} {Q : Exit → Act → World → Prop} {α : Type} {R : α → List Value → Prop}
end
section
variable {P : Program} {ops : Array Oper} {o : Oper} {a : Act} {Q : Exit → Act → World → Prop} {K : Act → World → Prop} {α : Type} {R : α → List Value → Prop}
end
section
variable {α : Type} {P : Program}
end

section
variable {P : Program} {ops : Array Oper} {rest : List Oper} {o : Oper} {a : Act} {Q : Exit → Act → World → Prop}
end
structure Kd (α : Type) where
  sz : Nat
  E : List Nat
  K : World → α → List Value → Prop
  M : World → Nat → (Nat → Prop) → α → List Value → Prop
  K_len : ∀ {w x cs}, K w x cs → cs.length = sz
  K_one : ∀ {w x cs}, K w x cs → ∀ u ∈ cs, u.oneCell' = true
  K_below : ∀ {w w1 : World} {x cs}, Below w.heap.size w w1 → K w x cs → K w1 x cs
  K_of_M : ∀ {w base ok x cs}, M w base ok x cs → K w x cs
  M_mono : ∀ {w base ok ok' x cs}, (∀ k, ok k → ok' k) → M w base ok x cs → M w base ok' x cs
  M_bound : ∀ {w : World} {base ok x cs}, M w base ok x cs → M w base (fun k => ok k ∧ base ≤ k ∧ k < w.heap.size ∧ ∃ q, q ∈ E ∧ ∃ cells, w.heap[k]? = some (.cells cells q (0, 0))) x cs
  M_move : ∀ {w w1 : World} {base ok x cs}, (∀ k, ok k → w1.heap[k]? = w.heap[k]?) → M w base ok x cs → M w1 base ok x cs
  M_lower : ∀ {w base base' ok x cs}, base' ≤ base → M w base ok x cs → M w base' ok x cs

theorem own_move {w w1 : World} {base : Nat} {e : TypeId} {size n : Nat} {v : Value} {xs : List Value} (h : w.ownsRow base e size v n xs) (hm : ∀ k, v.ownBlock = some k → w1.heap[k]? = w.heap[k]?) : w1.ownsRow base e size v n xs := by
  obtain ⟨h1, h2⟩ := h
  refine ⟨h1, ?_⟩
  rcases h2 with h2 | ⟨g, cap, cur, rfl, hg, hh, r⟩
  · exact .inl h2
  · exact .inr ⟨g, cap, cur, rfl, hg, (hm g (by simp [Value.ownBlock])).trans hh, r⟩
theorem own_typed {w : World} {base : Nat} {e : TypeId} {size n : Nat} {v : Value} {xs : List Value} (h : w.ownsRow base e size v n xs) (k : Nat) (hk : v.ownBlock = some k) : ∃ cells, w.heap[k]? = some (.cells cells e (0, 0)) := by
  rcases h.2 with ⟨rfl, _⟩ | ⟨g, cap, cur, rfl, hg, hh, r⟩
  · simp [Value.ownBlock] at hk
  · have : g = k := by simpa [Value.ownBlock] using hk
    subst this
    exact ⟨cur, hh⟩

namespace Kd
def C {α : Type} (d : Kd α) (w : World) (A : Option Addr) (n : Nat) (xs : List α) : Prop := ReadsRow (d.K w) d.sz w A n xs
def R {α : Type} (d : Kd α) (e : Nat) (w : World) (base : Nat) (ok : Nat → Prop) (v : Value) (xs : List α) : Prop :=
  (∀ k, v.ownBlock = some k → ok k) ∧ OwnRow (d.M w base (fun k => ok k ∧ some k ≠ v.ownBlock)) e d.sz w base v xs
section
variable {α : Type} {d : Kd α} {e : Nat} {w w1 : World} {base : Nat} {ok ok' : Nat → Prop} {v : Value} {xs : List α}
theorem C_below {A : Option Addr} {n : Nat} (h : d.C w A n xs) (hb : Below w.heap.size w w1) : d.C w1 A n xs := ReadsRow.imp_ h hb (fun _ _ hp => d.K_below hb hp)
theorem R_nil (d : Kd α) (e : Nat) (w : World) (base : Nat) (ok : Nat → Prop) : d.R e w base ok (.slice none 0 0) [] := ⟨fun k hk => by simp [Value.ownBlock] at hk, OwnRow.none_ _ _ _ _ _⟩
theorem R_mono (h : d.R e w base ok v xs) (hok : ∀ k, ok k → ok' k) : d.R e w base ok' v xs := ⟨fun k hk => hok k (h.1 k hk), h.2.imp_ (fun _ _ hp => d.M_mono (fun k hk => ⟨hok k hk.1, hk.2⟩) hp)⟩
theorem R_bound (h : d.R e w base ok v xs) : d.R e w base (fun k => ok k ∧ base ≤ k ∧ k < w.heap.size ∧ ∃ q, q ∈ e :: d.E ∧ ∃ cells, w.heap[k]? = some (.cells cells q (0, 0))) v xs := by
  obtain ⟨h0, inner, ho, hr⟩ := h
  refine ⟨fun k hk => ?_, inner, ho, hr.imp_ (fun _ _ hp => d.M_mono (fun k hk => ?_) (d.M_bound hp))⟩
  · obtain ⟨cells, hc⟩ := own_typed ho k hk
    exact ⟨h0 k hk, own_base ho k hk, own_lt ho k hk, e, List.mem_cons_self, cells, hc⟩
  · obtain ⟨⟨h1, h2⟩, h3, h4, q, hq, hc⟩ := hk
    exact ⟨⟨h1, h3, h4, q, List.mem_cons_of_mem _ hq, hc⟩, h2⟩
theorem R_move (h : d.R e w base ok v xs) (hm : ∀ k, ok k → w1.heap[k]? = w.heap[k]?) : d.R e w1 base ok v xs := by
  obtain ⟨h0, inner, ho, hr⟩ := h
  exact ⟨h0, inner, own_move ho (fun k hk => hm k (h0 k hk)), hr.imp_ (fun _ _ hp => d.M_move (fun k hk => hm k hk.1) hp)⟩
theorem R_lower {base' : Nat} (h : d.R e w base ok v xs) (hb : base' ≤ base) : d.R e w base' ok v xs := by
  obtain ⟨h0, inner, ho, hr⟩ := h
  exact ⟨h0, inner, own_weaken ho hb, hr.imp_ (fun _ _ hp => d.M_lower hb hp)⟩
theorem R_reads (h : d.R e w base ok v xs) : ∃ A c, v = .slice A xs.length c ∧ xs.length ≤ c ∧ d.C w A xs.length xs := by
  obtain ⟨A, c, he, hl, hr⟩ := OwnRow.reads h.2
  exact ⟨A, c, he, hl, hr.imp_ (Below.refl _ _) (fun _ _ hp => d.K_of_M hp)⟩
theorem R_slice (h : d.R e w base ok v xs) : ∃ A c, v = .slice A xs.length c := by
  obtain ⟨A, c, he, _⟩ := R_reads h
  exact ⟨A, c, he⟩
end

def scalar {α : Type} (enc : α → Value) (h1 : ∀ x, (enc x).oneCell' = true) : Kd α where
  sz := 1
  E := []
  K := fun _ x cs => cs = [enc x]
  M := fun _ _ _ x cs => cs = [enc x]
  K_len := fun h => by rw [h]; rfl
  K_one := fun h u hu => by
    rw [h] at hu
    rw [List.mem_singleton.1 hu]
    exact h1 _
  K_below := fun _ h => h
  K_of_M := fun h => h
  M_mono := fun _ h => h
  M_bound := fun h => h
  M_move := fun _ h => h
  M_lower := fun _ h => h
def int (k : IntKind) : Kd Int := scalar (Value.int k) (fun _ => rfl)
def string : Kd ByteArray := scalar Value.string (fun _ => rfl)
def slice {α : Type} (e : Nat) (d : Kd α) : Kd (List α) where
  sz := 1
  E := e :: d.E
  K := fun w xs cs => ∃ A c, cs = [.slice A xs.length c] ∧ xs.length ≤ c ∧ d.C w A xs.length xs
  M := fun w base ok xs cs => ∃ v, cs = [v] ∧ d.R e w base ok v xs
  K_len := by
    rintro w x cs ⟨A, c, rfl, _⟩
    rfl
  K_one := by
    rintro w x cs ⟨A, c, rfl, _⟩ u hu
    rw [List.mem_singleton.1 hu]
    rfl
  K_below := by
    rintro w w1 x cs hb ⟨A, c, rfl, hl, hr⟩
    exact ⟨A, c, rfl, hl, C_below hr hb⟩
  K_of_M := by
    rintro w base ok x cs ⟨v, rfl, h⟩
    obtain ⟨A, c, rfl, hl, hr⟩ := R_reads h
    exact ⟨A, c, rfl, hl, hr⟩
  M_mono := by
    rintro w base ok ok' x cs hok ⟨v, rfl, h⟩
    exact ⟨v, rfl, R_mono h hok⟩
  M_bound := by
    rintro w base ok x cs ⟨v, rfl, h⟩
    exact ⟨v, rfl, R_bound h⟩
  M_move := by
    rintro w w1 base ok x cs hm ⟨v, rfl, h⟩
    exact ⟨v, rfl, R_move h hm⟩
  M_lower := by
    rintro w base base' ok x cs hb ⟨v, rfl, h⟩
    exact ⟨v, rfl, R_lower h hb⟩
def bot {α : Type} (sz : Nat) (E : List Nat) : Kd α where
  sz := sz
  E := E
  K := fun _ _ _ => False
  M := fun _ _ _ _ _ => False
  K_len := fun h => h.elim
  K_one := fun h => h.elim
  K_below := fun _ h => h
  K_of_M := fun h => h
  M_mono := fun _ h => h
  M_bound := fun h => h
  M_move := fun _ h => h
  M_lower := fun _ h => h
def upto {α : Type} (F : Kd α → Kd α) (sz : Nat) (E : List Nat) : Nat → Kd α
  | 0 => bot sz E
  | n + 1 => F (upto F sz E n)
theorem R_appended {α : Type} {d : Kd α} {e base : Nat} {ok okp : Nat → Prop} {W w1 : World} {v v1 : Value} {xs : List α} {p : α} {inner cs : List Value} (h0 : ∀ k, v.ownBlock = some k → ok k) (hr : Reps (d.M W base (fun k => ok k ∧ some k ≠ v.ownBlock)) d.sz xs inner) (hp : d.M W base okp p cs) (hokp : ∀ k, okp k → ok k ∧ some k ≠ v.ownBlock) (hfresh : ∀ k, W.heap.size ≤ k → ok k)
    (hown : w1.ownsRow base e d.sz v1 (xs.length + 1) (inner ++ cs)) (hg : W.grownBy w1 v.ownBlock) (hat : v1.ownBlock = v.ownBlock ∨ ∃ b, v1.ownBlock = some b ∧ W.heap.size ≤ b) : d.R e w1 base ok v1 (xs ++ [p]) := by
  have hne : ∀ k, some k ≠ v.ownBlock → k < W.heap.size → some k ≠ v1.ownBlock := by
    intro k hk hlt
    rcases hat with hat | ⟨b, hb, hle⟩
    · rw [hat]; exact hk
    · rw [hb]
      intro he
      injection he with he
      omega
  have step : ∀ {q : α} {c : List Value} {o : Nat → Prop}, d.M W base o q c → (∀ k, o k → ok k ∧ some k ≠ v.ownBlock) → d.M w1 base (fun k => ok k ∧ some k ≠ v1.ownBlock) q c := by
    intro q c o hq ho
    have h1 := d.M_move (w1 := w1) (fun k hk => hg.block k hk.2.2.1 (ho k hk.1).2) (d.M_bound hq)
    exact d.M_mono (fun k hk => ⟨(ho k hk.1).1, hne k (ho k hk.1).2 hk.2.2.1⟩) h1
  refine ⟨fun k hk => ?_, inner ++ cs, by rw [List.length_append, List.length_singleton]; exact hown, ?_⟩
  · rcases hat with hat | ⟨b, hb, hle⟩
    · exact h0 k (hat ▸ hk)
    · rw [hb] at hk
      injection hk with hk
      exact hfresh k (by omega)
  · exact (hr.imp_ (fun _ _ hq => step hq (fun _ hk => hk))).snoc (step hp hokp) (d.K_len (d.K_of_M hp))
section
variable {P : Program} {ops : Array Oper} {rest : List Oper} {o : Oper} {a : Act} {Q : Exit → Act → World → Prop} {α : Type}
theorem R_append (d : Kd α) {w0 W : World} (base : Nat) (hgd : o.guard = none) (s x : Operand) (t e : TypeId) (z : Value) (bytes : Nat)
    (ho : o.op = .call { callee := .builtin .append, args := #[s, x], argTypes := #[t, t] })
    (ht : P.underlying t = some (.slice e)) (hinfo : (P.info? e).map (fun i => (i.zero, i.size, i.bytes)) = some (some z, d.sz, bytes)) (hz : z.cells.size = d.sz) (hs0 : 0 < d.sz) (hb0 : 0 < bytes)
    (v : Value) (xs : List α) (p : α) (cs : List Value) (ok okp : Nat → Prop) (hs : a.eval s = v) (hx : a.eval x = .slice (some ⟨W.heap.size, 0, none⟩) 1 1) (hp : d.M W base okp p cs) (hokp : ∀ k, okp k → ok k ∧ some k ≠ v.ownBlock) (hfresh : ∀ k, W.heap.size ≤ k → ok k)
    (HO : d.R e W base ok v xs) (HB : Below base w0 W) (hbase : base ≤ W.heap.size) (hl : (xs.length + 1) * bytes ≤ 140737488355328)
    (h : ∀ v1 w1, d.R e w1 base ok v1 (xs ++ [p]) → Below base w0 w1 → W.grownBy w1 v.ownBlock → (v1.ownBlock = v.ownBlock ∨ ∃ b, v1.ownBlock = some b ∧ W.heap.size ≤ b) → wpList P ops Q rest (a.put o.dst v1) w1) :
    wpList P ops Q (o :: rest) a (W.alloc (.cells cs.toArray e)) := by
  obtain ⟨h0, inner, hown, hr⟩ := HO
  refine print_append_cells base hgd s x t e z d.sz bytes ho ht hinfo hz hs0 hb0 v xs.length inner cs hs hx (d.K_len (d.K_of_M hp)) (d.K_one (d.K_of_M hp)) hown HB hbase hl ?_
  intro v1 w1 hown1 hb1 hg1 hat1
  exact h v1 w1 (R_appended h0 hr hp hokp hfresh hown1 hg1 hat1) hb1 hg1 hat1
end
section
variable {P : Program} {ops : Array Oper} {o : Oper} {a : Act} {Q : Exit → Act → World → Prop} {Kc : Act → World → Prop} {α : Type}
end
theorem reads_of_C {α : Type} {enc : α → Value} {d : α} {h1 : ∀ x, (enc x).oneCell' = true} {w : World} {A : Option Addr} {n : Nat} {xs : List α} (h : (scalar enc h1).C w A n xs) : ReadsOf enc d w A n xs := by
  refine ⟨h.1, h.2.1, fun hn => ?_⟩
  obtain ⟨ad, e, hc⟩ := h.2.2 hn
  refine ⟨ad, e, fun j hj => ?_⟩
  have hl : j < xs.length := by have := h.1; omega
  obtain ⟨c, _, hK, hcell⟩ := hc j _ (List.getElem?_eq_getElem hl)
  have hK' : c = [enc xs[j]] := hK
  subst hK'
  have := hcell 0 _ rfl
  simpa [scalar, List.getD_eq_getElem?_getD, List.getElem?_eq_getElem hl] using this
end Kd
namespace Kd
section
variable {α : Type} {F : Kd α → Kd α} {sz : Nat} {E : List Nat} {hs : ∀ n, (upto F sz E n).sz = sz} {hE : ∀ n q, q ∈ (upto F sz E n).E → q ∈ E}
end
end Kd
namespace Kd
end Kd
namespace Kd
section
variable {α β : Type} {d : Kd α} {d' : Kd β} {e e' : Nat} {w w1 W : World} {base b b' : Nat} {ok ok' okv oku : Nat → Prop} {v u : Value} {xs : List α} {ys : List β}
theorem R_reads' {A : Option Addr} {n c : Nat} (h : d.R e w base ok (.slice A n c) xs) : n = xs.length ∧ n ≤ c ∧ d.C w A xs.length xs := by
  obtain ⟨A', c', he, hl, hr⟩ := R_reads h
  injection he with h1 h2 h3
  subst h1
  exact ⟨h2, by omega, hr⟩
end
section
variable {w W : World} {A : Option Addr} {n : Nat}
theorem at_string {xs : List ByteArray} (h : Kd.string.C w A n xs) (i : Int) (h0 : 0 ≤ i) (h1 : i < n) : ∃ ad, A = some ad ∧ w.cell? (ad.add i.toNat) = some (.string (rdOf ByteArray.empty xs i)) :=
  ReadsOf.at_ (reads_of_C (enc := Value.string) (d := ByteArray.empty) (h1 := fun _ => rfl) h) i h0 h1
variable {α : Type} {enc : α → Value} {h1 : ∀ x, (enc x).oneCell' = true} {e base g cap : Nat} {ok : Nat → Prop} {xs : List α}
end

section
variable {P : Program} {ops : Array Oper} {rest : List Oper} {o : Oper} {a : Act} {Q : Exit → Act → World → Prop}
variable {α : Type}
end
end Kd
section
variable {P : Program}
end
def QRow (w : World) (base : Nat) (e : TypeId) (size : Nat) (v : Value) (n : Nat) (xs : List Value) : Prop :=
  xs.length = n * size ∧
  ((n = 0 ∧ ∃ A, v = .slice A 0 0 ∧ ∀ a, A = some a → base ≤ a.block ∧ ∃ cur, w.heap[a.block]? = some (.cells cur e (0, 0))) ∨
   ∃ g off cap cur, v = .slice (some ⟨g, off * size, none⟩) n cap ∧ base ≤ g ∧ w.heap[g]? = some (.cells cur e (0, 0)) ∧ n ≤ cap ∧ off + cap ≤ maxLen ∧ cur.size = (off + cap) * size ∧ (cur.toList.drop (off * size)).take (n * size) = xs)
section
variable {w w1 : World} {base n size : Nat} {e : TypeId} {v : Value} {xs : List Value}
end
section
variable {P : Program}
end
namespace Kd
def Q {α : Type} (d : Kd α) (e : Nat) (w : World) (base : Nat) (ok : Nat → Prop) (v : Value) (xs : List α) : Prop :=
  (∀ k, v.ownBlock = some k → ok k) ∧ ∃ inner, QRow w base e d.sz v xs.length inner ∧ Reps (d.M w base (fun k => ok k ∧ some k ≠ v.ownBlock)) d.sz xs inner
section
variable {α : Type} {d : Kd α} {e : Nat} {w w1 W : World} {base : Nat} {ok ok' : Nat → Prop} {v : Value} {xs : List α}
end
section
variable {P : Program} {ops : Array Oper} {rest : List Oper} {o : Oper} {a : Act} {Q' : Exit → Act → World → Prop} {Kc : Act → World → Prop} {α : Type}
end
end Kd
namespace Kd
section
variable {α : Type} {d : Kd α} {e e' : Nat} {w w1 W : World} {base : Nat} {ok : Nat → Prop} {u v : Value} {xs : List α}
end
end Kd
namespace Kd
section
variable {α : Type} {d : Kd α} {e base g n cap : Nat} {ok okp : Nat → Prop} {W : World} {xs : List α}
end
end Kd
namespace Kd
section
variable {α : Type} {F : Kd α → Kd α} {sz : Nat} {E : List Nat} {hs : ∀ n, (upto F sz E n).sz = sz} {hE : ∀ n q, q ∈ (upto F sz E n).E → q ∈ E}
end
end Kd
namespace Kd
section
variable {P : Program} {ops : Array Oper} {rest : List Oper} {o : Oper} {a : Act} {Q : Exit → Act → World → Prop} {α : Type}
end
end Kd
namespace Kd
section
variable {P : Program} {ops : Array Oper} {rest : List Oper} {o : Oper} {a : Act} {Q : Exit → Act → World → Prop} {α : Type}
end
end Kd
namespace Kd
section
variable {α : Type} {k : Kd α} {w : World} {A : Option Addr} {xs : List α} {m c : Nat}
end
end Kd
section
variable {P : Program}
end
theorem below_size {w W : World} (h : Below w.heap.size w W) : w.heap.size ≤ W.heap.size := h.size
theorem ReadsInt.drewN {W : World} {k : IntKind} {A : Option Addr} {n : Nat} {xs : List Int} (h : ReadsInt W k A n xs) (m : Nat) : ReadsInt (W.drewN m) k A n xs := h
theorem add_block (a : Addr) (i : Nat) : (a.add i).block = a.block := by unfold Addr.add; split <;> rfl
theorem ReadsOf.drewN {α : Type} {enc : α → Value} {d : α} {W : World} {A : Option Addr} {n : Nat} {xs : List α} (h : ReadsOf enc d W A n xs) (m : Nat) : ReadsOf enc d (W.drewN m) A n xs := h
namespace Kd
section
variable {α β : Type} {d : Kd α} {d' : Kd β} {e e' base base' n : Nat} {ok ok' : Nat → Prop} {w W w1 W1 : World} {v u : Value} {xs : List α} {ys : List β} {A : Option Addr} {c : Nat}
end
section
variable {α : Type} {enc : α → Value} {h1 : ∀ x, (enc x).oneCell' = true} {w W : World} {A : Option Addr} {n g : Nat} {xs : List α}
end
end Kd
namespace Kd
section
variable {α : Type} {d : Kd α} {e base g : Nat} {ok : Nat → Prop} {w w1 : World} {v : Value} {xs : List α} {o : Obj}
end
end Kd
section
variable {P : Program} {ops : Array Oper} {rest : List Oper} {o : Oper} {a : Act} {Q : Exit → Act → World → Prop}
end
namespace Kd
section
variable {α : Type} {enc : α → Value} {h1 : ∀ x, (enc x).oneCell' = true} {e base g n cap : Nat} {ok : Nat → Prop} {W : World} {xs : List α}
end
end Kd
section
variable {P : Program} {ops : Array Oper} {rest : List Oper} {o : Oper} {a : Act} {Q : Exit → Act → World → Prop}
end
namespace Kd
section
variable {α : Type} {enc : α → Value} {h1 : ∀ x, (enc x).oneCell' = true} {e base g n cap : Nat} {ok : Nat → Prop} {W : World} {xs : List α}
end
end Kd
section
variable {P : Program} {ops : Array Oper} {rest : List Oper} {o : Oper} {a : Act} {Q : Exit → Act → World → Prop} {W : World}
end
section
variable {P : Program} {ops : Array Oper} {o : Oper} {a : Act} {Q : Exit → Act → World → Prop} {Kc : Act → World → Prop}
namespace Kd
variable {α : Type}
end Kd
end
section
variable {P : Program} {tmps : Array Value} {w : World}
end
namespace Kd
section
variable {P : Program} {α : Type}
end
section
variable {P : Program} {ops : Array Oper} {rest : List Oper} {o : Oper} {a : Act} {Q : Exit → Act → World → Prop} {Kc : Act → World → Prop} {α : Type}
end
end Kd

end Go.Proofs.YtchhfpkdleifdaaW.PrintWords
/- What a reading of an argument gives: lists, numbers, texts, records in memory, with their bounds. -/
namespace Go.Proofs.Ytchhfpkdleifdaa.H
open Go.RowKit Go.ChangeShapes Go.WideShapes Go.ChangeAt YtchhfpkdleifdaaW.PrintWords

theorem bulk_one_le {H : Type} (d : DataW H) : 1 ≤ Rows.uptoBulk d := by
 cases d with
 | lit l => cases l <;> simp [Rows.uptoBulk]
 | nil => simp [Rows.uptoBulk]
 | ptr d => simp [Rows.uptoBulk]
 | slice elems spare => simp [Rows.uptoBulk]
 | agg parts => simp [Rows.uptoBulk]
 | iface t d => simp [Rows.uptoBulk]
 | map entries => simp [Rows.uptoBulk]
 | held h => simp [Rows.uptoBulk]

def Opn (P : Program) (t : TypeId) {α : Type} (d : Kd α) (g z : α → Prop) (m : α → Nat) : Prop :=
 ∀ (H : Type) (enc : TypeId × Value → H) (W : World) (spare : Nat → Bool) (held : Bool) (fuel : Nat) (cs : List Value) (x : DataW H × List MemPlace),
  DataW.trod enc P W 0 spare held fuel t cs = some x → ∃ a, d.K W a cs ∧ g a ∧ ((∀ n ∈ x.1.weights P t, n ≤ reachBytes) → z a) ∧ m a ≤ Rows.uptoBulk x.1
section
variable {P : Program} {t e : TypeId}
theorem opn_int {k : IntKind} (hu : P.underlying t = some (.int k)) : Opn P t (Kd.int k) (fun n => (Lit.int k n).wf = true) (fun _ => True) (fun _ => 1) := by
 intro H enc W spare held fuel cs x h
 cases fuel with
 | zero => simp [DataW.trod] at h
 | succ n =>
  unfold DataW.trod at h
  rw [hu] at h
  split at h <;> simp_all
  all_goals
   obtain ⟨⟨rfl, hw⟩, rfl⟩ := h
   exact ⟨_, rfl, by simpa using hw, bulk_one_le _⟩
theorem opn_string (hu : P.underlying t = some .string) : Opn P t Kd.string (fun s => s.size ≤ maxLen) (fun s => s.size ≤ reachBytes) (fun s => s.size + 1) := by
 intro H enc W spare held fuel cs x h
 cases fuel with
 | zero => simp [DataW.trod] at h
 | succ n =>
  unfold DataW.trod at h
  rw [hu] at h
  split at h <;> simp_all
  all_goals
   obtain ⟨hw, rfl⟩ := h
   refine ⟨_, rfl, hw, ?_, ?_⟩
   · intro hz
     simpa [DataW.weights] using hz
   · simp [Rows.uptoBulk]
theorem opn_trod {H : Type} {enc : TypeId × Value → H} {W : World} {spare : Nat → Bool} {held : Bool} {α : Type} {d : Kd α} {g z : α → Prop} {m : α → Nat} {v : Value} {x : DataW H} {ps : List MemPlace} (h : Opn P t d g z m) (hx : DataW.Trod enc P W 0 spare held t v x ps) :
 ∃ a, d.K W a v.cells.toList ∧ g a ∧ ((∀ n ∈ x.weights P t, n ≤ reachBytes) → z a) ∧ m a ≤ Rows.uptoBulk x := by
 obtain ⟨fuel, hf⟩ := hx
 exact h H enc W spare held fuel _ _ hf
theorem trod_below {H : Type} {enc : TypeId × Value → H} {W : World} {spare : Nat → Bool} {held : Bool} {v : Value} {x : DataW H} {ps : List MemPlace} (hx : DataW.Trod enc P W 0 spare held t v x ps) : ∀ p ∈ ps, p.block < W.heap.size := by
 obtain ⟨m, hm⟩ := hx
 exact DataW.trod_lt m _ _ _ hm
end
end Go.Proofs.Ytchhfpkdleifdaa.H
namespace Go.Proofs.YtchhfpkdleifdaaW.PrintLast

section
variable {P : Program} {ops : Array Oper} {Q : Exit → Act → World → Prop} {md : Region.Mode} {S : World → Prop} {ds : List Nat}

def Region.reachB (md : Region.Mode) (ops : Array Oper) (i : Nat) : Nat → Nat → Bool
  | 0, _ => false
  | fuel + 1, d => match ops[d]? with
    | some o => o.after.any fun e => Region.binds md e && (e.on == i || Region.reachB md ops i fuel e.on)
    | none => false

def Region.lastB (md : Region.Mode) (ops : Array Oper) (listed : Array Bool) (ds : List Nat) (i : Nat) : Bool :=
  ds.all fun d => listed.getD d true || Region.reachB md ops i ops.size d

end

section
variable {P : Program} {ops : Array Oper} {Q : Exit → Act → World → Prop} {md : Region.Mode} {S : World → Prop} {ds : List Nat}

theorem i64_w (n : Int) : IntKind.i64.wrap n = Go.RowKit.wrap64 n := by unfold Go.RowKit.wrap64; exact IntKind.wrap_i64 n
theorem i32_w (n : Int) : IntKind.i32.wrap n = Go.RowKit.wrap32 n := by unfold Go.RowKit.wrap32; exact IntKind.wrap_i32 n
end
end Go.Proofs.YtchhfpkdleifdaaW.PrintLast
namespace Go.Proofs.YtchhfpkdleifdaaW.PrintLast
open YtchhfpkdleifdaaW.PrintWords (Aside0)
section
variable {md : Region.Mode} {ops : Array Oper} {T : Bool × List (List Nat × List Nat)} {l l' li lj lk : Array Bool} {ds : List Nat} {i j k : Nat}
end
end Go.Proofs.YtchhfpkdleifdaaW.PrintLast
namespace Go.Proofs.YtchhfpkdleifdaaW.PrintLast
section
variable {P : Program} {ops : Array Oper} {Q : Exit → Act → World → Prop} {md : Region.Mode} {S : World → Prop} {ds : List Nat} {T : Bool × List (List Nat × List Nat)}
end
end Go.Proofs.YtchhfpkdleifdaaW.PrintLast
namespace Go.Proofs.YtchhfpkdleifdaaW.PrintWords
open Go.RowKit
namespace Kd
section
variable {α : Type} {d : Kd α} {e base g o n cap : Nat} {ok okp : Nat → Prop} {w W : World} {v : Value} {xs : List α}
end
section
variable {α : Type} {enc : α → Value} {h1 : ∀ x, (enc x).oneCell' = true} {e base g o n cap : Nat} {ok : Nat → Prop} {W : World} {xs : List α}
end
end Kd
end Go.Proofs.YtchhfpkdleifdaaW.PrintWords
/-! ### 40. Elements whose inner rows lie apart: what is stored into one says nothing of the others.
   S: as_ R, with an owner function f (block to element's index). H: as_ S with a hole: of element i its cells alone are told, its blocks are oki. -/
namespace Go.Proofs.YtchhfpkdleifdaaW.PrintWords
open Go.RowKit
namespace Kd
def tag {α : Type} (f : Nat → Nat) (d : Kd α) : Kd (α × Nat) where
  sz := d.sz
  E := d.E
  K := fun w x cs => d.K w x.1 cs
  M := fun w base ok x cs => d.M w base (fun k => ok k ∧ f k = x.2) x.1 cs
  K_len := fun h => d.K_len h
  K_one := fun h => d.K_one h
  K_below := fun hb h => d.K_below hb h
  K_of_M := fun h => d.K_of_M h
  M_mono := fun hok h => d.M_mono (fun k hk => ⟨hok k hk.1, hk.2⟩) h
  M_bound := fun h => d.M_mono (fun _ hk => ⟨⟨hk.1.1, hk.2⟩, hk.1.2⟩) (d.M_bound h)
  M_move := fun hm h => d.M_move (fun k hk => hm k hk.1) h
  M_lower := fun hb h => d.M_lower hb h
def raw (sz : Nat) : Kd (List Value) where
  sz := sz
  E := []
  K := fun _ x cs => cs = x ∧ cs.length = sz ∧ ∀ u ∈ cs, u.oneCell' = true
  M := fun _ _ _ x cs => cs = x ∧ cs.length = sz ∧ ∀ u ∈ cs, u.oneCell' = true
  K_len := fun h => h.2.1
  K_one := fun h => h.2.2
  K_below := fun _ h => h
  K_of_M := fun h => h
  M_mono := fun _ h => h
  M_bound := fun h => h
  M_move := fun _ h => h
  M_lower := fun _ h => h
def S {α : Type} (d : Kd α) (e : Nat) (w : World) (base : Nat) (ok : Nat → Prop) (v : Value) (xs : List α) : Prop := ∃ f, (tag f d).R e w base ok v xs.zipIdx
section
variable {α β : Type} {d : Kd α} {d' : Kd β} {e e' : Nat} {w w1 W : World} {base b : Nat} {ok ok' okv oku : Nat → Prop} {u v : Value} {xs : List α} {ys : List β}
end
section
variable {α β : Type} {d : Kd α} {d' : Kd β} {e e' g : Nat} {w w1 W : World} {base b : Nat} {ok ok' okv oku : Nat → Prop} {u v : Value} {xs : List α} {ys : List β}
end
section
variable {P : Program} {ops : Array Oper} {rest : List Oper} {o : Oper} {a : Act} {Q : Exit → Act → World → Prop} {Kc : Act → World → Prop} {α : Type}
end
def gap {α : Type} (f : Nat → Nat) (d : Kd α) (i : Nat) (c : List Value) : Kd (α × Nat) where
  sz := d.sz
  E := d.E
  K := fun w x cs => (x.2 = i → cs = c ∧ cs.length = d.sz ∧ ∀ u ∈ cs, u.oneCell' = true) ∧ (x.2 ≠ i → d.K w x.1 cs)
  M := fun w base ok x cs => (x.2 = i → cs = c ∧ cs.length = d.sz ∧ ∀ u ∈ cs, u.oneCell' = true) ∧ (x.2 ≠ i → d.M w base (fun k => ok k ∧ f k = x.2) x.1 cs)
  K_len := fun {w x cs} h => by
    by_cases hx : x.2 = i
    · exact (h.1 hx).2.1
    · exact d.K_len (h.2 hx)
  K_one := fun {w x cs} h => by
    by_cases hx : x.2 = i
    · exact (h.1 hx).2.2
    · exact d.K_one (h.2 hx)
  K_below := fun hb h => ⟨h.1, fun hx => d.K_below hb (h.2 hx)⟩
  K_of_M := fun h => ⟨h.1, fun hx => d.K_of_M (h.2 hx)⟩
  M_mono := fun hok h => ⟨h.1, fun hx => d.M_mono (fun k hk => ⟨hok k hk.1, hk.2⟩) (h.2 hx)⟩
  M_bound := fun h => ⟨h.1, fun hx => d.M_mono (fun _ hk => ⟨⟨hk.1.1, hk.2⟩, hk.1.2⟩) (d.M_bound (h.2 hx))⟩
  M_move := fun hm h => ⟨h.1, fun hx => d.M_move (fun k hk => hm k hk.1) (h.2 hx)⟩
  M_lower := fun hb h => ⟨h.1, fun hx => d.M_lower hb (h.2 hx)⟩
def H {α : Type} (d : Kd α) (e : Nat) (w : World) (base : Nat) (ok : Nat → Prop) (v : Value) (xs : List α) (i : Int) (oki : Nat → Prop) (c : List Value) : Prop :=
  (∀ k, oki k → ok k) ∧ ∃ f, (gap f d i.toNat c).R e w base (fun k => ok k ∧ ¬ oki k) v xs.zipIdx
section
variable {α β : Type} {d : Kd α} {e e' g n cap : Nat} {w w1 W : World} {base : Nat} {ok ok' oki okp : Nat → Prop} {u v : Value} {xs : List α} {i : Int} {c : List Value}
end
section
variable {P : Program} {ops : Array Oper} {rest : List Oper} {o : Oper} {a : Act} {Q : Exit → Act → World → Prop} {α : Type}
end
end Kd
end Go.Proofs.YtchhfpkdleifdaaW.PrintWords
namespace Go.Proofs.YtchhfpkdleifdaaW.PrintWords
open Go.RowKit
namespace Kd
section
variable {α : Type} {n : Nat} {d : Kd α} {hs : 0 < d.sz} {w : World} {base : Nat} {ok : Nat → Prop} {xs : List α} {cs : List Value}
end
section
variable {α : Type} {n : Nat} {enc : α → Value} {h1 : ∀ x, (enc x).oneCell' = true} {hs : 0 < (scalar enc h1).sz} {w : World} {base : Nat} {ok : Nat → Prop} {xs : List α} {cs : List Value}
end
end Kd
end Go.Proofs.YtchhfpkdleifdaaW.PrintWords
namespace Go.Proofs.YtchhfpkdleifdaaW.PrintWords
open Go.RowKit
section
variable {P : Program}
end
namespace Kd
section
variable {P : Program} {ops : Array Oper} {rest : List Oper} {o : Oper} {a : Act} {Q : Exit → Act → World → Prop} {Kc : Act → World → Prop} {α : Type}
end
section
variable {α : Type} {d : Kd α} {e : Nat} {w : World} {base : Nat} {ok : Nat → Prop} {v : Value} {xs : List α}
end
section
variable {P : Program} {ops : Array Oper} {rest : List Oper} {o : Oper} {a : Act} {Q : Exit → Act → World → Prop} {Kc : Act → World → Prop} {α : Type}
end
end Kd
end Go.Proofs.YtchhfpkdleifdaaW.PrintWords
namespace Go.Proofs.YtchhfpkdleifdaaW.PrintWords
open Go.RowKit
namespace Kd
structure Heap {α : Type} (d : Kd α) : Prop where
  K : ∀ {w w1 : World} {x : α} {cs : List Value}, (∀ k, k < w.heap.size → w1.heap[k]? = w.heap[k]?) → d.K w x cs → d.K w1 x cs
theorem cell_heap {w w1 : World} (hb : ∀ k, k < w.heap.size → w1.heap[k]? = w.heap[k]?) {a : Addr} {v : Value} (h : w.cell? a = some v) : w1.cell? a = some v := by
  have := hb a.block (World.block_lt_of_cell? w a h)
  simpa [World.cell?, this] using h
theorem Heap.C {α : Type} {d : Kd α} (hd : Heap d) {w w1 : World} {A : Option Addr} {n : Nat} {xs : List α} (hb : ∀ k, k < w.heap.size → w1.heap[k]? = w.heap[k]?) (h : d.C w A n xs) : d.C w1 A n xs :=
  ⟨h.1, h.2.1, fun hn => by
    obtain ⟨ad, e, hc⟩ := h.2.2 hn
    refine ⟨ad, e, fun j p hj => ?_⟩
    obtain ⟨c, hs, hr, hcell⟩ := hc j p hj
    exact ⟨c, hs, hd.K hb hr, fun i u hu => cell_heap hb (hcell i u hu)⟩⟩
section
variable {α : Type} {d : Kd α} {e base g n c : Nat} {ok : Nat → Prop} {w w0 W : World} {A : Option Addr} {xs : List α}
end
end Kd
end Go.Proofs.YtchhfpkdleifdaaW.PrintWords
namespace Go.Proofs.YtchhfpkdleifdaaW.PrintWords
open Go.RowKit
def Kept (w W : World) (S : Nat → Prop) : Prop := w.heap.size ≤ W.heap.size ∧ ∀ i, i < w.heap.size → ¬ S i → W.heap[i]? = w.heap[i]?
section
variable {w W W2 : World} {S S2 S' : Nat → Prop}
theorem Kept.refl (w : World) (S : Nat → Prop) : Kept w w S := ⟨Nat.le_refl _, fun _ _ _ => rfl⟩
theorem Kept.of_below (h : Below w.heap.size w W) (S : Nat → Prop) : Kept w W S := ⟨h.size, fun i hi _ => h.block i hi⟩
theorem Kept.mono (h : Kept w W S) (hs : ∀ k, S k → S' k) : Kept w W S' := ⟨h.1, fun i hi hn => h.2 i hi (fun hk => hn (hs i hk))⟩
theorem Kept.then_ (h : Kept w W S) (k : Kept W W2 S2) (hs : ∀ k, S2 k → S k ∨ w.heap.size ≤ k) : Kept w W2 S :=
  ⟨Nat.le_trans h.1 k.1, fun i hi hn => (k.2 i (Nat.lt_of_lt_of_le hi h.1) (fun h2 => (hs i h2).elim hn (fun h3 => by omega))).trans (h.2 i hi hn)⟩
theorem Kept.below (h : Kept w W S) (hb : Below W.heap.size W W2) : Kept w W2 S := h.then_ (Kept.of_below hb (fun _ => False)) (fun _ hk => hk.elim)
theorem Kept.alloc (h : Kept w W S) (o : Obj) : Kept w (W.alloc o) S := h.below (below_alloc (Below.refl _ _) o)
theorem Kept.drew (h : Kept w W S) : Kept w W.drew S := h
theorem Kept.drewN (h : Kept w W S) (m : Nat) : Kept w (W.drewN m) S := h
end
namespace Kd
section
variable {α : Type} {d : Kd α} {e base n c : Nat} {ok oki S S2 : Nat → Prop} {w w0 W W1 W2 : World} {v : Value} {A : Option Addr} {xs : List α} {i : Int} {cs : List Value}
end
end Kd
end Go.Proofs.YtchhfpkdleifdaaW.PrintWords
namespace Go.Proofs.YtchhfpkdleifdaaW.PrintWords
open Go.RowKit
def Foot (P : World → Prop) (W : World) (ok : Nat → Prop) : Prop := ∀ W' : World, (∀ k, ok k → k < W.heap.size → W'.heap[k]? = W.heap[k]?) → P W'
namespace Foot
variable {P Q : World → Prop} {W W1 : World} {ok ok' : Nat → Prop}
theorem mono (h : Foot P W ok) (hok : ∀ k, ok k → ok' k) : Foot P W ok' := fun W' hW => h W' (fun k hk hlt => hW k (hok k hk) hlt)
end Foot
namespace Kd
def F {α : Type} (d : Kd α) (W : World) (ok : Nat → Prop) (A : Option Addr) (n : Nat) (xs : List α) : Prop := Foot (fun W => d.C W A n xs) W ok
def FK {α : Type} (d : Kd α) (W : World) (ok : Nat → Prop) (x : α) (c : List Value) : Prop := Foot (fun W => d.K W x c) W ok
section
variable {α β : Type} {d : Kd α} {e base n n' cc g N : Nat} {ok ok' okp S : Nat → Prop} {w w0 w1 W W1 : World} {A A' : Option Addr} {u v v1 : Value} {xs : List α} {xs' : List β} {d' : Kd β} {x : α} {c : List Value}
end
end Kd
end Go.Proofs.YtchhfpkdleifdaaW.PrintWords
namespace Go.Proofs.YtchhfpkdleifdaaW.PrintWords
open Go.RowKit
namespace Kd
section
variable {α : Type} {d : Kd α} {e base n cc g : Nat} {ok ok' okp S : Nat → Prop} {w w1 W W1 : World} {A : Option Addr} {u v v1 : Value} {xs : List α} {x : α} {c : List Value}
def N {α : Type} (d : Kd α) (e : Nat) (w : World) (base : Nat) (ok : Nat → Prop) (v : Value) (xs : List α) : Prop :=
  (∀ k, v.ownBlock = some k → ok k) ∧ ∃ rows : List (List Value), rows.length = xs.length ∧ (raw d.sz).R e w base (fun k => some k = v.ownBlock) v rows ∧ ∀ (j : Nat) (x : α) (c : List Value), xs[j]? = some x → rows[j]? = some c → FK d w (fun k => ok k ∧ some k ≠ v.ownBlock) x c
end
end Kd
end Go.Proofs.YtchhfpkdleifdaaW.PrintWords
namespace Go.Proofs.YtchhfpkdleifdaaW.PrintWords
open Go.RowKit
namespace Kd
section
variable {α : Type} {d : Kd α} {W : World} {g n : Nat} {S ok : Nat → Prop} {A : Option Addr} {ad : Addr} {xs : List α}
end
end Kd
end Go.Proofs.YtchhfpkdleifdaaW.PrintWords
namespace Go.Proofs.YtchhfpkdleifdaaW.PrintWords
open Go.RowKit
section
variable {w w' u : World} {m B g : Nat} {o : Obj} {row : Option Nat} {S : Nat → Prop} {a : Addr} {v : Value}
end
namespace Kd
section
variable {α : Type} {d : Kd α} {e base n m : Nat} {ok : Nat → Prop} {w w' : World} {v : Value} {A : Option Addr} {xs : List α}
end
end Kd
end Go.Proofs.YtchhfpkdleifdaaW.PrintWords
namespace Go.Proofs.YtchhfpkdleifdaaW.PrintWords
open Go.RowKit
section
variable {P : Program} {d : Nat} {xs ys : Array Value} {f : Field} {fs : List Field} {a b : Value} {r s : Bool} {w : World}
end
end Go.Proofs.YtchhfpkdleifdaaW.PrintWords
namespace Go.Proofs.YtchhfpkdleifdaaW.PrintWords
end Go.Proofs.YtchhfpkdleifdaaW.PrintWords
namespace Go.Proofs.YtchhfpkdleifdaaW.PrintLast
section
variable {P : Program} {ops : Array Oper} {Q : Exit → Act → World → Prop} {md : Region.Mode} {T : Bool × List (List Nat × List Nat)} {B : List Nat} {O : List Nat} {b : Nat → Bool} {i j n : Nat}
end
end Go.Proofs.YtchhfpkdleifdaaW.PrintLast
namespace Go.Proofs.YtchhfpkdleifdaaW.PrintWords
open Go.RowKit
end Go.Proofs.YtchhfpkdleifdaaW.PrintWords
namespace Go.Proofs.YtchhfpkdleifdaaW.PrintLast
section
variable {ops : Array Oper} {a : Act} {o og : Oper} {g : Nat} {t : Tmp} {u : Bool}
end
end Go.Proofs.YtchhfpkdleifdaaW.PrintLast
namespace Go.Proofs.YtchhfpkdleifdaaW.PrintWords
open Go.RowKit
section
variable {P : Program} {ops : Array Oper} {rest : List Oper} {o : Oper} {a : Act} {Q : Exit → Act → World → Prop} {W : World}
end
end Go.Proofs.YtchhfpkdleifdaaW.PrintWords
namespace Go.Proofs.YtchhfpkdleifdaaW.PrintWords
open Go.RowKit
namespace Kd
section
variable {α : Type} {d : Kd α} {e base n cap g : Nat} {ok ok' okp : Nat → Prop} {w w1 W : World} {v v1 : Value} {xs ys : List α}
end
section
variable {P : Program} {ops : Array Oper} {rest : List Oper} {o : Oper} {a : Act} {Q : Exit → Act → World → Prop} {Kc : Act → World → Prop} {α : Type}
end
end Kd
end Go.Proofs.YtchhfpkdleifdaaW.PrintWords
namespace Go.Proofs.YtchhfpkdleifdaaW.PrintMore
open Go.RowKit YtchhfpkdleifdaaW.PrintWords
namespace Kd
open YtchhfpkdleifdaaW.PrintWords.Kd
end Kd

namespace Kd
open YtchhfpkdleifdaaW.PrintWords.Kd
section
variable {α : Type} {d : Kd α} {e base g N : Nat} {ok : Nat → Prop} {W w1 : World} {u v : Value} {xs : List α}
end
end Kd
theorem max2_int (k k' : IntKind) (x y : Int) : Builtin.max2 (.int k x) (.int k' y) = pure (.int k (if x < y then y else x)) := by simp only [Builtin.max2, gt_iff_lt]
theorem min2_int (k k' : IntKind) (x y : Int) : Builtin.min2 (.int k x) (.int k' y) = pure (.int k (if y < x then y else x)) := by simp only [Builtin.min2]
theorem max_two (ats : Array TypeId) (ty : TypeId) (a b : Value) : Builtin.max_ ats ty #[a, b] = (Builtin.max2 a b >>= fun s => pure s) := by simp only [Builtin.max_, List.foldlM_cons, List.foldlM_nil]
theorem min_two (ats : Array TypeId) (ty : TypeId) (a b : Value) : Builtin.min_ ats ty #[a, b] = (Builtin.min2 a b >>= fun s => pure s) := by simp only [Builtin.min_, List.foldlM_cons, List.foldlM_nil]
theorem max_three (ats : Array TypeId) (ty : TypeId) (a b c : Value) : Builtin.max_ ats ty #[a, b, c] = (Builtin.max2 a b >>= fun s => Builtin.max2 s c >>= fun s => pure s) := by simp only [Builtin.max_, List.foldlM_cons, List.foldlM_nil]
theorem min_three (ats : Array TypeId) (ty : TypeId) (a b c : Value) : Builtin.min_ ats ty #[a, b, c] = (Builtin.min2 a b >>= fun s => Builtin.min2 s c >>= fun s => pure s) := by simp only [Builtin.min_, List.foldlM_cons, List.foldlM_nil]
theorem max_four (ats : Array TypeId) (ty : TypeId) (a b c d : Value) : Builtin.max_ ats ty #[a, b, c, d] = (Builtin.max2 a b >>= fun s => Builtin.max2 s c >>= fun s => Builtin.max2 s d >>= fun s => pure s) := by simp only [Builtin.max_, List.foldlM_cons, List.foldlM_nil]
theorem min_four (ats : Array TypeId) (ty : TypeId) (a b c d : Value) : Builtin.min_ ats ty #[a, b, c, d] = (Builtin.min2 a b >>= fun s => Builtin.min2 s c >>= fun s => Builtin.min2 s d >>= fun s => pure s) := by simp only [Builtin.min_, List.foldlM_cons, List.foldlM_nil]
end Go.Proofs.YtchhfpkdleifdaaW.PrintMore
namespace Go.Proofs.YtchhfpkdleifdaaW.PrintWords
open Go.RowKit
section
variable {P : Program} {ops : Array Oper} {rest : List Oper} {o : Oper} {a : Act} {Q : Exit → Act → World → Prop} {W : World}
theorem gate_builtin {b : Builtin} {xs : Array Operand} {ts : Array TypeId} (_ho : o.op = .call { callee := .builtin b, args := xs, argTypes := ts }) (h : wpList P ops Q (o :: rest) a W) : wpList P ops Q (o :: rest) a W := h
end
namespace Kd
section
variable {α : Type} {d : Kd α} {e base : Nat} {ok : Nat → Prop} {W w1 : World} {v : Value} {xs : List α}
end
section
variable {α : Type} {d : Kd α} {e base g n cap : Nat} {ok oki okp : Nat → Prop} {W : World} {xs : List α} {i : Int} {c : List Value}
end
section
variable {α : Type} {d : Kd α} {e base b b' g N : Nat} {ok ok1 : Nat → Prop} {W W2 w1 : World} {u v : Value} {xs ys : List α} {S : Nat → Prop}
end
end Kd
end Go.Proofs.YtchhfpkdleifdaaW.PrintWords
namespace Go.Proofs.YtchhfpkdleifdaaW.PrintWords
open Go.RowKit
namespace Kd
def V {α : Type} (d : Kd α) (_e : Nat) (W : World) (_base : Nat) (ok : Nat → Prop) (v : Value) (xs : List α) : Prop := ∃ A c, v = .slice A xs.length c ∧ xs.length ≤ c ∧ F d W ok A xs.length xs
section
variable {α β : Type} {d : Kd α} {e base base' n m c g N' lo hi : Nat} {ok ok' S : Nat → Prop} {w W w1 : World} {A : Option Addr} {ad : Addr} {u v v1 : Value} {xs : List α}
end
end Kd
end Go.Proofs.YtchhfpkdleifdaaW.PrintWords
namespace Go.Proofs.Ytchhfpkdleifdaa.Cl
open Go.RowKit YtchhfpkdleifdaaW.PrintWords YtchhfpkdleifdaaW.PrintLast YtchhfpkdleifdaaW.PrintMore
attribute [local go_sem] max2_int min2_int max_two min_two max_three min_three max_four min_four   -- for this text's walks alone
set_option linter.unusedVariables false
set_option linter.unusedSimpArgs false



theorem info9 : (Try.prog.info? 9).map (fun i => (i.zero, i.size, i.bytes)) = some (some (.string ⟨#[]⟩), 1, 16) := by kernel_rfl

end Go.Proofs.Ytchhfpkdleifdaa.Cl
namespace Go.Proofs.Ytchhfpkdleifdaa.Cl
open Go.RowKit YtchhfpkdleifdaaW.PrintWords YtchhfpkdleifdaaW.PrintLast YtchhfpkdleifdaaW.PrintMore
attribute [local go_sem] max2_int min2_int max_two min_two max_three min_three max_four min_four   -- for this text's walks alone
set_option linter.unusedVariables false
set_option linter.unusedSimpArgs false

def dovetailref02_Lines.l0 : Nat → ByteArray → List ByteArray → Int → Int → Option (List ByteArray)
 | 0, _, _, _, _ => none
 | k + 1, x0, x3, x4, x5 => if x5 < (x0.size : Int) then (if 0 ≤ x5 then (if (bt x0 x5) = 10 then (if 0 ≤ x4 then (if x4 ≤ x5 then (if x5 ≤ (x0.size : Int) then (if x3.length < 8796093022208 then (dovetailref02_Lines.l0 k x0 (x3 ++ [x0.extract (x4 : Int).toNat (x5 : Int).toNat]) (wrap64 (x5 + 1)) (wrap64 (x5 + 1))) else (none)) else (none)) else (none)) else (none)) else (dovetailref02_Lines.l0 k x0 x3 x4 (wrap64 (x5 + 1)))) else (none)) else (if x4 < (x0.size : Int) then (if 0 ≤ x4 then (if x4 ≤ (x0.size : Int) then (if x3.length < 8796093022208 then (some (x3 ++ [x0.extract (x4 : Int).toNat x0.size])) else (none)) else (none)) else (none)) else (some x3))
def dovetailref02_Lines.f (k : Nat) (a0 : ByteArray) : Option (List ByteArray) := dovetailref02_Lines.l0 k a0 ([] : List ByteArray) 0 0
theorem dovetailref02_Lines.mono_l : ∀ k, (∀ y0 y1 y2 y3, LeO (dovetailref02_Lines.l0 k y0 y1 y2 y3) (dovetailref02_Lines.l0 (k + 1) y0 y1 y2 y3))
 | 0 => fun _ _ _ _ r h => by simp [dovetailref02_Lines.l0] at h
 | k + 1 => by
  have ih0 := dovetailref02_Lines.mono_l k
  · intro y0 y1 y2 y3
    unfold dovetailref02_Lines.l0
    repeat' first
    | (with_reducible exact ih0 _ _ _ _)
    | (with_reducible exact LeO.refl _)
    | (with_reducible exact LeO.none _)
    | (with_reducible refine LeO.ite ?_ ?_)
    | (with_reducible refine LeO.bind ?_ (fun _ => ?_))
    | exact ih0 _ _ _ _
    | exact LeO.none _
    | refine LeO.ite ?_ ?_
    | refine LeO.bind ?_ (fun _ => ?_)
theorem dovetailref02_Lines.mono : ∀ a0 k, LeO (dovetailref02_Lines.f k a0) (dovetailref02_Lines.f (k + 1) a0) := by
 intro a0 k
 have ih0 := dovetailref02_Lines.mono_l k
 unfold dovetailref02_Lines.f
 repeat' first
  | (with_reducible exact ih0 _ _ _ _)
  | (with_reducible exact LeO.refl _)
  | (with_reducible exact LeO.none _)
  | (with_reducible refine LeO.ite ?_ ?_)
  | (with_reducible refine LeO.bind ?_ (fun _ => ?_))
  | exact ih0 _ _ _ _
  | exact LeO.none _
  | refine LeO.ite ?_ ?_
  | refine LeO.bind ?_ (fun _ => ?_)
set_option maxHeartbeats 8000000 in
set_option maxRecDepth 100000 in
theorem dovetailref02_Lines.calls (k : Nat) (a0 : ByteArray) (r : List ByteArray) (w : World) (h : dovetailref02_Lines.f k a0 = some r) :
 Calls Try.prog 5 #[.string a0] w fun e w' => ∃ v0_ : Value, e = .returned (v0_) ∧ Kd.R Kd.string 9 w' w.heap.size (fun _ => True) v0_ r ∧ Below w.heap.size w w' := by
 have HB := Aside0.mk (Below.refl w.heap.size w)
 have H : (dovetailref02_Lines.l0 k a0 ([] : List ByteArray) 0 0) = some r := h
 clear h
 have H' := Aside0.mk H
 clear H
 go_enter Try.func5, Try.ntmps5
 go_wp2
 go_loopg [3, 4, 5] k (fun kq v3 v4 v5 w' => ∃ (x3_1 : List ByteArray) (x4_1 : Int) (x5_1 : Int), v4 = .int .i64 x4_1 ∧ v5 = .int .i64 x5_1 ∧ Aside0 (dovetailref02_Lines.l0 kq a0 x3_1 x4_1 x5_1 = some r) ∧ Aside0 (kq ≤ k) ∧ Aside0 (Kd.R Kd.string 9 w' w.heap.size (fun _ => True) v3 x3_1) ∧ Aside0 (Below w.heap.size w w'))
 case atStart => exact ⟨(([] : List ByteArray)), (0), (0), (by first | rfl | (simp; done) | (simp [*]; done)), (by first | rfl | (simp; done) | (simp [*]; done)), H', ⟨Nat.le_refl _⟩, ⟨by first | exact Kd.R_nil _ _ _ _ _ | exact Kd.N_nil _ _ _ _ _ | exact Kd.V_nil _ _ _ _ _ | exact Kd.Q_nil _ _ _ _ _ | exact Kd.S_nil _ _ _ _ _⟩, ⟨by repeat (first | (with_reducible first | exact HB.out | apply below_alloc | apply pw_below_drewN | apply below_drew1) | exact HB.out)⟩⟩
 case round =>
  clear H'
  obtain ⟨x3_1, x4_1, x5_1, rfl, rfl, HA, HK1, HO_3, HB⟩ := hrel
  cases gk with
  | zero => exact absurd HA.out (by simp [dovetailref02_Lines.l0])
  | succ k1 =>
   have H := HA.out
   clear HA
   simp only [dovetailref02_Lines.l0] at H
   by_cases c2 : x5_1 < (a0.size : Int)
   · rw [if_pos c2] at H
     have c2b0 : decide (x5_1 < (a0.size : Int)) = true := decide_eq_true c2
     clear c2
     by_cases c3 : 0 ≤ x5_1
     · rw [if_pos c3] at H
       have c3b0 : decide (0 ≤ x5_1) = true := decide_eq_true c3
       clear c3
       by_cases c5 : (bt a0 x5_1) = 10
       · rw [if_pos c5] at H
         have c5b0 : ((bt a0 x5_1) == 10) = true := beq_iff_eq.mpr c5
         have c5b1 : ((bt a0 x5_1) != 10) = false := bne_eq_false_iff_eq.mpr c5
         clear c5
         by_cases c6 : 0 ≤ x4_1
         · rw [if_pos c6] at H
           have c6b0 := eq_true c6
           have c6b1 : decide (0 ≤ x4_1) = true := decide_eq_true c6
           clear c6
           by_cases c7 : x4_1 ≤ x5_1
           · rw [if_pos c7] at H
             have c7b0 := eq_true c7
             have c7b1 : decide (x4_1 ≤ x5_1) = true := decide_eq_true c7
             clear c7
             by_cases c8 : x5_1 ≤ (a0.size : Int)
             · rw [if_pos c8] at H
               have c8b0 := eq_true c8
               have c8b1 : decide (x5_1 ≤ (a0.size : Int)) = true := decide_eq_true c8
               clear c8
               by_cases c9 : x3_1.length < 8796093022208
               · rw [if_pos c9] at H
                 have LMc9 := Aside0.mk c9
                 clear c9
                 obtain ⟨y101, hy101⟩ : ∃ y_ : List ByteArray, y_ = (x3_1 ++ [a0.extract (x4_1 : Int).toNat (x5_1 : Int).toNat]) := ⟨_, rfl⟩
                 replace H : (dovetailref02_Lines.l0 k1 a0 y101 (wrap64 (x5_1 + 1)) (wrap64 (x5_1 + 1))) = some r := by first | (rw [hy101]; with_reducible exact H) | (have H2_ := (Option.bind_some _ _).symm.trans H; rw [hy101]; with_reducible exact H2_) | (have H2_ := (Option.bind_some _ _).symm.trans H; with_reducible exact H2_) | with_reducible exact H | (rw [hy101]; exact H) | exact H
                 have Ny101 := Aside0.mk hy101
                 clear hy101
                 have H' := Aside0.mk H
                 clear H
                 have p4 : 0 ≤ (x5_1 : Int) := of_decide_eq_true (by first | (with_reducible assumption) | assumption)
                 have q4 : x5_1 < (a0.size : Int) := of_decide_eq_true (by first | (with_reducible assumption) | assumption)
                 have hx4 := bt_at a0 x5_1
                 replace p4 := eq_true p4
                 replace q4 := eq_true q4
                 go_wp2_with (first | ((with_reducible refine gate_builtin (b := .append) (xs := #[.tmp 16, .tmp 21]) rfl ?_); at_builtin; refine Kd.R_append Kd.string (w0 := w) w.heap.size rfl (.tmp 16) (.tmp 21) 25 9 (.string ⟨#[]⟩) 16 rfl Try.underlying25 info9 rfl (by decide) (by omega) u3 x3_1 (a0.extract (x4_1 : Int).toNat (x5_1 : Int).toNat) [.string (a0.extract (x4_1 : Int).toNat (x5_1 : Int).toNat)] (fun _ => True) (fun _ => False) rfl rfl ?aP (fun _ hk => hk.elim) ?aF ?aO ?aB ?aS ?aL ?_; (case aP => exact rfl); (case aB => exact (by repeat (first | (with_reducible first | exact HB.out | apply below_alloc | apply pw_below_drewN | apply below_drew1) | exact HB.out))); (case aF => exact (fun _ _ => trivial)); (case aO => exact (by (with_reducible repeat (first | apply Kd.R_alloc | apply Kd.R_drewN | apply Kd.R_drew)); exact HO_3.out)); (case aS => exact (below_size (by repeat (first | (with_reducible first | exact HB.out | apply below_alloc | apply pw_below_drewN | apply below_drew1) | exact HB.out)))); (case aL => have := LMc9.out; omega); intro v102 w10 ho hb hg hat; rw [← Ny101.out] at ho; have n0_ := Aside0.mk (hb); have n1_ := Aside0.mk (ho); clear HB; clear HO_3; have HB := n0_; have HO103 := n1_; clear n0_ n1_; clear ho hb hg hat))
                 go_roundg k1
                 case measure => have := HK1.out; omega
                 case rel => exact ⟨(y101), (wrap64 (x5_1 + 1)), (wrap64 (x5_1 + 1)), (by first | rfl | (simp; done) | (simp [*]; done)), (by first | rfl | (simp; done) | (simp [*]; done)), H', ⟨by have := HK1.out; omega⟩, ⟨by (with_reducible repeat (first | apply Kd.R_alloc | apply Kd.R_drewN | apply Kd.R_drew)); exact HO103.out⟩, ⟨by repeat (first | (with_reducible first | exact HB.out | apply below_alloc | apply pw_below_drewN | apply below_drew1) | exact HB.out)⟩⟩
               · rw [if_neg c9] at H
                 exact absurd H (by simp)
             · rw [if_neg c8] at H
               exact absurd H (by simp)
           · rw [if_neg c7] at H
             exact absurd H (by simp)
         · rw [if_neg c6] at H
           exact absurd H (by simp)
       · rw [if_neg c5] at H
         have c5b0 : ((bt a0 x5_1) == 10) = false := beq_eq_false_iff_ne.mpr c5
         have c5b1 : ((bt a0 x5_1) != 10) = true := bne_iff_ne.mpr c5
         have H' := Aside0.mk H
         clear H
         have p4 : 0 ≤ (x5_1 : Int) := of_decide_eq_true (by first | (with_reducible assumption) | assumption)
         have q4 : x5_1 < (a0.size : Int) := of_decide_eq_true (by first | (with_reducible assumption) | assumption)
         have hx4 := bt_at a0 x5_1
         replace p4 := eq_true p4
         replace q4 := eq_true q4
         go_wp2
         go_roundg k1
         case measure => have := HK1.out; omega
         case rel => exact ⟨(x3_1), (x4_1), (wrap64 (x5_1 + 1)), (by first | rfl | (simp; done) | (simp [*]; done)), (by first | rfl | (simp; done) | (simp [*]; done)), H', ⟨by have := HK1.out; omega⟩, ⟨by (with_reducible repeat (first | apply Kd.R_alloc | apply Kd.R_drewN | apply Kd.R_drew)); exact HO_3.out⟩, ⟨by repeat (first | (with_reducible first | exact HB.out | apply below_alloc | apply pw_below_drewN | apply below_drew1) | exact HB.out)⟩⟩
     · rw [if_neg c3] at H
       exact absurd H (by simp)
   · rw [if_neg c2] at H
     have c2b0 : decide (x5_1 < (a0.size : Int)) = false := decide_eq_false c2
     clear c2
     by_cases c11 : x4_1 < (a0.size : Int)
     · rw [if_pos c11] at H
       have c11b0 : decide (x4_1 < (a0.size : Int)) = true := decide_eq_true c11
       clear c11
       by_cases c12 : 0 ≤ x4_1
       · rw [if_pos c12] at H
         have c12b0 := eq_true c12
         have c12b1 : decide (0 ≤ x4_1) = true := decide_eq_true c12
         clear c12
         by_cases c13 : x4_1 ≤ (a0.size : Int)
         · rw [if_pos c13] at H
           have c13b0 := eq_true c13
           have c13b1 : decide (x4_1 ≤ (a0.size : Int)) = true := decide_eq_true c13
           clear c13
           by_cases c14 : x3_1.length < 8796093022208
           · rw [if_pos c14] at H
             have LMc14 := Aside0.mk c14
             clear c14
             obtain ⟨y104, hy104⟩ : ∃ y_ : List ByteArray, y_ = (x3_1 ++ [a0.extract (x4_1 : Int).toNat a0.size]) := ⟨_, rfl⟩
             replace H : (some y104) = some r := by first | (rw [hy104]; with_reducible exact H) | (have H2_ := (Option.bind_some _ _).symm.trans H; rw [hy104]; with_reducible exact H2_) | (have H2_ := (Option.bind_some _ _).symm.trans H; with_reducible exact H2_) | with_reducible exact H | (rw [hy104]; exact H) | exact H
             have Ny104 := Aside0.mk hy104
             clear hy104
             obtain rfl := Option.some.inj H
             go_wp2_with (first | ((with_reducible refine gate_builtin (b := .append) (xs := #[.tmp 29, .tmp 33]) rfl ?_); at_builtin; refine Kd.R_append Kd.string (w0 := w) w.heap.size rfl (.tmp 29) (.tmp 33) 25 9 (.string ⟨#[]⟩) 16 rfl Try.underlying25 info9 rfl (by decide) (by omega) u3 x3_1 (a0.extract (x4_1 : Int).toNat a0.size) [.string (a0.extract (x4_1 : Int).toNat a0.size)] (fun _ => True) (fun _ => False) rfl rfl ?aP (fun _ hk => hk.elim) ?aF ?aO ?aB ?aS ?aL ?_; (case aP => exact rfl); (case aB => exact (by repeat (first | (with_reducible first | exact HB.out | apply below_alloc | apply pw_below_drewN | apply below_drew1) | exact HB.out))); (case aF => exact (fun _ _ => trivial)); (case aO => exact (by (with_reducible repeat (first | apply Kd.R_alloc | apply Kd.R_drewN | apply Kd.R_drew)); exact HO_3.out)); (case aS => exact (below_size (by repeat (first | (with_reducible first | exact HB.out | apply below_alloc | apply pw_below_drewN | apply below_drew1) | exact HB.out)))); (case aL => have := LMc14.out; omega); intro v105 w15 ho hb hg hat; rw [← Ny104.out] at ho; have n0_ := Aside0.mk (hb); have n1_ := Aside0.mk (ho); clear HB; clear HO_3; have HB := n0_; have HO106 := n1_; clear n0_ n1_; clear ho hb hg hat))
             go_ret
             exact ⟨_, by first | rfl | (simp [errW_none, errW_some] <;> rfl) | (simp [*, errW_none, errW_some] <;> rfl), by (with_reducible repeat (first | apply Kd.R_alloc | apply Kd.R_drewN | apply Kd.R_drew)); exact HO106.out, by repeat (first | (with_reducible first | exact HB.out | apply below_alloc | apply pw_below_drewN | apply below_drew1) | exact HB.out)⟩
           · rw [if_neg c14] at H
             exact absurd H (by simp)
         · rw [if_neg c13] at H
           exact absurd H (by simp)
       · rw [if_neg c12] at H
         exact absurd H (by simp)
     · rw [if_neg c11] at H
       have c11b0 : decide (x4_1 < (a0.size : Int)) = false := decide_eq_false c11
       clear c11
       obtain rfl := Option.some.inj H
       go_wp2
       go_ret
       exact ⟨_, by first | rfl | (simp [errW_none, errW_some] <;> rfl) | (simp [*, errW_none, errW_some] <;> rfl), by (with_reducible repeat (first | apply Kd.R_alloc | apply Kd.R_drewN | apply Kd.R_drew)); exact HO_3.out, by repeat (first | (with_reducible first | exact HB.out | apply below_alloc | apply pw_below_drewN | apply below_drew1) | exact HB.out)⟩

end Go.Proofs.Ytchhfpkdleifdaa.Cl
/- A range over a function whose iterator keeps state in cells of its own: the contract, the law. -/
namespace Go.Proofs.Ytchhfpkdleifdaa.RZ
open Go Go.RowKit
def Ours (own : Nat → Prop) (lo hi k : Nat) : Prop := own k ∨ (lo ≤ k ∧ k < hi)
def Ab {β : Type} (own : Nat → Prop) (lo hi : Nat) (J : β → World → Prop) : Prop := ∀ s A B row, J s A → A.grownBy B row → (∀ r, row = some r → Ours own lo hi r) → J s B
structure KZ (own : Nat → Prop) (lo hi : Nat) (W W' : World) : Prop where
 same : ∀ k, Ours own lo hi k → W'.heap[k]? = W.heap[k]?
 size : W.heap.size ≤ W'.heap.size
theorem KZ.refl (own : Nat → Prop) (lo hi : Nat) (W : World) : KZ own lo hi W W := ⟨fun _ _ => rfl, Nat.le_refl _⟩
theorem KZ.trans {own : Nat → Prop} {lo hi : Nat} {A B C : World} (h : KZ own lo hi A B) (h' : KZ own lo hi B C) : KZ own lo hi A C := ⟨fun k hk => (h'.same k hk).trans (h.same k hk), Nat.le_trans h.size h'.size⟩
variable {P : Program}
theorem round_any {l : Nat} {f : FuncId} {tmps : Array Value} {assign body : Code} {W : World} {R : Ending → World → Prop} {n m : Nat} (l1 : Nat) (h : RoundIn Fence.wide n P l f tmps assign body W R) : RoundIn (Fence.wide.inRound l1) m P l f tmps assign body W R :=
 ⟨trivial, fun c cs _ => h.2 c cs (room_wide _)⟩
def SeqC {α : Type} (P : Program) (g : Nat) (lb : Array Value) (encs : α → Array Value) (own : Nat → Prop) (c : Nat) (S Sp : List α → Prop) (N : Nat) (w0 : World) : Prop :=
 ∀ (l : Nat) (J Jx : List α → World → Prop) (W : World), Below w0.heap.size w0 W → Ab own W.heap.size (W.heap.size + c) J → Ab own W.heap.size (W.heap.size + c) Jx →
  (∀ pre x W1, W.heap.size + c ≤ W1.heap.size → J pre W1 → pre.length < N → YieldAt Fence.wide 9 P l (encs x) W1 fun e W' =>
   (e = .returned (.bool true) ∧ J (pre ++ [x]) W' ∧ KZ own W.heap.size (W.heap.size + c) W1 W') ∨ (e = .returned (.bool false) ∧ Jx (pre ++ [x]) W' ∧ KZ own W.heap.size (W.heap.size + c) W1 W')) →
  J [] W →
  Calls P g (#[.func (.yield l) #[] #[]] ++ lb) W fun e W' => (∃ v, e = .returned v) ∧ ((∃ xs, S xs ∧ J xs W') ∨ (∃ pre, Sp pre ∧ Jx pre W'))
def postZ {α : Type} (own : Nat → Prop) (lo hi : Nat) (I : List α → World → Prop) (Ix : Code → List α → World → Prop) (xs : List α) (W : World) : Exit → Act → World → Prop
 | .normal, _, W' => KZ own lo hi W W' ∧ I xs W'
 | .ret, _, W' => KZ own lo hi W W' ∧ Ix .ret xs W'
 | .exit id, _, W' => KZ own lo hi W W' ∧ Ix (.exit id) xs W'
 | .goto t, _, W' => KZ own lo hi W W' ∧ Ix (.goto t) xs W'
 | .panic _, _, _ => False
 | .outgrown, _, _ => False
theorem wpIn_range_C {α : Type} {n : Nat} {g : Operand} {ps : Array Tmp} {assign body : Code} {Q : Exit → Act → World → Prop} {a : Act} {w : World}
 {gf : Nat} {lb : Array Value} (hg : a.eval g = .func (.func gf) #[] lb) (eg : ∀ args w, (callFunc gf args).run P w = .ok (.enter gf args) w)
 {encs : α → Array Value} {own : Nat → Prop} {c : Nat} {S Sp : List α → Prop} {N : Nat} {w0 : World} (hseq : SeqC P gf lb encs own c S Sp N w0) (hb0 : Below w0.heap.size w0 w) (hps : ∀ x, (encs x).size = ps.size) (hown : ∀ k, own k → k < w.heap.size)
 (I : List α → World → Prop) (Ix : Code → List α → World → Prop) (hI : Ab own w.heap.size (w.heap.size + 2 + c) I) (hIx : ∀ j, Ab own w.heap.size (w.heap.size + 2 + c) (Ix j)) (h0 : I [] w) (a₁ : α → Act)
 (hassign : ∀ (l : Nat) (x : α) (W : World) (K : Act → World → Prop), K (a₁ x) W → assign.wpIn (Fence.wide.inRound l) 9 P (Exit.then K (fun _ _ _ => False)) { tmps := (ps.zip (encs x)).foldl (fun t (p, v) => t.setIfInBounds p v) a.tmps, defers := [] } W)
 (hbody : ∀ (l : Nat) (pre : List α) (x : α) (W : World), w.heap.size + 2 + c ≤ W.heap.size → I pre W → pre.length < N → body.wpIn (Fence.wide.inRound l) 9 P (postZ own w.heap.size (w.heap.size + 2 + c) I Ix (pre ++ [x]) W) (a₁ x) W)
 (hdone : ∀ (D : Nat) (xs : List α) (W : World), w.heap.size ≤ D → D < w.heap.size + 2 + c → S xs → I xs W → W.heap[D]? = some (.deferred (some [])) → Q .normal { a with defers := { target := .collected D, args := #[] } :: a.defers } W)
 (hstop : ∀ (D : Nat) (j : Code) (pre : List α) (W : World), w.heap.size ≤ D → D < w.heap.size + 2 + c → Sp pre → Ix j pre W → W.heap[D]? = some (.deferred (some [])) → j.wpIn Fence.wide n P Q { a with defers := { target := .collected D, args := #[] } :: a.defers } W) :
 (Code.rangeFunc g ps assign body).wpIn Fence.wide n P Q a w := by
 refine wpIn_rangeFunc fun fn hfn => ?_
 obtain ⟨rc, hrc⟩ : ∃ rc : LoopState → Option Code → Loop, rc = fun st pe => { state := st, pending := pe, fn, tmps := a.tmps, params := ps, assign, body, defers := w.heap.size } := ⟨_, rfl⟩
 obtain ⟨W1, hW1⟩ : ∃ W1, W1 = (w.alloc (.deferred (some []))).alloc (.loop (rc .ready none)) := ⟨_, rfl⟩
 have z1 : W1.heap.size = w.heap.size + 2 := by rw [hW1]; simp
 have rec1 : W1.heap[w.heap.size + 1]? = some (.loop (rc .ready none)) := by
  have h := World.alloc_heap_new (w.alloc (.deferred (some []))) (.loop (rc .ready none))
  rw [World.size_alloc] at h
  rw [hW1]; exact h
 have def1 : W1.heap[w.heap.size]? = some (.deferred (some [])) := by
  rw [hW1]; exact (Below.heap_alloc _ _ _ (by simp)).trans (World.alloc_heap_new w _)
 have low1 : Below w.heap.size w W1 := by rw [hW1]; exact ((Below.refl _ w).alloc (Nat.le_refl _) _).alloc (by simp) _
 have put : ∀ {β : Type} {J : β → World → Prop} (s : β) (W : World) (o : Obj), Ab own w.heap.size (w.heap.size + 2 + c) J → J s W → J s (W.putObj (w.heap.size + 1) o) := fun s W o hJ hs =>
  hJ s W _ (some (w.heap.size + 1)) hs (grownBy_putObj' W _ o) (fun r e => by cases e; exact .inr ⟨by omega, by omega⟩)
 have first : I [] W1 := hI [] w W1 none h0 ⟨low1.os, low1.tape, low1.output, low1.size, fun k hk _ => low1.block k hk⟩ (fun r e => by cases e)
 refine ⟨w.heap.size + 1, [{ target := .collected w.heap.size, args := #[] }], W1, { target := .fn (.func gf) lb, args := #[.func (.yield (w.heap.size + 1)) #[] #[]] }, W1, gf, #[.func (.yield (w.heap.size + 1)) #[] #[]] ++ lb, W1, ?_, ?_, fun _ _ => trivial, ?_, fun h => by simp [Fence.wide] at h, ?_⟩
 · rw [hW1, hrc]; exact run_enterLoop_outer _ _ _ _ _
 · simp only [resolve, hg]
   simp [go_sem]
 · simp [invoke, go_sem, eg]
 · refine (callsIn_wide.2 (hseq (w.heap.size + 1)
    (fun pre W => I pre W ∧ W.heap[w.heap.size + 1]? = some (.loop (rc .ready none)) ∧ W.heap[w.heap.size]? = some (.deferred (some [])))
    (fun pre W => ∃ j, Ix j pre W ∧ W.heap[w.heap.size + 1]? = some (.loop (rc .done (some j))) ∧ W.heap[w.heap.size]? = some (.deferred (some [])))
    W1 (hb0.trans (low1.mono hb0.size)) ?_ ?_ ?_ ⟨first, rec1, def1⟩)).mono ?_
   · intro s A B row hs hgr hr
     have far : ∀ k, k = w.heap.size + 1 ∨ k = w.heap.size → some k ≠ row := fun k hk e => by
      rcases hr k e.symm with h | h
      · have := hown k h; omega
      · omega
     refine ⟨hI s A B row hs.1 hgr (fun r e => (hr r e).elim .inl (fun h => .inr ⟨by omega, by omega⟩)), ?_, ?_⟩
     · exact (hgr.block _ (Array.getElem?_eq_some_iff.1 hs.2.1).1 (far _ (.inl rfl))).trans hs.2.1
     · exact (hgr.block _ (Array.getElem?_eq_some_iff.1 hs.2.2).1 (far _ (.inr rfl))).trans hs.2.2
   · intro s A B row hs hgr hr
     obtain ⟨j, hj, hl, hk⟩ := hs
     have far : ∀ k, k = w.heap.size + 1 ∨ k = w.heap.size → some k ≠ row := fun k hk e => by
      rcases hr k e.symm with h | h
      · have := hown k h; omega
      · omega
     refine ⟨j, hIx j s A B row hj hgr (fun r e => (hr r e).elim .inl (fun h => .inr ⟨by omega, by omega⟩)), ?_, ?_⟩
     · exact (hgr.block _ (Array.getElem?_eq_some_iff.1 hl).1 (far _ (.inl rfl))).trans hl
     · exact (hgr.block _ (Array.getElem?_eq_some_iff.1 hk).1 (far _ (.inr rfl))).trans hk
   · rintro pre x W hzW ⟨hi, hl, hk⟩ hlen
     have hlt := (Array.getElem?_eq_some_iff.1 hl).1
     have hy := run_yield (P := P) (args := encs x) hl (by rw [hrc]; exact hps x)
     rw [hrc] at hy
     refine ⟨fn, _, assign, body, hy, roundIn_of_wpIn (F := Fence.wide) trivial (hassign _ x W _ ?_)⟩
     obtain ⟨Wb, hWb⟩ : ∃ Wb, Wb = W.putObj (w.heap.size + 1) (.loop { rc .ready none with state := .busy }) := ⟨_, rfl⟩
     have busy : Wb.heap[w.heap.size + 1]? = some (.loop { rc .ready none with state := .busy }) := by rw [hWb]; exact World.putObj_heap_same hlt
     have dfb : Wb.heap[w.heap.size]? = some (.deferred (some [])) := by rw [hWb]; exact (World.putObj_heap_other (by omega)).trans hk
     have szb : Wb.heap.size = W.heap.size := by rw [hWb]; exact World.putObj_size
     have ib : I pre Wb := by rw [hWb]; exact put pre W _ hI hi
     refine ⟨Wb, by rw [hWb]; exact run_beginRound hl (by rw [hrc]), ?_⟩
     have fin : ∀ (jump : Option Code) (W3 : World), KZ own w.heap.size (w.heap.size + 2 + c) Wb W3 →
      (Instr.endRound (w.heap.size + 1) jump).run P W3 = .ok (.bool jump.isNone) (W3.putObj (w.heap.size + 1) (.loop (rc (if jump.isNone then .ready else .done) jump))) ∧
      (W3.putObj (w.heap.size + 1) (.loop (rc (if jump.isNone then .ready else .done) jump))).heap[w.heap.size + 1]? = some (.loop (rc (if jump.isNone then .ready else .done) jump)) ∧
      (W3.putObj (w.heap.size + 1) (.loop (rc (if jump.isNone then .ready else .done) jump))).heap[w.heap.size]? = some (.deferred (some [])) := fun jump W3 hz => by
      have b3 := (hz.same (w.heap.size + 1) (.inr ⟨by omega, by omega⟩)).trans busy
      have d3 := (hz.same w.heap.size (.inr ⟨by omega, by omega⟩)).trans dfb
      have he := run_endRound (P := P) jump b3
      rw [hrc] at he ⊢
      exact ⟨he, World.putObj_heap_same (Array.getElem?_eq_some_iff.1 b3).1, (World.putObj_heap_other (by omega)).trans d3⟩
     have hkz : ∀ (W3 : World) (o : Obj), KZ own w.heap.size (w.heap.size + 2 + c) Wb W3 → KZ own W1.heap.size (W1.heap.size + c) W (W3.putObj (w.heap.size + 1) o) := fun W3 o hz => by
      refine ⟨fun k hk => ?_, by rw [World.putObj_size]; have := hz.size; omega⟩
      have hne : k ≠ w.heap.size + 1 := by
       rcases hk with h | h
       · have := hown k h; omega
       · omega
      rw [World.putObj_heap_other hne, hz.same k (hk.elim .inl (fun h => .inr ⟨by omega, by omega⟩)), hWb, World.putObj_heap_other hne]
     refine wpIn_mono (hbody _ pre x Wb (by omega) ib hlen) ?_
     intro e a3 W3 hp
     cases e with
     | normal =>
      obtain ⟨f1, f2, f3⟩ := fin none W3 hp.1
      exact ⟨_, _, f1, .inl ⟨rfl, ⟨put _ W3 _ hI hp.2, f2, f3⟩, hkz W3 _ hp.1⟩⟩
     | ret =>
      obtain ⟨f1, f2, f3⟩ := fin (some .ret) W3 hp.1
      exact ⟨_, _, f1, .inr ⟨rfl, ⟨.ret, put _ W3 _ (hIx _) hp.2, f2, f3⟩, hkz W3 _ hp.1⟩⟩
     | exit id =>
      obtain ⟨f1, f2, f3⟩ := fin (some (.exit id)) W3 hp.1
      exact ⟨_, _, f1, .inr ⟨rfl, ⟨.exit id, put _ W3 _ (hIx _) hp.2, f2, f3⟩, hkz W3 _ hp.1⟩⟩
     | goto t =>
      obtain ⟨f1, f2, f3⟩ := fin (some (.goto t)) W3 hp.1
      exact ⟨_, _, f1, .inr ⟨rfl, ⟨.goto t, put _ W3 _ (hIx _) hp.2, f2, f3⟩, hkz W3 _ hp.1⟩⟩
     | panic ch => exact hp.elim
     | outgrown => exact hp.elim
   · rintro e W2 ⟨⟨v, rfl⟩, (⟨xs, hS, hi, hl, hk⟩ | ⟨pre, hSp, j, hi, hl, hk⟩)⟩
     · have hend := run_endLoop (P := P) hl (by rw [hrc]; simp)
       rw [hrc] at hend
       exact ⟨none, _, hend, hdone _ xs _ (Nat.le_refl _) (by omega) hS (put xs W2 _ hI hi) ((World.putObj_heap_other (by omega)).trans hk)⟩
     · have hend := run_endLoop (P := P) hl (by rw [hrc]; simp)
       rw [hrc] at hend
       exact ⟨some j, _, hend, hstop _ j pre _ (Nat.le_refl _) (by omega) hSp (put pre W2 _ (hIx j) hi) ((World.putObj_heap_other (by omega)).trans hk)⟩
end Go.Proofs.Ytchhfpkdleifdaa.RZ
/- The lines of a text: plain. -/
namespace Go.Proofs.Ytchhfpkdleifdaa.P
def linesA (acc : List UInt8) : List UInt8 → List (List UInt8)
 | [] => if acc = [] then [] else [acc]
 | c :: r => if c = 10 then acc :: linesA [] r else linesA (acc ++ [c]) r
def linesL (l : List UInt8) : List (List UInt8) := linesA [] l
theorem linesA_none : ∀ (l acc : List UInt8), (10 : UInt8) ∉ l → linesA acc l = if acc ++ l = [] then [] else [acc ++ l]
 | [], acc, _ => by simp [linesA]
 | c :: r, acc, h => by
  have hc : c ≠ 10 := fun e => h (by rw [e]; exact List.mem_cons_self)
  rw [linesA, if_neg hc, linesA_none r (acc ++ [c]) (fun e => h (List.mem_cons_of_mem _ e)), List.append_assoc]
  rfl
theorem linesA_some : ∀ (l1 l2 acc : List UInt8), (10 : UInt8) ∉ l1 → linesA acc (l1 ++ 10 :: l2) = (acc ++ l1) :: linesA [] l2
 | [], l2, acc, _ => by simp [linesA]
 | c :: r, l2, acc, h => by
  have hc : c ≠ 10 := fun e => h (by rw [e]; exact List.mem_cons_self)
  rw [List.cons_append, linesA, if_neg hc, linesA_some r l2 (acc ++ [c]) (fun e => h (List.mem_cons_of_mem _ e)), List.append_assoc]
  rfl
theorem linesL_none {l : List UInt8} (h : (10 : UInt8) ∉ l) (hl : l ≠ []) : linesL l = [l] := by
 unfold linesL
 rw [linesA_none l [] h, List.nil_append, if_neg hl]
theorem linesL_some {l1 l2 : List UInt8} (h : (10 : UInt8) ∉ l1) : linesL (l1 ++ 10 :: l2) = l1 :: linesL l2 := by
 unfold linesL
 rw [linesA_some l1 l2 [] h, List.nil_append]
theorem linesL_nil : linesL [] = [] := by simp [linesL, linesA]
theorem linesA_len : ∀ (l acc : List UInt8), (linesA acc l).length ≤ l.length + 1 ∧ (acc = [] → (linesA acc l).length ≤ l.length)
 | [], acc => by
  unfold linesA
  by_cases h : acc = []
  · rw [if_pos h]; simp
  · rw [if_neg h]; simp [h]
 | c :: r, acc => by
  unfold linesA
  by_cases h : c = 10
  · rw [if_pos h]
    have := (linesA_len r []).2 rfl
    simp only [List.length_cons]
    exact ⟨by omega, fun _ => by omega⟩
  · rw [if_neg h]
    have h1 := (linesA_len r (acc ++ [c])).1
    simp only [List.length_cons]
    refine ⟨by omega, fun h2 => by omega⟩
theorem linesL_len (l : List UInt8) : (linesL l).length ≤ l.length := (linesA_len l []).2 rfl
theorem cut_at (l : List UInt8) : (10 : UInt8) ∉ l ∨ ∃ l1 l2, l = l1 ++ 10 :: l2 ∧ (10 : UInt8) ∉ l1 := by
 induction l with
 | nil => exact .inl (by simp)
 | cons c r ih =>
  by_cases hc : c = 10
  · subst hc; exact .inr ⟨[], r, rfl, by simp⟩
  · rcases ih with h | ⟨l1, l2, rfl, h⟩
    · exact .inl (fun hm => (List.mem_cons.1 hm).elim (fun e => hc e.symm) h)
    · exact .inr ⟨c :: l1, l2, rfl, fun hm => (List.mem_cons.1 hm).elim (fun e => hc e.symm) h⟩
theorem indexByte_none : ∀ (l : List UInt8) (c : UInt8), c ∉ l → Go.Lib.indexByte l c = -1
 | [], _, _ => rfl
 | b :: l, c, h => by
  have h1 : (b == c) = false := beq_false_of_ne (fun e => h (by rw [e]; exact List.mem_cons_self))
  rw [Go.Lib.indexByte, h1, indexByte_none l c (fun e => h (List.mem_cons_of_mem _ e))]
  rfl
theorem indexByte_some : ∀ (l1 l2 : List UInt8) (c : UInt8), c ∉ l1 → Go.Lib.indexByte (l1 ++ c :: l2) c = (l1.length : Int)
 | [], l2, c, _ => by simp [Go.Lib.indexByte]
 | b :: l, l2, c, h => by
  have h1 : (b == c) = false := beq_false_of_ne (fun e => h (by rw [e]; exact List.mem_cons_self))
  have ih := indexByte_some l l2 c (fun e => h (List.mem_cons_of_mem _ e))
  rw [List.cons_append, Go.Lib.indexByte, h1, ih]
  have h2 : ((l.length : Int) == -1) = false := beq_false_of_ne (by omega)
  rw [h2]
  simp
end Go.Proofs.Ytchhfpkdleifdaa.P
/- strings.Lines, strings.TrimSuffix: walked; the contract of the lines' iterator. -/
namespace Go.Proofs.Ytchhfpkdleifdaa.LI
open Go.RowKit Go.Shelf RZ YtchhfpkdleifdaaW.PrintWords YtchhfpkdleifdaaW.PrintLast YtchhfpkdleifdaaW.PrintMore
attribute [local go_sem] Oper.semAt_some
abbrev sB (l : List UInt8) : ByteArray := ⟨l.toArray⟩
theorem sB_size (l : List UInt8) : (sB l).size = l.length := by simp [sB, ByteArray.size]
theorem sB_self (s : ByteArray) : sB s.data.toList = s := rfl
theorem sB_list (l : List UInt8) : (sB l).data.toList = l := by simp [sB]
def trimL (l : List UInt8) : List UInt8 := if l.getLast? = some 10 then l.dropLast else l
theorem trimL_some (l : List UInt8) : trimL (l ++ [10]) = l := by simp [trimL]
theorem trimL_none {l : List UInt8} (h : (10 : UInt8) ∉ l) : trimL l = l := by
 unfold trimL
 rw [if_neg]
 intro e
 exact h (List.mem_of_getLast? e)
set_option maxHeartbeats 1000000 in
set_option maxRecDepth 100000 in
theorem sliteIndexByte (s : ByteArray) (c : Int) (w : World) :
 Calls Try.prog 12 #[.string s, .int .u8 c] w fun e w' => e = .returned (.int .i64 (Lib.indexByte s.data.toList c.toNat.toUInt8)) ∧ w' = w := by
 go_enter Try.func12, Try.ntmps12
 go_wp2
 rw [run_callFunc_extern Try.func14 (by kernel_rfl) (by kernel_rfl) (by kernel_rfl) (e := Extern.BytealgIndexByte.indexByte) (by kernel_rfl), Lib.run_indexByteString]
 simp only [Result.andThen]
 rw [Oper.upon_value]
 go_wp2
 go_ret
 exact ⟨rfl, rfl⟩
set_option maxHeartbeats 1000000 in
theorem indexByte_calls (s : ByteArray) (c : Int) (w : World) :
 Calls Try.prog 10 #[.string s, .int .u8 c] w fun e w' => e = .returned (.int .i64 (Lib.indexByte s.data.toList c.toNat.toUInt8)) ∧ w = w' := by
 go_enter Try.func10, Try.ntmps10
 go_wp2_with (go_at_call 12; refine (sliteIndexByte _ _ _).mono ?_; rintro e w' ⟨rfl, rfl⟩)
 go_ret
 exact ⟨rfl, rfl⟩
theorem drop_last (l : List UInt8) (h : 1 ≤ l.length) : ∃ l0 x, l = l0 ++ [x] ∧ l.drop (l.length - 1) = [x] ∧ l.take (l.length - 1) = l0 := by
 rcases List.eq_nil_or_concat l with e | ⟨l0, x, e⟩
 · subst e; simp at h
 · subst e
   refine ⟨l0, x, by simp, ?_, ?_⟩
   · simp
   · simp
theorem ext_list (s : ByteArray) (i j : Nat) (hj : j ≤ s.size) : (s.extract i j).data.toList = (s.data.toList.drop i).take (j - i) := by
 rw [ByteArray.data_extract, Array.toList_extract, List.extract_eq_take_drop]
theorem last_eq (s : ByteArray) (h : 1 ≤ s.size) : ((s.extract (s.size - 1) s.size).toList == [10]) = decide (s.data.toList.getLast? = some 10) := by
 have hl : s.data.toList.length = s.size := data_length s
 obtain ⟨l0, x, e1, e2, e3⟩ := drop_last s.data.toList (by omega)
 rw [ByteArray.toList_eq, ext_list s _ _ (Nat.le_refl _), ← hl, e2]
 rw [hl] at e2
 have e4 : s.data.toList.getLast? = some x := by rw [e1]; simp
 rw [e4]
 have e5 : (([x] : List UInt8).take (s.data.toList.length - (s.data.toList.length - 1))) = [x] := by
  rw [List.take_of_length_le]
  simp
  omega
 rw [e5]
 by_cases hx : x = 10
 · subst hx; simp
 · have h1 : (([x] : List UInt8) == [10]) = false := by simp [hx]
   rw [h1, decide_eq_false (fun e => hx (Option.some.inj e))]
set_option maxRecDepth 100000 in
theorem hasSuf (s : ByteArray) (hs : s.size ≤ 140737488355328) (w : World) : Calls Try.prog 13 #[.string s, .string ⟨#[10]⟩] w fun e w' => e = .returned (.bool (decide (s.data.toList.getLast? = some 10))) ∧ w' = w := by
 have h1 : (⟨#[10]⟩ : ByteArray).size = 1 := rfl
 have hl : s.data.toList.length = s.size := data_length s
 obtain ⟨q, hq⟩ : ∃ q, q = decide (s.data.toList.getLast? = some 10) := ⟨_, rfl⟩
 rw [← hq]
 by_cases h0 : 1 ≤ s.size
 · have hle := (last_eq s h0).trans hq.symm
   clear hl hq
   go_enter Try.func13, Try.ntmps13
   go_wp2_with fail
   go_ret
   exact ⟨rfl, rfl⟩
 · have hq0 : q = false := by
    have h2 : s.data.toList = [] := List.eq_nil_of_length_eq_zero (by omega)
    rw [hq, h2]; rfl
   clear hl hq
   go_enter Try.func13, Try.ntmps13
   go_wp2_with fail
   go_ret
   exact ⟨rfl, rfl⟩
theorem ext_sB (s : ByteArray) (n : Nat) (hn : n ≤ s.size) : s.extract 0 n = sB (s.data.toList.take n) := by
 have : (s.extract 0 n).data.toList = s.data.toList.take n := by rw [ext_list s 0 n hn]; simp
 rw [← this]
set_option maxRecDepth 100000 in
theorem trimS (s : ByteArray) (hs : s.size ≤ 140737488355328) (w : World) : Calls Try.prog 11 #[.string s, .string ⟨#[10]⟩] w fun e w' => e = .returned (.string (sB (trimL s.data.toList))) ∧ w' = w := by
 have h1 : (⟨#[10]⟩ : ByteArray).size = 1 := rfl
 have hl : s.data.toList.length = s.size := data_length s
 have KH : Aside0 (∀ W, Calls Try.prog 13 #[.string s, .string ⟨#[10]⟩] W fun e w' => e = .returned (.bool (decide (s.data.toList.getLast? = some 10))) ∧ w' = W) := ⟨fun W => hasSuf s hs W⟩
 obtain ⟨r, hr⟩ : ∃ r, r = sB (trimL s.data.toList) := ⟨_, rfl⟩
 rw [← hr]
 unfold trimL at hr
 by_cases hlast : s.data.toList.getLast? = some 10
 · rw [if_pos hlast] at hr
   have h0 : 1 ≤ s.size := by
    cases h : s.data.toList with
    | nil => rw [h] at hlast; cases hlast
    | cons c t => rw [← hl, h]; simp
   have hext : s.extract 0 (s.size - 1) = r := by
    rw [ext_sB s _ (by omega), hr, List.dropLast_eq_take, hl]
   rw [decide_eq_true hlast] at KH
   clear hl hr hlast
   go_enter Try.func11, Try.ntmps11
   go_wp2_with (go_at_call 13; refine (KH.out _).mono ?_; rintro e w' ⟨rfl, rfl⟩)
   go_ret
   exact ⟨rfl, rfl⟩
 · rw [if_neg hlast, sB_self] at hr
   subst hr
   rw [decide_eq_false hlast] at KH
   clear hl hlast
   go_enter Try.func11, Try.ntmps11
   go_wp2_with (go_at_call 13; refine (KH.out _).mono ?_; rintro e w' ⟨rfl, rfl⟩)
   go_ret
   exact ⟨rfl, rfl⟩
set_option maxRecDepth 100000 in
theorem trim_calls (s : ByteArray) (hs : s.size ≤ 140737488355328) (w : World) : Calls Try.prog 8 #[.string s, .string ⟨#[10]⟩] w fun e w' => e = .returned (.string (sB (trimL s.data.toList))) ∧ w' = w := by
 go_enter Try.func8, Try.ntmps8
 go_wp2_with (go_at_call 11; refine (trimS s hs _).mono ?_; rintro e w' ⟨rfl, rfl⟩)
 go_ret
 exact ⟨rfl, rfl⟩
theorem lines_calls (s : ByteArray) (w : World) : Calls Try.prog 7 #[.string s] w fun e w' => e = .returned (.func (.func 9) #[] #[.pointer (some ⟨w.heap.size, 0, none⟩)]) ∧ w' = w.alloc (.cells #[.string s] 9) := by
 go_enter Try.func7, Try.ntmps7
 go_wp2_with fail
 go_ret
 exact ⟨rfl, rfl⟩
def bsOf (Bs : Nat) (W : World) : Nat := match W.cell? ⟨Bs, 0, none⟩ with | some (.string x) => x.size | _ => 0
theorem bsOf_eq {Bs : Nat} {W : World} {l : List UInt8} (h : W.heap[Bs]? = some (.cells #[.string (sB l)] 9 (0, 0))) : bsOf Bs W = l.length := by
 unfold bsOf
 have hc : W.cell? ⟨Bs, 0, none⟩ = some (.string (sB l)) := by rw [Lib.cell_of_heap h]; rfl
 rw [hc]
 exact sB_size l
abbrev Raw : Type := { x : ByteArray // x.size ≤ 140737488355328 }
def trR (x : Raw) : List UInt8 := trimL x.1.data.toList
set_option maxRecDepth 100000 in
set_option maxHeartbeats 4000000 in
theorem lines1_seq (Bs : Nat) (s : ByteArray) (hs : s.size ≤ 140737488355328) (w0 : World) (hbs : w0.heap[Bs]? = some (.cells #[.string s] 9 (0, 0))) :
 SeqC Try.prog 9 #[.pointer (some ⟨Bs, 0, none⟩)] (fun x : Raw => #[Value.string x.1]) (fun k => k = Bs) 0 (fun ys => ys.map trR = P.linesL s.data.toList) (fun pre => (pre.map trR <+: P.linesL s.data.toList) ∧ pre ≠ []) (s.size + 1) w0 := by
 intro y J Jx W hW hJ hJx hY h0
 have hb := (hW.block _ (Array.getElem?_eq_some_iff.1 hbs).1).trans hbs
 have step : ∀ pre W1 v, J pre W1 → J pre (W1.setCell ⟨Bs, 0, none⟩ v) := fun pre W1 v h => hJ pre W1 _ (some Bs) h (grownBy_setCell' W1 Bs v) (fun r e => by cases e; exact .inl rfl)
 have hlen : s.data.toList.length = s.size := data_length s
 refine (callsIn_wide (n := 10)).1 ?_
 refine callsIn_of_wp Try.func9 rfl trivial ?_ rfl
 simp only [Try.ntmps9, List.size_toArray, List.length_cons, List.length_nil, Nat.reduceAdd, Nat.reduceSub, Array.replicate_succ, Array.replicate_zero, List.push_toArray, List.append_toArray, List.nil_append, List.cons_append]
 have KI : ∀ (l : List UInt8) (W : World), Calls Try.prog 10 #[.string (sB l), .int .u8 10] W fun e w' => e = .returned (.int .i64 (Lib.indexByte l 10)) ∧ W = w' := fun l W => by
  have h := indexByte_calls (sB l) 10 W
  rw [sB_list] at h
  exact h
 have KIB := Aside0.mk KI
 gi_wp2
 gi_loopw [3] (fun _ wr => ∃ (pre : List Raw) (rest : List UInt8), pre.map trR ++ P.linesL rest = P.linesL s.data.toList ∧ rest.length ≤ s.size ∧ wr.heap[Bs]? = some (.cells #[.string (sB rest)] 9 (0, 0)) ∧ W.heap.size ≤ wr.heap.size ∧ J pre wr) (fun _ wr => bsOf Bs wr)
 case atStart => exact ⟨[], s.data.toList, by simp, by omega, by rw [sB_self]; exact hb, Nat.le_refl _, h0⟩
 case round =>
  clear KI
  obtain ⟨pre, rest, hpre, hrl, hbr, hsz, hJs⟩ := hrel
  have hc0 : wr.cell? ⟨Bs, 0, none⟩ = some (.string (sB rest)) := by rw [Lib.cell_of_heap hbr]; rfl
  have hcf : wr.frozen? ⟨Bs, 0, none⟩ = false := by simp [World.frozen?, hbr]
  have hms := bsOf_eq hbr
  have hz := sB_size rest
  by_cases hr0 : rest = []
  · subst hr0
    rw [P.linesL_nil, List.append_nil] at hpre
    have HP := Lib.hid hpre
    have HJ := Aside0.mk hJs
    clear hpre hJs
    gi_wp2
    go_end0
    exact ⟨⟨_, rfl⟩, .inl ⟨pre, HP.out, HJ.out⟩⟩
  · have hpos : 0 < rest.length := List.length_pos_iff.2 hr0
    have hrb : rest.length ≤ 140737488355328 := by omega
    rcases P.cut_at rest with hno | ⟨l1, l2, hl12, hno⟩
    · have KI1 := fun W => KIB.out rest W
      rw [P.indexByte_none rest 10 hno] at KI1
      have KI1A := Aside0.mk KI1
      clear KI1
      gi_upto_region 5 with (first
       | (refine ⟨trivial, ?_⟩; gi_at_call 10; refine (callsIn_wide.2 (KI1A.out _)).mono ?_; rintro e w' ⟨rfl, rfl⟩))
      have hx : (sB rest).size ≤ 140737488355328 := by rw [hz]; exact hrb
      have hpl : pre.length < s.size + 1 := by
       have h1 := congrArg List.length hpre
       rw [List.length_append, List.length_map] at h1
       have h2 := P.linesL_len s.data.toList
       omega
      obtain ⟨x, hxv⟩ : ∃ x : Raw, x.1 = sB rest := ⟨⟨sB rest, hx⟩, rfl⟩
      have hend : (pre ++ [x]).map trR = P.linesL s.data.toList := by
       rw [← hpre, List.map_append, P.linesL_none hno hr0]
       show _ ++ [trimL x.1.data.toList] = _
       rw [hxv, sB_list, trimL_none hno]
      obtain ⟨fn, tmps, assign, body, hy0, hR⟩ := hY pre x (wr.setCell ⟨Bs, 0, none⟩ (.string ⟨#[]⟩)) (by simpa using hsz) (step pre wr _ hJs) hpl
      rw [hxv] at hy0
      have hy : (Instr.yield y #[Value.string (sB rest)]).run Try.prog (wr.setCell ⟨Bs, 0, none⟩ (.string ⟨#[]⟩)) = .ok (.round y fn tmps assign body) (wr.setCell ⟨Bs, 0, none⟩ (.string ⟨#[]⟩)) := hy0
      have hb2 : (wr.setCell ⟨Bs, 0, none⟩ (.string ⟨#[]⟩)).heap[Bs]? = some (.cells #[.string (sB [])] 9 (0, 0)) := by simpa using blk_set hbr 0 (.string ⟨#[]⟩)
      have HE := Aside0.mk hend
      have HB2 := Aside0.mk hb2
      have HR0 := Aside0.mk hR
      have HSZ := Aside0.mk hsz
      clear hy0 hpre hend hb2 hR hJs hsz
      gi_wp2
      refine HR0.out.mono ?_
      rintro e W3 (⟨rfl, hJ3, hk3⟩ | ⟨rfl, hJx3, _⟩)
      · have hb3 := (hk3.same Bs (.inl rfl)).trans HB2.out
        have hz3 : W.heap.size ≤ W3.heap.size := Nat.le_trans HSZ.out (by simpa using hk3.size)
        have hms3 := bsOf_eq hb3
        have HQ : Aside0 (∃ (pre' : List Raw) (rest' : List UInt8), pre'.map trR ++ P.linesL rest' = P.linesL s.data.toList ∧ rest'.length ≤ s.size ∧ W3.heap[Bs]? = some (.cells #[.string (sB rest')] 9 (0, 0)) ∧ W.heap.size ≤ W3.heap.size ∧ J pre' W3) := ⟨_, [], by rw [P.linesL_nil, List.append_nil]; exact HE.out, Nat.zero_le _, hb3, hz3, hJ3⟩
        clear hb3 hz3 hJ3 hk3
        gi_wp2
        go_roundw
        case rel => exact HQ.out
        case measure => rw [hms3, hms]; exact hpos
      · have HQ := Aside0.mk hJx3
        clear hJx3
        gi_wp2
        refine bodyPost_ret (results_none rfl _ _ _) rfl ?_
        exact ⟨⟨_, rfl⟩, .inr ⟨_, ⟨by rw [HE.out]; exact List.prefix_rfl, by simp⟩, HQ.out⟩⟩
    · have KI1 := fun W => KIB.out rest W
      have hix := P.indexByte_some l1 l2 10 hno
      rw [← hl12] at hix
      rw [hix] at KI1
      have KI1A := Aside0.mk KI1
      clear KI1 hix
      have hl1 : l1.length + 1 + l2.length = rest.length := by rw [hl12]; simp; omega
      have e1 : (sB rest).extract 0 (l1.length + 1) = sB (l1 ++ [10]) := by
       rw [ext_sB _ _ (by omega), sB_list, hl12, List.take_append, List.take_of_length_le (by omega)]
       have : l1.length + 1 - l1.length = 1 := by omega
       rw [this]; rfl
      have e2 : (sB rest).extract (l1.length + 1) (sB rest).size = sB l2 := by
       have h1 : ((sB rest).extract (l1.length + 1) (sB rest).size).data.toList = l2 := by
        rw [ext_list _ _ _ (Nat.le_refl _), sB_list, hz, hl12, List.drop_append, List.drop_of_length_le (by omega)]
        have : l1.length + 1 - l1.length = 1 := by omega
        rw [this, List.nil_append, List.drop_one, List.tail_cons, List.take_of_length_le]
        simp; omega
       rw [← h1]
      have HL := Lib.hid hl12
      clear hl12
      gi_upto_region 4 with (first
       | (refine ⟨trivial, ?_⟩; gi_at_call 10; refine (callsIn_wide.2 (KI1A.out _)).mono ?_; rintro e w' ⟨rfl, rfl⟩))
      have hi1 : ((l1.length : Int) + 1) ≤ ((sB rest).size : Int) := by omega
      have hc2 : ({ heap := wr.heap, tape := wr.tape, drawn := wr.drawn + 1, os := wr.os, output := wr.output } : World).cell? ⟨Bs, 0, none⟩ = some (.string (sB rest)) := hc0
      have hwr : IntKind.i64.wrap ((l1.length : Int) + 1) = (l1.length : Int) + 1 := by rw [i64_w]; unfold wrap64; omega
      have hn1 : ((l1.length : Int) + 1).toNat = l1.length + 1 := by omega
      have hg0 : (0 : Int) ≤ (l1.length : Int) + 1 := by omega
      have hi2 : l1.length + 1 ≤ (sB rest).size := by omega
      have hi3 : (l1.length : Int) + 1 ≤ (rest.length : Int) := by omega
      have hi4 : l1.length + 1 ≤ rest.length := by omega
      have hi5 : l1.length < rest.length := by omega
      have hg1 : ¬ ((l1.length : Int) + 1 < 0) := by omega
      refine wpIn_wide.2 ?_
      go_still_tail 9, (by kernel_rfl)
      change wpList _ _ _ _ _ wr.drew
      have hc1 : wr.drew.cell? ⟨Bs, 0, none⟩ = some (.string (sB rest)) := hc0
      have hf1 : wr.drew.frozen? ⟨Bs, 0, none⟩ = false := hcf
      have e3 : (sB rest).extract (l1.length + 1) rest.length = sB l2 := by rw [← hz]; exact e2
      go_wp2_with fail
      obtain ⟨W1, hW1⟩ : ∃ W1, W1 = (wr.setCell ⟨Bs, 0, none⟩ (.string (sB l2))).drew := ⟨_, rfl⟩
      rw [← hW1]
      have hj1 : J pre W1 := by
       rw [hW1]
       exact hJ pre _ _ none (step pre wr _ hJs) ⟨rfl, rfl, rfl, Nat.le_refl _, fun _ _ _ => rfl⟩ (fun r e => by cases e)
      have hb1 : W1.heap[Bs]? = some (.cells #[.string (sB l2)] 9 (0, 0)) := by
       rw [hW1]
       show (wr.setCell ⟨Bs, 0, none⟩ (.string (sB l2))).heap[Bs]? = _
       simpa using blk_set hbr 0 (.string (sB l2))
      have hs1 : W.heap.size ≤ W1.heap.size := by
       rw [hW1]
       show W.heap.size ≤ (wr.setCell ⟨Bs, 0, none⟩ (.string (sB l2))).heap.size
       simpa using hsz
      have hx : (sB (l1 ++ [10])).size ≤ 140737488355328 := by rw [sB_size, List.length_append, List.length_singleton]; omega
      have hpl : pre.length < s.size + 1 := by
       have h1 := congrArg List.length hpre
       rw [List.length_append, List.length_map] at h1
       have h2 := P.linesL_len s.data.toList
       omega
      obtain ⟨x, hxv⟩ : ∃ x : Raw, x.1 = sB (l1 ++ [10]) := ⟨⟨sB (l1 ++ [10]), hx⟩, rfl⟩
      have hend : (pre ++ [x]).map trR ++ P.linesL l2 = P.linesL s.data.toList := by
       rw [← hpre, HL.out, P.linesL_some hno, List.map_append, List.append_assoc]
       show _ ++ ([trimL x.1.data.toList] ++ _) = _
       rw [hxv, sB_list, trimL_some]
       rfl
      obtain ⟨fn, tmps, assign, body, hy0, hR⟩ := hY pre x W1 (by simpa using hs1) hj1 hpl
      rw [hxv] at hy0
      have hy : (Instr.yield y #[Value.string (sB (l1 ++ [10]))]).run Try.prog W1 = .ok (.round y fn tmps assign body) W1 := hy0
      have HE := Aside0.mk hend
      have HB2 := Aside0.mk hb1
      have HR0 := Aside0.mk hR
      have HSZ := Aside0.mk hs1
      have hl2 : l2.length ≤ s.size := by omega
      have hlt2 : l2.length < rest.length := by omega
      clear hy0 hpre hend hb1 hR hJs hsz hs1 hj1 hW1 e1 e2 e3 hc0 hc1 hc2 hcf hf1 hi1 hi2 hi3 hi4 hi5 hwr hn1 hg0 hg1 HL
      gi_wp2
      refine HR0.out.mono ?_
      rintro e W3 (⟨rfl, hJ3, hk3⟩ | ⟨rfl, hJx3, _⟩)
      · have hb3 := (hk3.same Bs (.inl rfl)).trans HB2.out
        have hz3 : W.heap.size ≤ W3.heap.size := Nat.le_trans HSZ.out hk3.size
        have hms3 := bsOf_eq hb3
        have HQ : Aside0 (∃ (pre' : List Raw) (rest' : List UInt8), pre'.map trR ++ P.linesL rest' = P.linesL s.data.toList ∧ rest'.length ≤ s.size ∧ W3.heap[Bs]? = some (.cells #[.string (sB rest')] 9 (0, 0)) ∧ W.heap.size ≤ W3.heap.size ∧ J pre' W3) := ⟨_, l2, HE.out, hl2, hb3, hz3, hJ3⟩
        clear hb3 hz3 hJ3 hk3
        gi_wp2
        go_roundw
        case rel => exact HQ.out
        case measure => rw [hms3, hms]; exact hlt2
      · have HQ := Aside0.mk hJx3
        clear hJx3
        gi_wp2
        refine bodyPost_ret (results_none rfl _ _ _) rfl ?_
        exact ⟨⟨_, rfl⟩, .inr ⟨_, ⟨⟨_, HE.out⟩, by simp⟩, HQ.out⟩⟩
end Go.Proofs.Ytchhfpkdleifdaa.LI
/- words.Lines: walked; the contract of its iterator. -/
namespace Go.Proofs.Ytchhfpkdleifdaa.LI
open Go.RowKit Go.Shelf RZ YtchhfpkdleifdaaW.PrintWords YtchhfpkdleifdaaW.PrintLast YtchhfpkdleifdaaW.PrintMore
attribute [local go_sem] Oper.semAt_some
def numL : Nat → List (List UInt8) → List (Nat × List UInt8)
 | _, [] => []
 | k, x :: r => (k + 1, x) :: numL (k + 1) r
theorem numL_app : ∀ (A B : List (List UInt8)) (k : Nat), numL k (A ++ B) = numL k A ++ numL (k + A.length) B
 | [], B, k => by simp [numL]
 | x :: A, B, k => by
  have := numL_app A B (k + 1)
  rw [List.cons_append, numL, numL, this, List.length_cons, List.cons_append]
  have e : k + 1 + A.length = k + (A.length + 1) := by omega
  rw [e]
theorem numL_prefix {A B : List (List UInt8)} (h : A <+: B) (k : Nat) : numL k A <+: numL k B := by
 obtain ⟨t, rfl⟩ := h
 rw [numL_app]
 exact List.prefix_append _ _
theorem numL_len : ∀ (A : List (List UInt8)) (k : Nat), (numL k A).length = A.length
 | [], _ => rfl
 | x :: A, k => by rw [numL, List.length_cons, List.length_cons, numL_len A (k + 1)]
abbrev Num : Type := Nat × Raw
def cvN (p : Num) : Nat × List UInt8 := (p.1, p.2.1.data.toList)
theorem wlines_calls (s : ByteArray) (w : World) : Calls Try.prog 4 #[.string s] w fun e w' => e = .returned (.func (.func 6) #[] #[.pointer (some ⟨w.heap.size, 0, none⟩)]) ∧ w' = w.alloc (.cells #[.string s] 9) := by
 go_enter Try.func4, Try.ntmps4
 go_wp2_with fail
 go_ret
 exact ⟨rfl, rfl⟩
structure WL (y A0 : Nat) (J : List Num → World → Prop) (pre : List Raw) (W : World) : Prop where
 yb : W.heap[A0]? = some (.cells #[.func (.yield y) #[] #[]] 28 (0, 0))
 nb : W.heap[A0 + 1]? = some (.cells #[.int .i64 (pre.length : Int)] 3 (0, 0))
 js : ∃ pre2 : List Num, pre2.map cvN = numL 0 (pre.map trR) ∧ J pre2 W
set_option maxRecDepth 100000 in
set_option maxHeartbeats 4000000 in
theorem wlines1_seq (Bw : Nat) (s : ByteArray) (hs : s.size ≤ 140737488355328) (w0 : World) (hbs : w0.heap[Bw]? = some (.cells #[.string s] 9 (0, 0))) :
 SeqC Try.prog 6 #[.pointer (some ⟨Bw, 0, none⟩)] (fun x : Num => #[Value.int .i64 (x.1 : Int), Value.string x.2.1]) (fun _ => False) 5 (fun ys => ys.map cvN = numL 0 (P.linesL s.data.toList)) (fun pre => (pre.map cvN <+: numL 0 (P.linesL s.data.toList)) ∧ pre ≠ []) (s.size + 1) w0 := by
 intro y J Jx W hW hJ hJx hY h0
 have hb := (hW.block _ (Array.getElem?_eq_some_iff.1 hbs).1).trans hbs
 have hbl := (Array.getElem?_eq_some_iff.1 hb).1
 have hlen : s.data.toList.length = s.size := data_length s
 have hcB : W.cell? ⟨Bw, 0, none⟩ = some (.string s) := by rw [Lib.cell_of_heap hb]; rfl
 have hcB2 : ∀ o o', ((W.alloc o).alloc o').cell? ⟨Bw, 0, none⟩ = some (.string s) := fun o o' => by
  have h1 : ((W.alloc o).alloc o').heap[Bw]? = some (.cells #[.string s] 9 (0, 0)) := (Below.heap_alloc _ o' _ (by simp; omega)).trans ((Below.heap_alloc _ o _ hbl).trans hb)
  rw [Lib.cell_of_heap h1]; rfl
 refine (callsIn_wide (n := 10)).1 ?_
 refine callsIn_of_wp_marks Try.func6 rfl trivial ?_ rfl
 simp only [Try.ntmps6, List.size_toArray, List.length_cons, List.length_nil, Nat.reduceAdd, Nat.reduceSub, Array.replicate_succ, Array.replicate_zero, List.push_toArray, List.append_toArray, List.nil_append, List.cons_append]
 gi_wp2_with (first
  | (refine ⟨trivial, ?_⟩; gi_at_call 7; refine (callsIn_wide.2 (lines_calls s _)).mono ?_; rintro e w3 ⟨rfl, rfl⟩))
 obtain ⟨Wi, hWi⟩ : ∃ Wi, Wi = ((W.alloc (.cells #[.func (.yield y) #[] #[]] 28)).alloc (.cells #[.int .i64 0] 3)).alloc (.cells #[.string s] 9) := ⟨_, rfl⟩
 rw [← hWi]
 have zi : Wi.heap.size = W.heap.size + 3 := by rw [hWi]; simp
 have lowi : Below W.heap.size W Wi := by rw [hWi]; exact (((Below.refl _ W).alloc (Nat.le_refl _) _).alloc (by simp) _).alloc (by simp; omega) _
 have b0 : Wi.heap[W.heap.size]? = some (.cells #[.func (.yield y) #[] #[]] 28 (0, 0)) := by
  rw [hWi]; exact (Below.heap_alloc _ _ _ (by simp; omega)).trans (heap_alloc2_old W _ _)
 have b1 : Wi.heap[W.heap.size + 1]? = some (.cells #[.int .i64 0] 3 (0, 0)) := by
  rw [hWi]; exact (Below.heap_alloc _ _ _ (by simp)).trans (heap_alloc2_new W _ _)
 have b2 : Wi.heap[W.heap.size + 1 + 1]? = some (.cells #[.string s] 9 (0, 0)) := by
  rw [hWi]
  have h := World.alloc_heap_new ((W.alloc (.cells #[.func (.yield y) #[] #[]] 28)).alloc (.cells #[.int .i64 0] 3)) (.cells #[.string s] 9)
  rwa [World.size_alloc, World.size_alloc] at h
 have j0 : J [] Wi := hJ [] W Wi none h0 ⟨lowi.os, lowi.tape, lowi.output, lowi.size, fun k hk _ => lowi.block k hk⟩ (fun r e => by cases e)
 have wl0 : WL y W.heap.size J [] Wi := ⟨b0, b1, [], rfl, j0⟩
 have hab : ∀ (row : Option Nat), (∀ r, row = some r → Ours (fun k => k = W.heap.size + 1 + 1) Wi.heap.size (Wi.heap.size + 2 + 0) r) → (∀ r, row = some r → Ours (fun _ => False) W.heap.size (W.heap.size + 5) r) ∧ row ≠ some W.heap.size ∧ row ≠ some (W.heap.size + 1) := fun row hr =>
  ⟨fun r e => .inr (by rcases hr r e with h | h <;> omega), fun e => by rcases hr _ e with h | h <;> omega, fun e => by rcases hr _ e with h | h <;> omega⟩
 have hWL : Ab (fun k => k = W.heap.size + 1 + 1) Wi.heap.size (Wi.heap.size + 2 + 0) (fun pre W' => Aside0 (WL y W.heap.size J pre W')) := fun pre A B row hs hg hr => by
  obtain ⟨h1, h2, h3⟩ := hab row hr
  obtain ⟨p2, e2, j2⟩ := hs.out.js
  exact ⟨⟨(hg.block _ (Array.getElem?_eq_some_iff.1 hs.out.yb).1 (fun e => h2 e.symm)).trans hs.out.yb, (hg.block _ (Array.getElem?_eq_some_iff.1 hs.out.nb).1 (fun e => h3 e.symm)).trans hs.out.nb, p2, e2, hJ p2 A B row j2 hg h1⟩⟩
 clear hWi
 refine wpIn_range_C (gf := 9) (lb := #[.pointer (some ⟨W.heap.size + 1 + 1, 0, none⟩)]) rfl (enters_of Try.func9 (by kernel_rfl) rfl) (lines1_seq (W.heap.size + 1 + 1) s hs Wi b2) (Below.refl _ _) (fun _ => rfl) (fun k hk => by omega)
  (fun pre W' => Aside0 (WL y W.heap.size J pre W'))
  (fun j pre W' => j = .ret ∧ ∃ p2 : List Num, p2.map cvN = numL 0 (pre.map trR) ∧ p2 ≠ [] ∧ Jx p2 W')
  hWL
  (fun j pre A B row hs hg hr => ⟨hs.1, hs.2.imp fun p2 h => ⟨h.1, h.2.1, hJx p2 A B row h.2.2 hg (hab row hr).1⟩⟩)
  ⟨wl0⟩
  (fun x : Raw => { tmps := #[.func (.yield y) #[] #[], .pointer (some ⟨Bw, 0, none⟩), .pointer (some ⟨W.heap.size, 0, none⟩), .pointer (some ⟨W.heap.size + 1, 0, none⟩), .string x.1, .string s, .func (.func 9) #[] #[.pointer (some ⟨W.heap.size + 1 + 1, 0, none⟩)], .string x.1, undef, undef, undef, undef, undef, undef, undef, undef], defers := [] }) ?assign ?body ?done ?stop
 case assign =>
  intro l x W' K hK
  gi_wp2
  simpa using hK
 case body =>
  rintro l pre x W' hzW tw hpl
  obtain ⟨p2, he2, hj2⟩ := tw.out.js
  have hp2 : p2.length = pre.length := by
   have h1 := congrArg List.length he2
   rwa [List.length_map, numL_len, List.length_map] at h1
  have c1 : W'.cell? ⟨W.heap.size, 0, none⟩ = some (.func (.yield y) #[] #[]) := by rw [Lib.cell_of_heap tw.out.yb]; rfl
  have c2 : W'.cell? ⟨W.heap.size + 1, 0, none⟩ = some (.int .i64 (pre.length : Int)) := by rw [Lib.cell_of_heap tw.out.nb]; rfl
  have c3 : W'.frozen? ⟨W.heap.size + 1, 0, none⟩ = false := by simp [World.frozen?, tw.out.nb]
  have hA1 := (Array.getElem?_eq_some_iff.1 tw.out.nb).1
  obtain ⟨W1, hW1⟩ : ∃ W1, W1 = W'.setCell ⟨W.heap.size + 1, 0, none⟩ (.int .i64 ((pre.length : Int) + 1)) := ⟨_, rfl⟩
  have yb1 : W1.heap[W.heap.size]? = some (.cells #[.func (.yield y) #[] #[]] 28 (0, 0)) := by rw [hW1]; exact blk_far tw.out.yb (by simp) _
  have nb1 : W1.heap[W.heap.size + 1]? = some (.cells #[.int .i64 ((pre.length : Int) + 1)] 3 (0, 0)) := by rw [hW1]; simpa using blk_set tw.out.nb 0 (.int .i64 ((pre.length : Int) + 1))
  have hz1 : W1.heap.size = W'.heap.size := by rw [hW1]; simp
  have j1 : J p2 W1 := by
   rw [hW1]
   exact hJ p2 W' _ (some (W.heap.size + 1)) hj2 (grownBy_setCell' W' _ _) (fun r e => by cases e; exact .inr ⟨by omega, by omega⟩)
  have j2 : J p2 W1.drew := hJ p2 W1 _ none j1 ⟨rfl, rfl, rfl, Nat.le_refl _, fun _ _ _ => rfl⟩ (fun r e => by cases e)
  have ks : ∀ k, k ≠ W.heap.size + 1 → W1.heap[k]? = W'.heap[k]? := fun k hk => by rw [hW1]; exact Below.heap_setCell _ _ _ _ (by exact hk)
  have htl : (trimL x.1.data.toList).length ≤ 140737488355328 := by
   have h1 : x.1.data.toList.length = x.1.size := data_length x.1
   have h2 := x.2
   unfold trimL
   split
   · rw [List.length_dropLast]; omega
   · omega
  obtain ⟨nx, hnx⟩ : ∃ nx : Num, nx.1 = pre.length + 1 ∧ nx.2.1 = sB (trimL x.1.data.toList) := ⟨(pre.length + 1, ⟨sB (trimL x.1.data.toList), by rw [sB_size]; exact htl⟩), rfl, rfl⟩
  obtain ⟨fn, tmps, assign, body, hy0, hR⟩ := hY p2 nx W1.drew (by show W.heap.size + 5 ≤ W1.heap.size; omega) j2 (by omega)
  rw [hnx.1, hnx.2] at hy0
  have hy : (Instr.yield y #[Value.int .i64 ((pre.length : Int) + 1), Value.string (sB (trimL x.1.data.toList))]).run Try.prog W1.drew = .ok (.round y fn tmps assign body) W1.drew := by
   have : ((pre.length + 1 : Nat) : Int) = (pre.length : Int) + 1 := by omega
   rw [this] at hy0; exact hy0
  have KT : Aside0 (∀ W, Calls Try.prog 8 #[.string x.1, .string ⟨#[10]⟩] W fun e w' => e = .returned (.string (sB (trimL x.1.data.toList))) ∧ w' = W) := ⟨fun W => trim_calls x.1 x.2 W⟩
  have d1 : W1.cell? ⟨W.heap.size, 0, none⟩ = some (.func (.yield y) #[] #[]) := by rw [Lib.cell_of_heap yb1]; rfl
  have d2 : W1.cell? ⟨W.heap.size + 1, 0, none⟩ = some (.int .i64 ((pre.length : Int) + 1)) := by rw [Lib.cell_of_heap nb1]; rfl
  have hR1 : RoundIn Fence.wide 9 Try.prog y fn tmps assign body W1.drew fun e W3 => ∃ b : Bool, e = .returned (.bool b) ∧ Aside0 ((b = true → J (p2 ++ [nx]) W3 ∧ KZ (fun _ => False) W.heap.size (W.heap.size + 5) W1.drew W3) ∧ (b = false → Jx (p2 ++ [nx]) W3 ∧ KZ (fun _ => False) W.heap.size (W.heap.size + 5) W1.drew W3)) := hR.mono (by
   rintro e W3 (⟨rfl, h3, h4⟩ | ⟨rfl, h3, h4⟩)
   · exact ⟨true, rfl, ⟨fun _ => ⟨h3, h4⟩, fun h => by cases h⟩⟩
   · exact ⟨false, rfl, ⟨fun h => (by cases h), fun _ => ⟨h3, h4⟩⟩⟩)
  have HR1 := Aside0.mk hR1
  have hmx : Try.prog.follows .mixedOrders = true := by kernel_rfl
  have he3 : (p2 ++ [nx]).map cvN = numL 0 ((pre ++ [x]).map trR) := by
   rw [List.map_append, he2, List.map_append, numL_app, List.length_map, Nat.zero_add]
   congr 1
   show [(nx.1, nx.2.1.data.toList)] = [(pre.length + 1, trimL x.1.data.toList)]
   rw [hnx.1, hnx.2, sB_list]
  have HE3 := Aside0.mk he3
  have HYB := Aside0.mk yb1
  have HNB := Aside0.mk nb1
  have HKS := Aside0.mk ks
  have HZ1 := Lib.hid hz1
  clear hy0 hR hR1 he3 he2 hj2 yb1 nb1 j1 j2 ks hz1 tw hnx hp2
  gi_wp2
  rw [← hW1]
  clear hW1 c1 c2 c3
  gi_region_with_o (first
   | (refine ⟨trivial, ?_⟩; gi_at_call 8; refine (CallsIn.inRound l (callsIn_wide.2 (KT.out _))).mono ?_; rintro e w' ⟨rfl, rfl⟩)
   | (refine (round_any l HR1.out).mono ?_; rintro e W3 ⟨b, rfl, t3⟩))
  all_goals
   have hkz : KZ (fun _ => False) W.heap.size (W.heap.size + 5) W1.drew W3 → KZ (fun k => k = W.heap.size + 1 + 1) Wi.heap.size (Wi.heap.size + 2 + 0) W' W3 := fun h => ⟨fun k hk => (h.same k (.inr (by rcases hk with hk | hk <;> omega))).trans (HKS.out k (by rcases hk with hk | hk <;> omega)), by have h1 : W1.heap.size ≤ W3.heap.size := h.size; have h2 := HZ1.out; omega⟩
   cases b
   · obtain ⟨hx3, hk3⟩ := t3.out.2 rfl
     have P1 := Aside0.mk (hkz hk3)
     have P2 := Aside0.mk hx3
     clear hkz hx3 hk3 t3
     gi_wp2
     exact ⟨P1.out, rfl, _, HE3.out, by simp, P2.out⟩
   · obtain ⟨hx3, hk3⟩ := t3.out.1 rfl
     have P1 := Aside0.mk (hkz hk3)
     have hn3 : ((pre ++ [x]).length : Int) = (pre.length : Int) + 1 := by simp
     have P2 : Aside0 (WL y W.heap.size J (pre ++ [x]) W3) := ⟨⟨(hk3.same _ (.inr ⟨by omega, by omega⟩)).trans HYB.out, by rw [hn3]; exact (hk3.same _ (.inr ⟨by omega, by omega⟩)).trans HNB.out, _, HE3.out, hx3⟩⟩
     clear hkz hx3 hk3 t3 hn3
     gi_wp2
     exact ⟨P1.out, P2⟩
 case done =>
  rintro D xs W' hD1 hD2 hS tw hd
  obtain ⟨p2, he, hj⟩ := tw.out.js
  rw [hS] at he
  have hDr : Ours (fun _ => False) W.heap.size (W.heap.size + 5) D := .inr ⟨by omega, by omega⟩
  have hfin := hJ p2 W' _ (some D) hj (grownBy_putObj' W' D (.deferred none)) (fun r e => by cases e; exact hDr)
  have HF := Aside0.mk hfin
  clear tw hj hfin
  gi_wp2
  refine ⟨by simp, .inl ⟨_, _, rfl, run_takeDeferred hd, ?_⟩⟩
  exact ⟨_, results_none rfl _ _ _, ⟨_, rfl⟩, .inl ⟨p2, he, HF.out⟩⟩
 case stop =>
  rintro D j pre W' hD1 hD2 hS ⟨rfl, p2, he, hne, hj⟩ hd
  have hDr : Ours (fun _ => False) W.heap.size (W.heap.size + 5) D := .inr ⟨by omega, by omega⟩
  have hfin := hJx p2 W' _ (some D) hj (grownBy_putObj' W' D (.deferred none)) (fun r e => by cases e; exact hDr)
  have HF := Aside0.mk hfin
  clear hj hfin
  gi_wp2
  refine ⟨by simp, .inl ⟨_, _, rfl, run_takeDeferred hd, ?_⟩⟩
  exact ⟨_, results_none rfl _ _ _, ⟨_, rfl⟩, .inr ⟨p2, ⟨by rw [he]; exact numL_prefix hS.1 0, hne⟩, HF.out⟩⟩
end Go.Proofs.Ytchhfpkdleifdaa.LI
/- The document's lines are the lines. -/
namespace Go.Proofs.Ytchhfpkdleifdaa.LI
open Go.RowKit YtchhfpkdleifdaaW.PrintWords YtchhfpkdleifdaaW.PrintLast YtchhfpkdleifdaaW.PrintMore
open Cl
theorem bt_i (s : ByteArray) (i : Nat) (h : i < s.size) (hl : s.data.toList.length = s.size) : bt s (i : Int) = ((s.data.toList[i]'(by omega)).toNat : Int) := by
 unfold bt
 have h1 : ((i : Int)).toNat < s.size := by omega
 rw [dif_pos h1]
 rfl
theorem ext_mid (s : ByteArray) (a b : Nat) (h : b ≤ s.size) : s.extract a b = sB ((s.data.toList.drop a).take (b - a)) := by
 rw [← ext_list s a b h]
theorem lines_l (s : ByteArray) (hs : s.size ≤ 1048576) (hl : s.data.toList.length = s.size) : ∀ (d i a k : Nat) (out : List ByteArray), s.size - i = d → i ≤ s.size → a ≤ i → out.length ≤ a → d < k →
 dovetailref02_Lines.l0 k s out (a : Int) (i : Int) = some (out ++ (P.linesA ((s.data.toList.drop a).take (i - a)) (s.data.toList.drop i)).map sB)
 | 0, i, a, k + 1, out, hd, hi, ha, ho, hk => by
  have e : i = s.size := by omega
  subst e
  unfold dovetailref02_Lines.l0
  rw [if_neg (by omega)]
  have hdr : s.data.toList.drop s.size = [] := by rw [← hl]; exact List.drop_length
  rw [hdr]
  unfold P.linesA
  by_cases haz : a < s.size
  · rw [if_pos (by omega), if_pos (by omega), if_pos (by omega), if_pos (by omega)]
    have hne : ¬ (s.data.toList.drop a).take (s.size - a) = [] := by
     intro e
     have h1 := congrArg List.length e
     rw [List.length_take, List.length_drop, hl] at h1
     simp at h1
     omega
    rw [if_neg hne, Int.toNat_natCast, ext_mid s a s.size (Nat.le_refl _)]
    rfl
  · have e2 : a = s.size := by omega
    rw [if_neg (by omega), e2, Nat.sub_self, List.take_zero, if_pos rfl]
    simp
 | d + 1, i, a, k + 1, out, hd, hi, ha, ho, hk => by
  have hlt : i < s.size := by omega
  have hd0 : s.data.toList.drop i = s.data.toList[i]'(by omega) :: s.data.toList.drop (i + 1) := List.drop_eq_getElem_cons (by omega)
  have hw : wrap64 ((i : Int) + 1) = ((i + 1 : Nat) : Int) := by unfold wrap64; omega
  have htk : (s.data.toList.drop a).take (i + 1 - a) = (s.data.toList.drop a).take (i - a) ++ [s.data.toList[i]'(by omega)] := by
   have e1 : i + 1 - a = (i - a) + 1 := by omega
   have h2 : i - a < (s.data.toList.drop a).length := by rw [List.length_drop]; omega
   rw [e1, List.take_succ_eq_append_getElem h2]
   congr 2
   rw [List.getElem_drop]
   congr 1
   omega
  unfold dovetailref02_Lines.l0
  rw [if_pos (by omega), if_pos (by omega), bt_i s i hlt hl, hd0, hw]
  unfold P.linesA
  by_cases hc : s.data.toList[i]'(by omega) = 10
  · have hc' : ((s.data.toList[i]'(by omega)).toNat : Int) = 10 := by rw [hc]; rfl
    rw [if_pos hc', if_pos (by omega), if_pos (by omega), if_pos (by omega), if_pos (by omega), if_pos hc, Int.toNat_natCast, Int.toNat_natCast, ext_mid s a i (by omega),
     lines_l s hs hl d (i + 1) (i + 1) k _ (by omega) (by omega) (Nat.le_refl _) (by rw [List.length_append, List.length_singleton]; omega) (by omega), Nat.sub_self, List.take_zero, List.append_assoc]
    rfl
  · have hc' : ¬ ((s.data.toList[i]'(by omega)).toNat : Int) = 10 := fun e => hc (UInt8.toNat_inj.1 (by have : (10 : UInt8).toNat = 10 := rfl; omega))
    rw [if_neg hc', if_neg hc, lines_l s hs hl d (i + 1) a k out (by omega) (by omega) (by omega) ho (by omega), htk]
theorem lines_f (s : ByteArray) (hs : s.size ≤ 1048576) : dovetailref02_Lines.f (s.size + 1) s = some ((P.linesL s.data.toList).map sB) := by
 have hl : s.data.toList.length = s.size := data_length s
 have h := lines_l s hs hl s.size 0 0 (s.size + 1) [] rfl (Nat.zero_le _) (Nat.le_refl _) (Nat.le_refl _) (by omega)
 unfold dovetailref02_Lines.f P.linesL
 simpa using h
end Go.Proofs.Ytchhfpkdleifdaa.LI
/- dovetaillaw02.WordsCut: walked. -/
namespace Go.Proofs.Ytchhfpkdleifdaa.LI
open Go.RowKit Go.Shelf RZ YtchhfpkdleifdaaW.PrintWords YtchhfpkdleifdaaW.PrintLast YtchhfpkdleifdaaW.PrintMore
open Cl
attribute [local go_sem] Oper.semAt_some
def marks (Ds : List Nat) : List Deferred := Ds.map fun D => { target := .collected D, args := #[] }
theorem leaves_marks {F : Fence} {n : Nat} {P : Program} {fn : Func} {tmps : Array Value} {R : Ending → World → Prop} (base : Nat) : ∀ (Ds : List Nat) (w : World), Ds.Nodup → (∀ D ∈ Ds, base ≤ D ∧ w.heap[D]? = some (.deferred (some []))) →
 (∀ w', Below base w w' → (∀ k, k ∉ Ds → w'.heap[k]? = w.heap[k]?) → LeavesIn F n P fn tmps R [] .returning w') → LeavesInM F n P fn tmps R (marks Ds) .returning w
 | [], w, _, _, h => h w (Below.refl _ _) (fun _ _ => rfl)
 | D :: Ds, w, hn, hD, h => by
  have hd := hD D List.mem_cons_self
  have hn' := List.nodup_cons.1 hn
  refine ⟨by simp, .inl ⟨D, w.putObj D (.deferred none), rfl, run_takeDeferred hd.2, ?_⟩⟩
  have hb0 : Below base w (w.putObj D (.deferred none)) := ⟨rfl, rfl, rfl, by simp, fun k hk2 => World.putObj_heap_other (by have := hd.1; omega)⟩
  refine leaves_marks base Ds _ hn'.2 (fun D' h' => ?_) (fun w' hb hk => ?_)
  · have := hD D' (List.mem_cons_of_mem _ h')
    have hne : D' ≠ D := fun e => hn'.1 (by rw [← e]; exact h')
    exact ⟨this.1, (World.putObj_heap_other hne).trans this.2⟩
  · refine h w' (hb0.trans hb) fun k hk3 => ?_
    rw [List.mem_cons, not_or] at hk3
    exact (hk k hk3.2).trans (World.putObj_heap_other hk3.1)
theorem toL_inj (a b : ByteArray) : (a.toList = b.toList) ↔ a = b := by
 rw [ByteArray.toList_eq, ByteArray.toList_eq]
 exact ⟨fun h => by rw [← sB_self a, ← sB_self b, h], fun h => by rw [h]⟩
theorem numL_at : ∀ (L : List (List UInt8)) (k i : Nat) (h : i < L.length), (numL k L)[i]? = some (k + i + 1, L[i])
 | [], _, i, h => by simp at h
 | x :: L, k, 0, h => by simp [numL]
 | x :: L, k, i + 1, h => by
  have h' : i < L.length := by simpa using h
  have := numL_at L (k + 1) i h'
  rw [numL, List.getElem?_cons_succ, this]
  have e : k + 1 + i + 1 = k + (i + 1) + 1 := by omega
  rw [e]; rfl
theorem numL_step {L : List (List UInt8)} {P : List (Nat × List UInt8)} (h : P <+: numL 0 L) (hl : P.length < L.length) (q : Nat × List UInt8) : (P ++ [q] <+: numL 0 L ↔ q = (P.length + 1, L[P.length])) := by
 have h1 := numL_at L 0 P.length hl
 obtain ⟨t, ht⟩ := h
 rw [← ht, List.getElem?_append_right (Nat.le_refl _), Nat.sub_self, Nat.zero_add] at h1
 rw [← ht]
 cases t with
 | nil => simp at h1
 | cons y t =>
  have hy : y = (P.length + 1, L[P.length]) := by simpa using h1
  rw [List.prefix_append_right_inj, List.cons_prefix_cons, hy]
  exact ⟨fun hh => hh.1, fun hh => ⟨hh, List.nil_prefix⟩⟩
theorem numL_full {L : List (List UInt8)} {P : List (Nat × List UInt8)} (h : P <+: numL 0 L) (hl : L.length ≤ P.length) (q : Nat × List UInt8) : ¬ P ++ [q] <+: numL 0 L := fun hh => by
 have := hh.length_le
 rw [numL_len, List.length_append, List.length_singleton] at this
 omega
structure WC (w : World) (early : Int) (s : ByteArray) (Z : Nat) (V : Option Addr) (cv : Nat) (L : List (List UInt8)) (W : World) : Prop where
 low : Below w.heap.size w W
 eb : W.heap[w.heap.size]? = some (.cells #[.int .i64 early] 3 (0, 0))
 bb : W.heap[w.heap.size + 1]? = some (.cells #[.bool false] 4 (0, 0))
 sb : W.heap[w.heap.size + 2]? = some (.cells #[.string s] 9 (0, 0))
 zb : W.heap[Z]? = some (.cells #[.slice V L.length cv] 25 (0, 0))
 rw : Kd.C Kd.string W V L.length (L.map sB)
 zs : w.heap.size + 3 ≤ Z ∧ ∀ ad, V = some ad → 0 < L.length → w.heap.size + 3 ≤ ad.block ∧ ad.block < Z
section
variable {w W W' : World} {early : Int} {s : ByteArray} {Z : Nat} {V : Option Addr} {cv : Nat} {L : List (List UInt8)}
theorem WC.same (h : WC w early s Z V cv L W) (ho : W'.os = W.os ∧ W'.tape = W.tape ∧ W'.output = W.output ∧ W.heap.size ≤ W'.heap.size) (hm : ∀ k, k < Z + 1 → W'.heap[k]? = W.heap[k]?) : WC w early s Z V cv L W' := by
 have hz := h.zs
 refine ⟨⟨ho.1.trans h.low.os, ho.2.1.trans h.low.tape, ho.2.2.1.trans h.low.output, Nat.le_trans h.low.size ho.2.2.2, fun k hk => (hm k (by omega)).trans (h.low.block k hk)⟩, (hm _ (by omega)).trans h.eb, (hm _ (by omega)).trans h.bb, (hm _ (by omega)).trans h.sb, (hm _ (by omega)).trans h.zb, ?_, hz⟩
 refine ⟨h.rw.1, h.rw.2.1, fun hp => ?_⟩
 obtain ⟨ad, e, hc⟩ := h.rw.2.2 hp
 refine ⟨ad, e, fun j p hj => ?_⟩
 obtain ⟨c, h1, h2, h3⟩ := hc j p hj
 refine ⟨c, h1, h2, fun i u hu => ?_⟩
 rw [← h3 i u hu]
 exact World.cell?_of_block (by rw [add_block]; exact hm _ (by have := (hz.2 ad e hp).2; omega))
theorem WC.cells (h : WC w early s Z V cv L W) : W.cell? ⟨w.heap.size, 0, none⟩ = some (.int .i64 early) ∧ W.cell? ⟨w.heap.size + 1, 0, none⟩ = some (.bool false) ∧ W.cell? ⟨Z, 0, none⟩ = some (.slice V L.length cv) ∧ W.frozen? ⟨w.heap.size + 1, 0, none⟩ = false :=
 ⟨by rw [Lib.cell_of_heap h.eb]; rfl, by rw [Lib.cell_of_heap h.bb]; rfl, by rw [Lib.cell_of_heap h.zb]; rfl, by simp [World.frozen?, h.bb]⟩
theorem WC.zlt (h : WC w early s Z V cv L W) : Z < W.heap.size := (Array.getElem?_eq_some_iff.1 h.zb).1
theorem WC.more (h : WC w early s Z V cv L W) (hb : Below W.heap.size W W') : WC w early s Z V cv L W' := h.same ⟨hb.os, hb.tape, hb.output, hb.size⟩ (fun k hk => hb.block k (by have := h.zlt; omega))
theorem WC.far (h : WC w early s Z V cv L W) {p : Addr} (hp : Z + 1 ≤ p.block) (v : Value) : WC w early s Z V cv L (W.setCell p v) := h.same ⟨rfl, rfl, rfl, by simp⟩ (fun k hk => Below.heap_setCell _ _ _ _ (by omega))
theorem WC.grown {row : Option Nat} (h : WC w early s Z V cv L W) (hg : W.grownBy W' row) (hr : ∀ r, row = some r → Z + 1 ≤ r) : WC w early s Z V cv L W' := h.same ⟨hg.os, hg.tape, hg.output, hg.size⟩ (fun k hk => hg.block k (by have := h.zlt; omega) (fun e => by have := hr k e.symm; omega))
end
structure WD (w : World) (early : Int) (s : ByteArray) (Z : Nat) (V : Option Addr) (cv : Nat) (L : List (List UInt8)) (AB : Nat) (a : Int) (Ds : List Nat) (W : World) : Prop where
 wc : WC w early s Z V cv L W
 ab : W.heap[AB]? = some (.cells #[.int .i64 a] 3 (0, 0))
 ds : ∀ D ∈ Ds, Z + 1 ≤ D ∧ D < AB ∧ W.heap[D]? = some (.deferred (some []))
 zs : Z + 1 ≤ AB
section
variable {w W W' : World} {early : Int} {s : ByteArray} {Z : Nat} {V : Option Addr} {cv : Nat} {L : List (List UInt8)} {AB : Nat} {a : Int} {Ds : List Nat}
theorem WD.start (h : WC w early s Z V cv L W) (hd : ∀ D ∈ Ds, Z + 1 ≤ D ∧ W.heap[D]? = some (.deferred (some []))) : WD w early s Z V cv L W.heap.size 0 Ds (W.alloc (.cells #[.int .i64 0] 3)) := by
 have hz := h.zlt
 refine ⟨h.more ((Below.refl _ W).alloc (Nat.le_refl _) _), World.alloc_heap_new W _, fun D hD => ?_, by omega⟩
 obtain ⟨d1, d2⟩ := hd D hD
 have d3 := (Array.getElem?_eq_some_iff.1 d2).1
 exact ⟨d1, d3, (Below.heap_alloc W _ D d3).trans d2⟩
theorem WD.grown {row : Option Nat} (h : WD w early s Z V cv L AB a Ds W) (hg : W.grownBy W' row) (hr : ∀ r, row = some r → AB + 1 ≤ r) : WD w early s Z V cv L AB a Ds W' := by
 have hz := h.zs
 refine ⟨h.wc.grown hg (fun r e => by have := hr r e; omega), (hg.block _ (Array.getElem?_eq_some_iff.1 h.ab).1 (fun e => by have := hr _ e.symm; omega)).trans h.ab, fun D hD => ?_, hz⟩
 obtain ⟨d1, d2, d3⟩ := h.ds D hD
 exact ⟨d1, d2, (hg.block D (Array.getElem?_eq_some_iff.1 d3).1 (fun e => by have := hr D e.symm; omega)).trans d3⟩
theorem WD.put (h : WD w early s Z V cv L AB a Ds W) (a' : Int) : WD w early s Z V cv L AB a' Ds (W.setCell ⟨AB, 0, none⟩ (.int .i64 a')) := by
 have hz := h.zs
 refine ⟨h.wc.far hz _, by simpa using blk_set h.ab 0 (.int .i64 a'), fun D hD => ?_, hz⟩
 obtain ⟨d1, d2, d3⟩ := h.ds D hD
 exact ⟨d1, d2, (Below.heap_setCell _ _ _ _ (by show D ≠ AB; omega)).trans d3⟩
theorem WD.cell (h : WD w early s Z V cv L AB a Ds W) : W.cell? ⟨AB, 0, none⟩ = some (.int .i64 a) ∧ W.frozen? ⟨AB, 0, none⟩ = false := ⟨by rw [Lib.cell_of_heap h.ab]; rfl, by simp [World.frozen?, h.ab]⟩
end
theorem kz_put {own : Nat → Prop} {lo hi : Nat} (hown : ∀ k, own k → False) {W : World} {p : Addr} (hp : p.block < lo) (v : Value) : KZ own lo hi W (W.setCell p v) :=
 ⟨fun k hk => Below.heap_setCell _ _ _ _ (by rcases hk with h | h; exact (hown k h).elim; omega), by simp⟩
set_option maxRecDepth 100000 in
set_option maxHeartbeats 8000000 in
theorem WordsCut_calls (s : ByteArray) (early : Int) (w : World) (hs : s.size ≤ 1048576) (he0 : -9223372036854775808 ≤ early) (he1 : early < 9223372036854775808) :
 Calls Try.prog 3 #[.string s, .int .i64 early] w fun e w' => e = .returned (.bool true) ∧ Below w.heap.size w w' := by
 obtain ⟨L, hL⟩ : ∃ L, L = P.linesL s.data.toList := ⟨_, rfl⟩
 have hlen : s.data.toList.length = s.size := data_length s
 have hLl : L.length ≤ s.size := by rw [hL, ← hlen]; exact P.linesL_len _
 have hLF : dovetailref02_Lines.f (s.size + 1) s = some (L.map sB) := by rw [hL]; exact lines_f s hs
 have KR : Aside0 (∀ W, Calls Try.prog 5 #[.string s] W fun e w' => ∃ V cv, e = .returned (.slice V L.length cv) ∧ (Kd.R Kd.string 9 w' W.heap.size (fun _ => True) (.slice V L.length cv) (L.map sB) ∧ Below W.heap.size W w')) := ⟨fun W => by
  refine (dovetailref02_Lines.calls (s.size + 1) s _ W hLF).mono ?_
  rintro e w' ⟨v0, he, hR, hb⟩
  obtain ⟨V, cv, ev⟩ := Kd.R_slice hR
  rw [List.length_map] at ev
  subst ev
  exact ⟨V, cv, he, hR, hb⟩⟩
 have HL := Lib.hid hL
 clear hL hlen hLF
 have he : ∀ (w : World) (b : Nat), (binOp .eql 23 (.func (.func 6) #[] #[.pointer (some ⟨b, 0, none⟩)]) .nilFunc).run Try.prog w = .ok (.bool false) w := fun _ _ => rfl
 refine (callsIn_wide (n := 10)).1 ?_
 refine callsIn_of_wp_marks Try.func3 rfl trivial ?_ rfl
 simp only [Try.ntmps3, List.size_toArray, List.length_cons, List.length_nil, Nat.reduceAdd, Nat.reduceSub, Array.replicate_succ, Array.replicate_zero, List.push_toArray, List.append_toArray, List.nil_append, List.cons_append]
 gi_wp2_with (first
  | (refine ⟨trivial, ?_⟩; gi_at_call 4; refine (callsIn_wide.2 (wlines_calls s _)).mono ?_; rintro e w3 ⟨rfl, rfl⟩)
  | (refine ⟨trivial, ?_⟩; gi_at_call 5; refine (callsIn_wide.2 (KR.out _)).mono ?_; rintro e w4 ⟨V, cv, rfl, t4⟩))
 obtain ⟨Z, hZ⟩ : ∃ Z, Z = w4.heap.size := ⟨_, rfl⟩
 rw [← hZ]
 obtain ⟨W5, hW5⟩ : ∃ W5, W5 = w4.alloc (.cells #[.slice V L.length cv] 25) := ⟨_, rfl⟩
 rw [← hW5]
 have wc5 : WC w early s Z V cv L W5 := by
  obtain ⟨hR, hb4⟩ := t4
  obtain ⟨Wb, hWb⟩ : ∃ Wb, Wb = ((w.alloc (.cells #[.int .i64 early] 3)).alloc (.cells #[.bool false] 4)).alloc (.cells #[.string s] 9) := ⟨_, rfl⟩
  rw [← hWb] at hR hb4
  have zb : Wb.heap.size = w.heap.size + 3 := by rw [hWb]; simp
  have lowb : Below w.heap.size w Wb := by rw [hWb]; exact (((Below.refl _ w).alloc (Nat.le_refl _) _).alloc (by simp) _).alloc (by simp; omega) _
  have e0 : Wb.heap[w.heap.size]? = some (.cells #[.int .i64 early] 3 (0, 0)) := by rw [hWb]; exact (Below.heap_alloc _ _ _ (by simp; omega)).trans (heap_alloc2_old w _ _)
  have e1 : Wb.heap[w.heap.size + 1]? = some (.cells #[.bool false] 4 (0, 0)) := by rw [hWb]; exact (Below.heap_alloc _ _ _ (by simp)).trans (heap_alloc2_new w _ _)
  have e2 : Wb.heap[w.heap.size + 2]? = some (.cells #[.string s] 9 (0, 0)) := by
   rw [hWb]
   have h := World.alloc_heap_new ((w.alloc (.cells #[.int .i64 early] 3)).alloc (.cells #[.bool false] 4)) (.cells #[.string s] 9)
   rwa [World.size_alloc, World.size_alloc] at h
  have hs4 := hb4.size
  have hb5 : Below w4.heap.size w4 W5 := by rw [hW5]; exact (Below.refl _ w4).alloc (Nat.le_refl _) _
  have hb6 : Below Wb.heap.size Wb W5 := hb4.trans (hb5.mono hs4)
  refine ⟨lowb.trans (hb6.mono (by omega)), (hb6.block _ (by omega)).trans e0, (hb6.block _ (by omega)).trans e1, (hb6.block _ (by omega)).trans e2, by rw [hZ, hW5]; exact World.alloc_heap_new w4 _, Kd.C_below (by have := (Kd.R_reads' hR).2.2; rwa [List.length_map] at this) hb5, by omega, fun ad e hp => ?_⟩
  subst e
  have hlo := hR.1
  have ho := hR.2
  obtain ⟨inner, hown, _⟩ := ho
  exact ⟨by have := own_base hown ad.block rfl; omega, by have := own_lt hown ad.block rfl; omega⟩
 clear t4 hW5 hZ
 refine wpIn_loop (fun a' W => ∃ (turn : Nat) (u8 u9 u10 u11 u18 u19 u20 u21 u22 u23 u24 u25 u26 u27 u28 u29 u30 u31 u32 u33 u34 u35 u36 u37 u38 u39 u40 u41 u42 u43 u44 u45 u46 u47 u48 u49 u50 u51 u52 u53 u54 u55 u56 u57 u58 u59 u60 : Value) (Ds : List Nat), a' = { tmps := #[.string s, .int .i64 early, undef, .pointer (some ⟨w.heap.size, 0, none⟩), .pointer (some ⟨w.heap.size + 1, 0, none⟩), .func (.func 6) #[] #[.pointer (some ⟨w.heap.size + 1 + 1, 0, none⟩)], .pointer (some ⟨Z, 0, none⟩), .int .i64 (turn : Int), u8, u9, u10, u11, .string s, .func (.func 6) #[] #[.pointer (some ⟨w.heap.size + 1 + 1, 0, none⟩)], .string s, .slice V L.length cv, .func (.func 6) #[] #[.pointer (some ⟨w.heap.size + 1 + 1, 0, none⟩)], .bool false, u18, u19, u20, u21, u22, u23, u24, u25, u26, u27, u28, u29, u30, u31, u32, u33, u34, u35, u36, u37, u38, u39, u40, u41, u42, u43, u44, u45, u46, u47, u48, u49, u50, u51, u52, u53, u54, u55, u56, u57, u58, u59, u60], defers := marks Ds } ∧ turn ≤ 2 ∧ Aside0 (WC w early s Z V cv L W) ∧ Aside0 (Ds.Nodup ∧ ∀ D ∈ Ds, Z + 1 ≤ D ∧ W.heap[D]? = some (.deferred (some []))))
  (fun a' _ => 2 - (intOf (a'.tmps.getD 7 undef)).toNat) ⟨0, _, _, _, _, _, _, _, _, _, _, _, _, _, _, _, _, _, _, _, _, _, _, _, _, _, _, _, _, _, _, _, _, _, _, _, _, _, _, _, _, _, _, _, _, _, _, _, [], rfl, by omega, ⟨wc5⟩, ⟨List.nodup_nil, fun D hD => absurd hD List.not_mem_nil⟩⟩ ?_
 clear wc5
 rintro a' W ⟨turn, u8, u9, u10, u11, u18, u19, u20, u21, u22, u23, u24, u25, u26, u27, u28, u29, u30, u31, u32, u33, u34, u35, u36, u37, u38, u39, u40, u41, u42, u43, u44, u45, u46, u47, u48, u49, u50, u51, u52, u53, u54, u55, u56, u57, u58, u59, u60, Ds, rfl, htn, wc, hds⟩
 by_cases hlt : turn < 2
 · have hti : (turn : Int) < 2 := by omega
   gi_wp2
   obtain ⟨AB, hAB⟩ : ∃ AB, AB = W.heap.size := ⟨_, rfl⟩
   obtain ⟨W6, hW6⟩ : ∃ W6, W6 = W.alloc (.cells #[.int .i64 0] 3) := ⟨_, rfl⟩
   have wd6 : WD w early s Z V cv L AB 0 Ds W6 := by rw [hAB, hW6]; exact WD.start wc.out hds.out.2
   have z6 : W6.heap.size = AB + 1 := by rw [hAB, hW6]; simp
   rw [← hAB, ← hW6]
   clear hAB hW6
   refine wpIn_range_C (gf := 6) (lb := #[.pointer (some ⟨w.heap.size + 1 + 1, 0, none⟩)]) rfl (enters_of Try.func6 (by kernel_rfl) rfl) (wlines1_seq (w.heap.size + 1 + 1) s (by omega) W6 wd6.wc.sb) (Below.refl _ _) (fun _ => rfl) (fun k hk => hk.elim)
    (fun pre W' => Aside0 (WD w early s Z V cv L AB (pre.length : Int) Ds W') ∧ pre.map cvN <+: numL 0 L)
    (fun _ pre _ => ¬ pre.map cvN <+: numL 0 L)
    (fun pre A B row hs hg hr => ⟨⟨hs.1.out.grown hg (fun r e => by rcases hr r e with h | h; exact h.elim; omega)⟩, hs.2⟩)
    (fun j pre A B row hs hg hr => hs)
    ⟨⟨wd6⟩, by simp⟩
    (fun x : Num => { tmps := #[.string s, .int .i64 early, undef, .pointer (some ⟨w.heap.size, 0, none⟩), .pointer (some ⟨w.heap.size + 1, 0, none⟩), .func (.func 6) #[] #[.pointer (some ⟨w.heap.size + 1 + 1, 0, none⟩)], .pointer (some ⟨Z, 0, none⟩), .int .i64 (turn : Int), .pointer (some ⟨AB, 0, none⟩), .int .i64 (x.1 : Int), .string x.2.1, u11, .string s, .func (.func 6) #[] #[.pointer (some ⟨w.heap.size + 1 + 1, 0, none⟩)], .string s, .slice V L.length cv, .func (.func 6) #[] #[.pointer (some ⟨w.heap.size + 1 + 1, 0, none⟩)], .bool false, .int .i64 (turn : Int), .bool true, u20, u21, .func (.func 6) #[] #[.pointer (some ⟨w.heap.size + 1 + 1, 0, none⟩)], .int .i64 (x.1 : Int), .string x.2.1, u25, u26, u27, u28, u29, u30, u31, u32, u33, u34, u35, u36, u37, u38, u39, u40, u41, u42, u43, u44, u45, u46, u47, u48, u49, u50, u51, u52, u53, u54, u55, u56, u57, u58, u59, u60], defers := [] }) ?assign ?body ?done ?stop
   case assign =>
    intro l x W' K hK
    gi_wp2
    simpa using hK
   case stop =>
    rintro D j pre W' hD1 hD2 hS hno hd
    rw [← HL.out] at hS
    exact (hno hS.1).elim
   case body =>
    rintro l pre x W' hzW ⟨tw, hpre⟩ hpl
    rw [z6] at hzW ⊢
    obtain ⟨k0, k1, k2, k3⟩ := tw.out.wc.cells
    obtain ⟨k4, k5⟩ := tw.out.cell
    have zs1 := tw.out.wc.zs
    have zs2 := tw.out.zs
    have KZ1 : ∀ v, Aside0 (KZ (fun _ => False) (AB + 1) (AB + 1 + 2 + 5) W' (W'.setCell ⟨w.heap.size + 1, 0, none⟩ v)) := fun v => ⟨kz_put (fun _ h => h) (by show w.heap.size + 1 < _; omega) v⟩
    have KZ2 : ∀ v, Aside0 (KZ (fun _ => False) (AB + 1) (AB + 1 + 2 + 5) W' (W'.setCell ⟨AB, 0, none⟩ v)) := fun v => ⟨kz_put (fun _ h => h) (by show AB < _; omega) v⟩
    have hlen : ((pre ++ [x]).length : Int) = (pre.length : Int) + 1 := by simp
    have P1 : Aside0 (WD w early s Z V cv L AB ((pre ++ [x]).length : Int) Ds (W'.setCell ⟨AB, 0, none⟩ (.int .i64 ((pre.length : Int) + 1)))) := ⟨by rw [hlen]; exact tw.out.put _⟩
    have RW := tw.out.wc.rw
    clear zs1 zs2 hlen tw
    by_cases hge : (pre.length : Int) ≥ (L.length : Int)
    · have hno : ¬ (pre ++ [x]).map cvN <+: numL 0 L := by rw [List.map_append]; exact numL_full hpre (by simp; omega) _
      have N1 := Aside0.mk hno
      clear hno hpre RW P1
      gi_wp2
      exact ⟨(KZ1 _).out, N1.out⟩
    · have hpL : pre.length < L.length := by omega
      obtain ⟨adr, rfl, hx⟩ := Kd.at_string RW (pre.length : Int) (by omega) (by omega)
      have hwv : rdOf ByteArray.empty (L.map sB) (pre.length : Int) = sB L[pre.length] := by simp [rdOf, List.getD_eq_getElem?_getD, hpL]
      rw [Int.toNat_natCast, hwv] at hx
      have hst := numL_step hpre (by simp; omega) (cvN x)
      have hcv : (pre ++ [x]).map cvN = pre.map cvN ++ [cvN x] := by simp
      rw [← hcv] at hst
      simp only [List.length_map] at hst
      have hq : cvN x = (pre.length + 1, L[pre.length]) ↔ ((x.1 : Int) = (pre.length : Int) + 1 ∧ x.2.1 = sB L[pre.length]) := by
       constructor
       · intro h
         have h1 : x.1 = pre.length + 1 := congrArg Prod.fst h
         have h2 : x.2.1.data.toList = L[pre.length] := congrArg Prod.snd h
         exact ⟨by omega, by rw [← h2, sB_self]⟩
       · rintro ⟨h1, h2⟩
         have h3 : x.1 = pre.length + 1 := by omega
         show (x.1, x.2.1.data.toList) = _
         rw [h3, h2, sB_list]
      rw [hq] at hst
      clear hq hcv hwv
      obtain ⟨wt, hwt⟩ : ∃ wt, wt = sB L[pre.length] := ⟨_, rfl⟩
      rw [← hwt] at hx hst
      clear hwt hpre RW
      have HST := Aside0.mk hst
      clear hst
      by_cases hn : (x.1 : Int) = (pre.length : Int) + 1
      · by_cases hl : x.2.1 = wt
        · have HY := Aside0.mk (HST.out.2 ⟨hn, hl⟩)
          clear HST
          gi_wp2
          exact ⟨(KZ2 _).out, P1, HY.out⟩
        · have HY := Aside0.mk (fun h => hl (HST.out.1 h).2)
          have hlb : (x.2.1.toList == wt.toList) = false := beq_false_of_ne fun h => hl ((toL_inj _ _).1 h)
          clear HST P1
          gi_wp2
          exact ⟨(KZ1 _).out, HY.out⟩
      · have HY := Aside0.mk (fun h => hn (HST.out.1 h).1)
        clear HST P1
        gi_wp2
        exact ⟨(KZ1 _).out, HY.out⟩
   case done =>
    rintro D xs W' hD1 hD2 hS ⟨tw, hpre⟩ hd
    rw [← HL.out] at hS
    have hlx : xs.length = L.length := by have := congrArg List.length hS; simpa [numL_len] using this
    have tw' : Aside0 (WD w early s Z V cv L AB (L.length : Int) Ds W') := by rw [← hlx]; exact tw
    clear hS hpre tw hlx
    obtain ⟨k0, k1, k2, k3⟩ := tw'.out.wc.cells
    obtain ⟨k4, k5⟩ := tw'.out.cell
    have G1 : Aside0 (WC w early s Z V cv L W') := ⟨tw'.out.wc⟩
    have G2 : Aside0 ((D :: Ds).Nodup ∧ ∀ D' ∈ D :: Ds, Z + 1 ≤ D' ∧ W'.heap[D']? = some (.deferred (some []))) := ⟨List.nodup_cons.2 ⟨fun hh => by have := (tw'.out.ds D hh).2.1; omega, hds.out.1⟩, fun D' hD => by
     rcases List.mem_cons.1 hD with rfl | hD
     · exact ⟨by have := tw'.out.zs; omega, hd⟩
     · exact ⟨(tw'.out.ds D' hD).1, (tw'.out.ds D' hD).2.2⟩⟩
    clear tw' hd hds wd6 wc
    gi_wp2
    refine ⟨⟨turn + 1, _, _, _, _, _, _, _, _, _, _, _, _, _, _, _, _, _, _, _, _, _, _, _, _, _, _, _, _, _, _, _, _, _, _, _, _, _, _, _, _, _, _, _, _, _, _, _, D :: Ds, by rw [Int.natCast_add]; rfl, by omega, G1, G2⟩, ?_⟩
    simp [intOf]; omega
 · obtain rfl : turn = 2 := by omega
   gi_wp2
   obtain ⟨AB, hAB⟩ : ∃ AB, AB = W.heap.size := ⟨_, rfl⟩
   obtain ⟨W6, hW6⟩ : ∃ W6, W6 = W.alloc (.cells #[.int .i64 0] 3) := ⟨_, rfl⟩
   have wd6 : WD w early s Z V cv L AB 0 Ds W6 := by rw [hAB, hW6]; exact WD.start wc.out hds.out.2
   have z6 : W6.heap.size = AB + 1 := by rw [hAB, hW6]; simp
   rw [← hAB, ← hW6]
   clear hAB hW6
   clear wc hlt htn
   have wdr : Aside0 (w.heap.size + 3 ≤ Z ∧ Z + 1 ≤ AB) := ⟨by have := wd6.wc.zs.1; have := wd6.zs; omega⟩
   rename_i K hK
   have TAIL : ∀ (m D : Nat) (W : World) (u50 u51 u52 u53 u54 u55 u56 u57 u58 u59 u60 : Value), Aside0 (WD w early s Z V cv L AB (m : Int) Ds W ∧ W.heap[D]? = some (.deferred (some [])) ∧ AB + 1 ≤ D) → m ≤ L.length → K { tmps := #[.string s, .int .i64 early, undef, .pointer (some ⟨w.heap.size, 0, none⟩), .pointer (some ⟨w.heap.size + 1, 0, none⟩), .func (.func 6) #[] #[.pointer (some ⟨w.heap.size + 1 + 1, 0, none⟩)], .pointer (some ⟨Z, 0, none⟩), .int .i64 2, u8, u9, u10, .pointer (some ⟨AB, 0, none⟩), .string s, .func (.func 6) #[] #[.pointer (some ⟨w.heap.size + 1 + 1, 0, none⟩)], .string s, .slice V L.length cv, .func (.func 6) #[] #[.pointer (some ⟨w.heap.size + 1 + 1, 0, none⟩)], .bool false, .int .i64 2, .bool false, u20, u21, u22, u23, u24, u25, u26, u27, u28, u29, u30, u31, u32, u33, u34, u35, u36, u37, u38, u39, u40, u41, u42, u43, u44, u45, u46, u47, u48, .func (.func 6) #[] #[.pointer (some ⟨w.heap.size + 1 + 1, 0, none⟩)], u50, u51, u52, u53, u54, u55, u56, u57, u58, u59, u60], defers := marks (D :: Ds) } W := by
    clear wd6 z6
    intro m D W u50 u51 u52 u53 u54 u55 u56 u57 u58 u59 u60 tw hm
    refine hK _ _ ?_
    clear hK
    obtain ⟨k0, k1, k2, k3⟩ := tw.out.1.wc.cells
    obtain ⟨k4, k5⟩ := tw.out.1.cell
    have TW := Aside0.mk tw.out
    clear tw
    have hml : (m : Int) ≤ (L.length : Int) := by omega
    gi_wp2
    have hz := TW.out.1.wc.zs
    have hz2 := TW.out.1.zs
    refine leaves_marks w.heap.size (D :: Ds) _ (List.nodup_cons.2 ⟨fun hh => by have := (TW.out.1.ds D hh).2.1; have := TW.out.2.2; omega, hds.out.1⟩) (fun D' hD => ?_) ?_
    · rcases List.mem_cons.1 hD with rfl | hD
      · exact ⟨by have := TW.out.2.2; omega, (KeepsOthers.setCell W _ _).same _ _ TW.out.2.1 rfl⟩
      · have h1 := TW.out.1.ds D' hD
        exact ⟨by omega, (KeepsOthers.setCell W _ _).same _ _ h1.2.2 rfl⟩
    · intro w' hb hk2
      have hbb : (W.setCell ⟨w.heap.size + 1, 0, none⟩ (.bool true)).heap[w.heap.size + 1]? = some (.cells #[.bool true] 4 (0, 0)) := by simpa using blk_set TW.out.1.wc.bb 0 (.bool true)
      have hne : w.heap.size + 1 ∉ D :: Ds := fun hh => by
       rcases List.mem_cons.1 hh with h | h
       · have := TW.out.2.2; omega
       · have := (TW.out.1.ds _ h).1; omega
      have hc : w'.cell? ⟨w.heap.size + 1, 0, none⟩ = some (.bool true) := by
       rw [Lib.cell_of_heap ((hk2 _ hne).trans hbb)]; rfl
      exact ⟨.bool true, by simp [results, Try.f3, go_sem, hc], rfl, (TW.out.1.wc.low.setCell (p := ⟨w.heap.size + 1, 0, none⟩) (by simp) _).trans hb⟩
   refine wpIn_range_C (gf := 6) (lb := #[.pointer (some ⟨w.heap.size + 1 + 1, 0, none⟩)]) rfl (enters_of Try.func6 (by kernel_rfl) rfl) (wlines1_seq (w.heap.size + 1 + 1) s (by omega) W6 wd6.wc.sb) (Below.refl _ _) (fun _ => rfl) (fun k hk => hk.elim)
    (fun pre W' => Aside0 (WD w early s Z V cv L AB (pre.length : Int) Ds W') ∧ ((pre.length : Int) ≤ early ∨ pre = []))
    (fun j pre W' => j = .exit 4 ∧ Aside0 (WD w early s Z V cv L AB (pre.length : Int) Ds W'))
    (fun pre A B row hs hg hr => ⟨⟨hs.1.out.grown hg (fun r e => by rcases hr r e with h | h; exact h.elim; omega)⟩, hs.2⟩)
    (fun j pre A B row hs hg hr => ⟨hs.1, ⟨hs.2.out.grown hg (fun r e => by rcases hr r e with h | h; exact h.elim; omega)⟩⟩)
    ⟨⟨wd6⟩, .inr rfl⟩
    (fun x : Num => { tmps := #[.string s, .int .i64 early, undef, .pointer (some ⟨w.heap.size, 0, none⟩), .pointer (some ⟨w.heap.size + 1, 0, none⟩), .func (.func 6) #[] #[.pointer (some ⟨w.heap.size + 1 + 1, 0, none⟩)], .pointer (some ⟨Z, 0, none⟩), .int .i64 2, u8, u9, u10, .pointer (some ⟨AB, 0, none⟩), .string s, .func (.func 6) #[] #[.pointer (some ⟨w.heap.size + 1 + 1, 0, none⟩)], .string s, .slice V L.length cv, .func (.func 6) #[] #[.pointer (some ⟨w.heap.size + 1 + 1, 0, none⟩)], .bool false, .int .i64 2, .bool false, u20, u21, u22, u23, u24, u25, u26, u27, u28, u29, u30, u31, u32, u33, u34, u35, u36, u37, u38, u39, u40, u41, u42, u43, u44, u45, u46, u47, u48, .func (.func 6) #[] #[.pointer (some ⟨w.heap.size + 1 + 1, 0, none⟩)], .int .i64 (x.1 : Int), .string x.2.1, u52, u53, u54, u55, u56, u57, u58, u59, u60], defers := [] }) ?assign ?body ?done ?stop
   case assign =>
    intro l x W' K hK
    gi_wp2
    simpa using hK
   case body =>
    clear TAIL hK
    rintro l pre x W' hzW ⟨tw, hpre⟩ hpl
    rw [z6] at hzW ⊢
    obtain ⟨k0, k1, k2, k3⟩ := tw.out.wc.cells
    obtain ⟨k4, k5⟩ := tw.out.cell
    have hlen : ((pre ++ [x]).length : Int) = (pre.length : Int) + 1 := by simp
    have hp1 := tw.out.put ((pre.length : Int) + 1)
    have P1 : Aside0 (WD w early s Z V cv L AB ((pre ++ [x]).length : Int) Ds (W'.setCell ⟨AB, 0, none⟩ (.int .i64 ((pre.length : Int) + 1)))) := ⟨by rw [hlen]; exact hp1⟩
    have KZ2 : ∀ v, Aside0 (KZ (fun _ => False) (AB + 1) (AB + 1 + 2 + 5) W' (W'.setCell ⟨AB, 0, none⟩ v)) := fun v => ⟨kz_put (fun _ h => h) (by show AB < _; omega) v⟩
    obtain ⟨m0, m1, m2, m3⟩ := hp1.wc.cells
    obtain ⟨m4, m5⟩ := hp1.cell
    clear hp1 tw
    by_cases hx : (pre.length : Int) + 1 > early
    · gi_wp2
      exact ⟨(KZ2 _).out, rfl, P1⟩
    · gi_wp2
      exact ⟨(KZ2 _).out, P1, .inl (by rw [hlen]; omega)⟩
   case done =>
    rintro D xs W' hD1 hD2 hS ⟨tw, hpre⟩ hd
    rw [← HL.out] at hS
    have hlx : xs.length = L.length := by have := congrArg List.length hS; simpa [numL_len] using this
    show K _ _
    exact TAIL xs.length D W' _ _ _ _ _ _ _ _ _ _ _ ⟨tw.out, hd, by omega⟩ (by omega)
   case stop =>
    rintro D j pre W' hD1 hD2 hS ⟨rfl, tw⟩ hd
    rw [← HL.out] at hS
    gi_step
    show K _ _
    exact TAIL pre.length D W' _ _ _ _ _ _ _ _ _ _ _ ⟨tw.out, hd, by omega⟩ (by have := hS.1.length_le; simpa [numL_len] using this)
end Go.Proofs.Ytchhfpkdleifdaa.LI
namespace Go.Proofs.Ytchhfpkdleifdaa.wordsCut
open Go.ChangeShapes Go.WideShapes Go.ChangeAt Go.RowKit YtchhfpkdleifdaaW.PrintWords H

theorem own : ownKnob Try.prog.godebug = none := by kernel_rfl
theorem laidOut : laidOutB Try.prog = true := by kernel_rfl

theorem bounds_i {n : Int} (h : (Lit.int .i64 n).wf = true) : -9223372036854775808 ≤ n ∧ n < 9223372036854775808 := by
 have h1 : IntKind.i64.min = -9223372036854775808 := by decide
 have h2 : IntKind.i64.max = 9223372036854775807 := by decide
 have h3 : (decide (IntKind.i64.min ≤ n) && decide (n ≤ IntKind.i64.max)) = true := h
 rw [h1, h2] at h3
 simp only [Bool.and_eq_true, decide_eq_true_eq] at h3
 omega

theorem contract (H : Type) (enc : TypeId × Value → H) (W : World) (base : Nat) (args : Array Value) (ds gs : List (DataW H)) (before : List MemPlace)
 (hval : ∀ (j : Nat) t v, Try.f3.params[j]? = some t → args[j]? = some v → Value.okWide Try.prog W .any base t v)
 (hW : DataW.Whole enc Try.prog Try.f3.params.toList Rows.wordsCutSpec.vars false W args.toList ds gs before) (hk : Rows.uptoSmall H (ds ++ gs) = true) :
 Calls Try.prog 3 args W fun e W' => ∃ v, e = .returned v ∧ Rows.wordsCutSpec.post enc Try.prog Try.f3 false true false false W args v W' := by
 have hW' := hW
 obtain ⟨p, q, hA0, hV, rfl, hfz, hnd⟩ := hW
 have hA : DataW.TrodAll enc Try.prog W 0 (fun _ => true) true Try.f3.params.toList args.toList ds p := hA0
 have hval0 := hval
 rw [Try.params3] at hA hval
 obtain ⟨v0, vs0, d0, ds0, p0, q0, hargs, rfl, rfl, h0, r0⟩ := trodAll_cons hA
 obtain ⟨v1, vs1, d1, ds1, p1, q1, rfl, rfl, rfl, h1, r1⟩ := trodAll_cons r0
 obtain ⟨rfl, rfl, rfl⟩ := trodAll_nil r1
 obtain rfl : args = #[v0, v1] := by cases args; simp_all
 obtain ⟨rfl, rfl⟩ := trodVars_none hV
 obtain ⟨s0, rfl⟩ := okWide_string Try.underlying9 (hval 0 9 v0 rfl rfl)
 obtain ⟨s, e0, _, _, m0⟩ := opn_trod (opn_string Try.underlying9) h0
 obtain ⟨n, e1, hn, _, m1⟩ := opn_trod (opn_int (k := .i64) Try.underlying3) h1
 have e0' : (Value.string s0).cells.toList = [Value.string s] := e0
 obtain rfl : s0 = s := by simpa [Value.cells] using e0'
 obtain ⟨n1, rfl⟩ := okWide_int Try.underlying3 (hval 1 3 v1 rfl rfl)
 have e1' : (Value.int .i64 n1).cells.toList = [Value.int .i64 n] := e1
 obtain rfl : n1 = n := by simpa [Value.cells] using e1'
 have hb : Rows.uptoBulkAll ([d0, d1] ++ []) ≤ 1048576 := of_decide_eq_true hk
 simp only [List.append_nil, Rows.uptoBulkAll] at hb
 have hs : s0.size ≤ 1048576 := by omega
 have hn' := bounds_i hn
 refine (LI.WordsCut_calls s0 n1 W hs hn'.1 hn'.2).mono fun e W' ⟨he, bel⟩ => ?_
 subst he
 simp only [List.append_nil] at hW'
 exact ⟨_, rfl, _, _, _, [], _, [], hW', trodAll_mk1 (shut_bool Try.underlying4 _),
  (trodAll_cons_mk (Below.trod laidOut (by kernel_rfl) (of_decide_eq_true (by kernel_rfl)) h0 bel (trod_below h0))
   (trodAll_cons_mk (Below.trod laidOut (by kernel_rfl) (of_decide_eq_true (by kernel_rfl)) h1 bel (trod_below h1)) trodAll_mk0)), rfl, bel.frame _, fun h => by cases h⟩

set_option maxRecDepth 100000 in
theorem lifted (os : Os) (started : os.Started) (H : Type) (enc : TypeId × Value → H) (F : Stop.Interp) :
 ReturnsInHanded {} Try.checked os 3 .any ((Rows.OpenSpec.upto Rows.wordsCutSpec).pre6 enc Try.prog Try.f3 Rows.wordsCutUptoRow.domain false) (((Rows.OpenSpec.upto Rows.wordsCutSpec).at F).post enc Try.prog Try.f3 false true false false) := by
 refine returnsInHanded_of_cond (C := Try.checked) (s := Rows.OpenSpec.upto Rows.wordsCutSpec) (k := Rows.uptoSmall) rfl own started (by kernel_rfl) Try.func3
  (OpenSpec.witness (enc := enc) (C := Try.checked) (s := Rows.OpenSpec.upto Rows.wordsCutSpec) (k := Rows.uptoSmall) rfl false ⟨#[], #[.string ⟨#[]⟩, .int .i64 0], []⟩ 8 (by kernel_rfl) (by kernel_rfl) (by kernel_rfl)
   (x := ([.lit (.string []), .lit (.int .i64 0)], [], [])) (by kernel_rfl) rfl (by kernel_rfl)) ?_
 intro W base args ds gs before hval hW _ hk _
 exact contract H enc W base args ds gs before hval hW hk

theorem over : Rows.wordsCutUptoRow.holds Try.pinned (Rows.OpenSpec.upto Rows.wordsCutSpec) :=
 OpenClaim.holds_of_cond 3 Try.f3 rfl rfl rfl rfl rfl rfl rfl ⟨rfl, rfl, rfl, rfl, rfl⟩ rfl rfl rfl rfl rfl (by kernel_rfl) Try.func3 (by kernel_rfl)
  (of_decide_eq_true (by kernel_rfl)) (by unfold Func.isWrapper; first | (rw [if_pos (by decide +kernel)]; kernel_rfl) | (rw [if_neg (by decide +kernel)]; exact ⟨rfl, rfl⟩))
  (fun os started H enc _ F => lifted os started H enc F)
theorem proved : Rows.WordsCutUptoSaid := over
#print axioms proved
end Go.Proofs.Ytchhfpkdleifdaa.wordsCut
