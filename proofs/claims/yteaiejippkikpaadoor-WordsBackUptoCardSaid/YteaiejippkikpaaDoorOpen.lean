/- What a reading of an argument gives: lists, numbers, texts, records in memory, with their bounds. -/
import Derived.Test.YteaiejippkikpaaDoorRows
import Derived.Test.YteaiejippkikpaaDoorKit
import Derived.Test.YteaiejippkikpaaDoorWWords
import Derived.ProofKit
import Derived.OpenShut
import Derived.ChangeArms
import Derived.Deep.CondSized
set_option linter.unusedVariables false
namespace Go.Proofs.YteaiejippkikpaaDoor.H
open Go.RowKit Go.ChangeShapes Go.WideShapes Go.ChangeAt Go.Proofs.YteaiejippkikpaaDoorW.PrintWords

theorem bulk_one_le {H : Type} (d : DataW H) : 1 ≤ Rows.uptoBulk d := by
  cases d with
  | lit l => cases l <;> simp [Rows.uptoBulk]
  | nil => simp [Rows.uptoBulk]
  | ptr d => simp [Rows.uptoBulk]
  | slice elems spare => simp [Rows.uptoBulk]
  | agg parts => simp [Rows.uptoBulk]
  | iface t d => simp [Rows.uptoBulk]
  | map entries => simp [Rows.uptoBulk]
  | held h => simp [Rows.uptoBulk]

/-- Type t opens: what reads at it is told by d; g: what holds of it; z: what holds of it within the form's reach; m: what it weighs in bulk. -/
def Opn (P : Program) (t : TypeId) {α : Type} (d : Kd α) (g z : α → Prop) (m : α → Nat) : Prop :=
  ∀ (H : Type) (enc : TypeId × Value → H) (W : World) (spare : Nat → Bool) (held : Bool) (fuel : Nat) (cs : List Value) (x : DataW H × List MemPlace),
    DataW.trod enc P W 0 spare held fuel t cs = some x → ∃ a, d.K W a cs ∧ g a ∧ ((∀ n ∈ x.1.weights P t, n ≤ reachBytes) → z a) ∧ m a ≤ Rows.uptoBulk x.1
section
variable {P : Program} {t e : TypeId}
theorem opn_int {k : IntKind} (hu : P.underlying t = some (.int k)) : Opn P t (Kd.int k) (fun n => (Lit.int k n).wf = true) (fun _ => True) (fun _ => 1) := by
  intro H enc W spare held fuel cs x h
  cases fuel with
  | zero => simp [DataW.trod] at h
  | succ n =>
    unfold DataW.trod at h
    rw [hu] at h
    split at h <;> simp_all
    all_goals
      obtain ⟨⟨rfl, hw⟩, rfl⟩ := h
      exact ⟨_, rfl, by simpa using hw, bulk_one_le _⟩
theorem opn_bool (hu : P.underlying t = some .bool) : Opn P t Kd.bool (fun _ => True) (fun _ => True) (fun _ => 1) := by
  intro H enc W spare held fuel cs x h
  cases fuel with
  | zero => simp [DataW.trod] at h
  | succ n =>
    unfold DataW.trod at h
    rw [hu] at h
    split at h
    · obtain rfl := Option.some.inj h
      exact ⟨_, rfl, trivial, fun _ => trivial, bulk_one_le _⟩
    all_goals simp_all
theorem opn_string (hu : P.underlying t = some .string) : Opn P t Kd.string (fun s => s.size ≤ maxLen) (fun s => s.size ≤ reachBytes) (fun s => s.size + 1) := by
  intro H enc W spare held fuel cs x h
  cases fuel with
  | zero => simp [DataW.trod] at h
  | succ n =>
    unfold DataW.trod at h
    rw [hu] at h
    split at h <;> simp_all
    all_goals
      obtain ⟨hw, rfl⟩ := h
      refine ⟨_, rfl, hw, ?_, ?_⟩
      · intro hz
        simpa [DataW.weights] using hz
      · simp [Rows.uptoBulk]
theorem weights_all {H : Type} {P : Program} {e : TypeId} {l : List (DataW H)} {d : DataW H} (h : d ∈ l) : ∀ n ∈ d.weights P e, n ∈ DataW.weightsAll P e l := by
  induction l with
  | nil => cases h
  | cons x r ih =>
    intro n hn
    simp only [DataW.weightsAll, List.mem_append]
    rcases List.mem_cons.1 h with rfl | h
    · exact .inl hn
    · exact .inr (ih h n hn)
theorem bulk_all {H : Type} {α : Type} {m : α → Nat} : ∀ {l : List (DataW H)} {xs : List α}, xs.length = l.length → (∀ (i : Nat) a d, xs[i]? = some a → l[i]? = some d → m a ≤ Rows.uptoBulk d) → (xs.map m).sum ≤ Rows.uptoBulkAll l
  | [], [], _, _ => by simp
  | [], _ :: _, h, _ => by simp at h
  | _ :: _, [], h, _ => by simp at h
  | d :: l, a :: xs, h, hm => by
    have h1 := hm 0 a d rfl rfl
    have h2 := bulk_all (l := l) (xs := xs) (by simpa using h) (fun i a' d' ha hd => hm (i + 1) a' d' (by simpa using ha) (by simpa using hd))
    simp only [List.map_cons, List.sum_cons, Rows.uptoBulkAll]
    omega
theorem cells_at {w : World} {base : Nat} {a : Addr} {n : Nat} {cs : List Value} (h : w.cells? base a n = some cs) : cs.length = n ∧ ∀ i u, cs[i]? = some u → w.cell? (a.add i) = some u := by
  obtain ⟨_, hl, hc⟩ := World.cells?_some h
  refine ⟨hl, fun i u hu => ?_⟩
  rw [hc i (by have := (List.getElem?_eq_some_iff.1 hu).1; omega)]
  exact hu
/-- A choice for each place, as a list. -/
theorem choose_list {α : Type} {n : Nat} {p : Nat → α → Prop} (h : ∀ i, i < n → ∃ a, p i a) : ∃ l : List α, l.length = n ∧ ∀ i a, l[i]? = some a → p i a := by
  induction n with
  | zero => exact ⟨[], rfl, fun i a h => by simp at h⟩
  | succ n ih =>
    obtain ⟨l, hl, hp⟩ := ih (fun i hi => h i (by omega))
    obtain ⟨a, ha⟩ := h n (by omega)
    refine ⟨l ++ [a], by simp [hl], fun i b hb => ?_⟩
    rcases Nat.lt_or_ge i n with hi | hi
    · rw [List.getElem?_append_left (by omega)] at hb
      exact hp i b hb
    · rw [List.getElem?_append_right (by omega)] at hb
      have hi0 : i - l.length = 0 := by
        rcases Nat.eq_zero_or_pos (i - l.length) with h0 | h0
        · exact h0
        · rw [List.getElem?_eq_none (by simp; omega)] at hb; cases hb
      rw [hi0] at hb
      have : i = n := by omega
      subst this
      simp at hb
      subst hb
      exact ha
theorem opn_slice {α : Type} {d : Kd α} {g z : α → Prop} {m : α → Nat} {B : Nat} (hu : P.underlying t = some (.slice e)) (hc : P.cellsOf e = d.sz) (hB : P.bytesOf e = B) (he : Opn P e d g z m) :
    Opn P t (Kd.slice e d) (fun l => l.length ≤ maxLen ∧ ∀ a ∈ l, g a) (fun l => l.length * B ≤ reachBytes ∧ ∀ a ∈ l, z a) (fun l => (l.map m).sum + 1) := by
  intro H enc W spare held fuel cs x h
  rcases DataW.trod_slice hu h with ⟨rfl, rfl⟩ | ⟨a, len, cap, elems, rest, n, rfl, rfl, rfl, _, hlc, hcm, hel, hat, _, _⟩
  · exact ⟨[], ⟨none, 0, rfl, Nat.le_refl _, rfl, by simp, fun hp => absurd hp (by simp)⟩, ⟨by simp [maxLen], by simp⟩, fun _ => ⟨by simp, by simp⟩, by simp [Rows.uptoBulk]⟩
  · have hone : ∀ i, i < len → ∃ b : α, (∃ c, c.length = d.sz ∧ d.K W b c ∧ ∀ j u, c[j]? = some u → W.cell? (a.add (i * d.sz + j)) = some u) ∧ g b ∧
        ∃ y, elems[i]? = some y ∧ ((∀ n ∈ y.1.weights P e, n ≤ reachBytes) → z b) ∧ m b ≤ Rows.uptoBulk y.1 := by
      intro i hi
      have h1 := hat i hi
      obtain ⟨y, hy⟩ : ∃ y, elems[i]? = some y := ⟨elems[i]'(by omega), List.getElem?_eq_getElem (by omega)⟩
      rw [hy] at h1
      obtain ⟨c, hcc, hct⟩ := Option.bind_eq_some_iff.1 h1
      obtain ⟨b, hk, hg, hz, hm⟩ := he H enc W spare held n c y hct
      obtain ⟨hcl, hcell⟩ := cells_at hcc
      refine ⟨b, ⟨c, by rw [hcl, hc], hk, fun j u hj => ?_⟩, hg, y, hy, hz, hm⟩
      have h3 := hcell j u hj
      rw [hc] at h3
      have ha : (a.add (i * d.sz)).add j = a.add (i * d.sz + j) := by
        unfold Addr.add
        by_cases h1 : i * d.sz = 0 <;> by_cases h2 : j = 0 <;> simp [h1, h2, Nat.add_assoc]
      rwa [ha] at h3
    obtain ⟨l, hl, hp⟩ := choose_list hone
    refine ⟨l, ⟨some a, cap, by rw [hl], by omega, rfl, by unfold maxLen at hcm; omega, fun _ => ⟨a, rfl, fun j p hj => ?_⟩⟩, ⟨by omega, fun b hb => ?_⟩, fun hw => ⟨?_, fun b hb => ?_⟩, ?_⟩
    · obtain ⟨⟨c, h1, h2, h3⟩, _⟩ := hp j p hj
      exact ⟨c, h1, h2, h3⟩
    · obtain ⟨i, hi⟩ := List.mem_iff_getElem?.1 hb
      exact (hp i b hi).2.1
    · have h1 := hw (((elems.map (·.1)).length + (rest.map (·.1)).length) * P.bytesOf e) (by simp only [DataW.weights, hu]; exact List.mem_cons_self ..)
      rw [hB] at h1
      refine Nat.le_trans (Nat.mul_le_mul_right _ ?_) h1
      simp [hl, hel]
    · obtain ⟨i, hi⟩ := List.mem_iff_getElem?.1 hb
      obtain ⟨_, _, y, hy, hz, _⟩ := hp i b hi
      refine hz fun q hq => hw q ?_
      simp only [DataW.weights, hu, List.mem_cons, List.mem_append]
      exact .inr (.inl (weights_all (List.mem_map.2 ⟨y, List.mem_of_getElem? hy, rfl⟩) q hq))
    · simp only [Rows.uptoBulk]
      have := bulk_all (m := m) (l := elems.map (·.1)) (xs := l) (by simp [hl, hel]) (fun i b dd hb hd => by
        obtain ⟨_, _, y, hy, _, hm⟩ := hp i b hb
        rw [List.getElem?_map, hy] at hd
        simp at hd
        subst hd
        exact hm)
      omega
/-- The fields from place o on. -/
def OpnRow (P : Program) (fs : List Field) (o : Nat) {α : Type} (d : Kd α) (g z : α → Prop) (m : α → Nat) : Prop :=
  ∀ (H : Type) (enc : TypeId × Value → H) (W : World) (spare : Nat → Bool) (held : Bool) (fuel : Nat) (cs : List Value) (xs : List (DataW H × List MemPlace)),
    cs.length = o + d.sz → xs.length = fs.length → (∀ (i : Nat) (f : Field), fs[i]? = some f → DataW.trod enc P W 0 spare held fuel f.type ((cs.drop f.offset).take (P.cellsOf f.type)) = xs[i]?) →
      ∃ a, d.K W a (cs.drop o) ∧ g a ∧ ((∀ n ∈ DataW.weightsEach P (fs.map (·.type)) (xs.map (·.1)), n ≤ reachBytes) → z a) ∧ m a ≤ Rows.uptoBulkAll (xs.map (·.1))
theorem row_one {f : Field} {o : Nat} {α : Type} {d : Kd α} {g z : α → Prop} {m : α → Nat} (ho : f.offset = o) (hc : P.cellsOf f.type = d.sz) (h : Opn P f.type d g z m) : OpnRow P [f] o d g z m := by
  intro H enc W spare held fuel cs xs hl hx hr
  obtain ⟨x, rfl⟩ : ∃ x, xs = [x] := List.length_eq_one_iff.1 hx
  have h0 := hr 0 f rfl
  rw [ho, hc, List.take_of_length_le (by rw [List.length_drop]; omega)] at h0
  obtain ⟨a, h1, h2, h3, h4⟩ := h H enc W spare held fuel _ x h0
  refine ⟨a, h1, h2, fun hw => h3 (fun n hn => hw n ?_), ?_⟩
  · simpa [DataW.weightsEach] using hn
  · simpa [Rows.uptoBulkAll] using h4
theorem row_cons {f : Field} {fs : List Field} {o o' : Nat} {α β : Type} {d : Kd α} {d' : Kd β} {g z : α → Prop} {g' z' : β → Prop} {m : α → Nat} {m' : β → Nat} (ho : f.offset = o) (hc : P.cellsOf f.type = d.sz) (ho' : o' = o + d.sz)
    (h : Opn P f.type d g z m) (h' : OpnRow P fs o' d' g' z' m') : OpnRow P (f :: fs) o (Kd.pair d d') (fun x => g x.1 ∧ g' x.2) (fun x => z x.1 ∧ z' x.2) (fun x => m x.1 + m' x.2) := by
  intro H enc W spare held fuel cs xs hl hx hr
  cases xs with
  | nil => simp at hx
  | cons x xs =>
    have hsz : (Kd.pair d d').sz = d.sz + d'.sz := rfl
    rw [hsz] at hl
    have h0 := hr 0 f rfl
    rw [ho, hc] at h0
    obtain ⟨a, h1, h2, h3, h4⟩ := h H enc W spare held fuel _ x h0
    obtain ⟨b, k1, k2, k3, k4⟩ := h' H enc W spare held fuel cs xs (by omega) (by simpa using hx) (fun i q hq => by simpa using hr (i + 1) q (by simpa using hq))
    refine ⟨(a, b), ⟨_, _, ?_, h1, k1⟩, ⟨h2, k2⟩, fun hw => ⟨h3 (fun n hn => hw n ?_), k3 (fun n hn => hw n ?_)⟩, ?_⟩
    · rw [ho', ← List.drop_drop, List.take_append_drop]
    · simp only [List.map_cons, DataW.weightsEach, List.mem_append]; exact .inl hn
    · simp only [List.map_cons, DataW.weightsEach, List.mem_append]; exact .inr hn
    · simp only [List.map_cons, Rows.uptoBulkAll]; omega
theorem opn_struct {fs : Array Field} {α β : Type} {d : Kd α} {g z : α → Prop} {m : α → Nat} (hu : P.underlying t = some (.struct fs)) (hc : P.cellsOf t = d.sz) (h : OpnRow P fs.toList 0 d g z m) (f : β → α) (k : α → β) (hk : ∀ a, f (k a) = a) :
    Opn P t (Kd.iso d f) (fun b => g (f b)) (fun b => z (f b)) (fun b => m (f b) + 1) := by
  intro H enc W spare held fuel cs x hx
  obtain ⟨xs, n, rfl, rfl, hl, hlen, hr⟩ := DataW.trod_struct hu hx
  obtain ⟨a, h1, h2, h3, h4⟩ := h H enc W spare held n cs xs (by omega) (by simpa using hlen) (fun i f hf => hr i f (by simpa using hf))
  refine ⟨k a, ?_, ?_, fun hw => ?_, ?_⟩
  · show d.K W (f (k a)) cs
    rw [hk]; exact h1
  · show g (f (k a))
    rw [hk]; exact h2
  · show z (f (k a))
    rw [hk]
    refine h3 (fun n hn => hw n ?_)
    simp only [DataW.weights, hu]; exact hn
  · show m (f (k a)) + 1 ≤ _
    rw [hk]; simp only [Rows.uptoBulk]; omega
/-- A reading of a value, opened. -/
theorem opn_trod {H : Type} {enc : TypeId × Value → H} {W : World} {spare : Nat → Bool} {held : Bool} {α : Type} {d : Kd α} {g z : α → Prop} {m : α → Nat} {v : Value} {x : DataW H} {ps : List MemPlace} (h : Opn P t d g z m) (hx : DataW.Trod enc P W 0 spare held t v x ps) :
    ∃ a, d.K W a v.cells.toList ∧ g a ∧ ((∀ n ∈ x.weights P t, n ≤ reachBytes) → z a) ∧ m a ≤ Rows.uptoBulk x := by
  obtain ⟨fuel, hf⟩ := hx
  exact h H enc W spare held fuel _ _ hf
theorem trod_below {H : Type} {enc : TypeId × Value → H} {W : World} {spare : Nat → Bool} {held : Bool} {v : Value} {x : DataW H} {ps : List MemPlace} (hx : DataW.Trod enc P W 0 spare held t v x ps) : ∀ p ∈ ps, p.block < W.heap.size := by
  obtain ⟨m, hm⟩ := hx
  exact DataW.trod_lt m _ _ _ hm
end
end Go.Proofs.YteaiejippkikpaaDoor.H
