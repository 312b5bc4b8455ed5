/- What the row's listed sentinels give: each variable's cell, to what it points; no two point to one place. -/
import Derived.Test.YteaiejippkikpaaDoorKit
import Derived.ChangeArms
import Derived.LaidLaws
import Derived.LaidHandle
set_option linter.unusedVariables false
set_option linter.unusedSimpArgs false
namespace Go.Proofs.YteaiejippkikpaaDoor.H
open Go.RowKit Go.ChangeShapes

/-- A list of sentinels: names, texts, the variables' numbers. -/
def sentData (nm : String) (l : List (String × List UInt8 × Nat)) : List (String × DataW Unit) := l.map fun x => (x.1, .iface nm (.ptr (.agg [.lit (.string x.2.1)])))
theorem sents_of_vars {P : Program} {W : World} {nm : String} {ti tp te ts : TypeId} {ms : Array (String × TypeId)} {f : Field}
    (hi : P.underlying ti = some (.interface ms)) (hrow : ∀ u, P.typeName? 3 u = some nm → u = tp)
    (hp : P.underlying tp = some (.pointer te)) (he : P.underlying te = some (.struct #[f])) (hft : f.type = ts) (hfo : f.offset = 0) (hs : P.underlying ts = some .string) (hc : P.cellsOf te = 1) (hcs : P.cellsOf ts = 1) :
    ∀ (l : List (String × List UInt8 × Nat)) (ps : List MemPlace), DataW.LaidVars P W (sentData nm l) ps → ps.Nodup →
      (∀ b off, MemPlace.cell b off ∈ ps → (∃ c t, W.heap[b]? = some (.cells c t (0, 0))) ∧ ∀ u v, W.cell? ⟨b, off, none⟩ = some (.iface u v) → Value.okWide P W .any 0 u v) →
      (∀ x ∈ l, P.globalNamed x.1 = some x.2.2 ∧ (P.globals[x.2.2]?).map (·.type) = some ti) →
      ∃ az : List Addr, az.length = l.length ∧ (∀ (i : Nat) x a, l[i]? = some x → az[i]? = some a → W.cell? ⟨x.2.2, 0, none⟩ = some (.iface tp (.pointer (some a))) ∧ ∃ c t, W.heap[a.block]? = some (.cells c t (0, 0))) ∧ (∀ a ∈ az, ∀ m ∈ MemPlace.row a 1, m ∈ ps) ∧ az.Nodup
  | [], ps, _, _, _, _ => ⟨[], rfl, fun i x a h => by simp at h, fun a h => by simp at h, List.nodup_nil⟩
  | x :: l, ps, h, hnd, hrows, hg => by
    obtain ⟨g, t, cs, fu, p, q, hg0, ht0, hv, hd, hr, rfl⟩ := h
    obtain ⟨hgx, htx⟩ := hg x (List.mem_cons_self ..)
    obtain rfl := Option.some.inj (hgx.symm.trans hg0)
    obtain rfl := Option.some.inj (htx.symm.trans ht0)
    obtain ⟨l0⟩ := cs
    have hcell := World.var?_cell hgx hv 0
    have ok0 : ∀ u v, l0 = [.iface u v] → Value.okWide P W .any 0 u v := fun u v e => by
      subst e
      exact (hrows x.2.2 0 (by simp [MemPlace.row])).2 u v (by simpa using hcell)
    obtain ⟨a, s, rfl, hca, _, _, rfl⟩ := errorString_of_trod hi hrow hp he hft hfo hs hc hcs hd ok0
    obtain ⟨az, e1, e2, e3, e4⟩ := sents_of_vars hi hrow hp he hft hfo hs hc hcs l q hr (List.nodup_append.1 hnd).2.1 (fun b off hm => hrows b off (by simp [hm])) (fun y hy => hg y (List.mem_cons_of_mem _ hy))
    refine ⟨a :: az, by simp [e1], ?_, ?_, ?_⟩
    · intro i y b hy hb
      cases i with
      | zero =>
        simp at hy hb
        subst hy hb
        exact ⟨by simpa using hcell, (hrows a.block a.off (by simp [MemPlace.row])).1⟩
      | succ i => exact e2 i y b (by simpa using hy) (by simpa using hb)
    · intro b hb m hm
      rcases List.mem_cons.1 hb with rfl | hb
      · simp [hm]
      · simp [e3 b hb m hm]
    · refine List.nodup_cons.2 ⟨fun hm => ?_, e4⟩
      have h1 := e3 a hm (.cell a.block a.off) (by simp [MemPlace.row])
      have h2 := List.nodup_append.1 hnd
      exact h2.2.2 (.cell a.block a.off) (by simp [MemPlace.row]) _ h1 rfl
theorem sents_of_laid {P : Program} {W : World} {nm : String} {ti tp te ts : TypeId} {ms : Array (String × TypeId)} {f : Field} {l : List (String × List UInt8 × Nat)}
    (hi : P.underlying ti = some (.interface ms)) (hrow : ∀ u, P.typeName? 3 u = some nm → u = tp)
    (hp : P.underlying tp = some (.pointer te)) (he : P.underlying te = some (.struct #[f])) (hft : f.type = ts) (hfo : f.offset = 0) (hs : P.underlying ts = some .string) (hc : P.cellsOf te = 1) (hcs : P.cellsOf ts = 1)
    (h : laidMet P (sentData nm l) W) (hg : ∀ x ∈ l, P.globalNamed x.1 = some x.2.2 ∧ (P.globals[x.2.2]?).map (·.type) = some ti) :
    ∃ az : List Addr, az.length = l.length ∧ (∀ (i : Nat) x a, l[i]? = some x → az[i]? = some a → W.cell? ⟨x.2.2, 0, none⟩ = some (.iface tp (.pointer (some a))) ∧ ∃ c t, W.heap[a.block]? = some (.cells c t (0, 0))) ∧ az.Nodup := by
  obtain ⟨ps, hv, hnd, hrows⟩ := h
  obtain ⟨az, e1, e2, _, e4⟩ := sents_of_vars hi hrow hp he hft hfo hs hc hcs l ps hv hnd hrows hg
  exact ⟨az, e1, e2, e4⟩
/-- The type of the sentinels, by its name alone. -/
theorem es_star : "*" ++ "errors.errorString" = "*errors.errorString" := by decide
theorem es_row : ∀ u, Tryd.prog.typeName? 3 u = some "*errors.errorString" → u = 185 := fun u h =>
  typeName_ptr_named (nm := "errors.errorString") (by rw [es_star]; kernel_rfl) (by kernel_rfl) (by decide) u (by rw [es_star]; exact h)
end Go.Proofs.YteaiejippkikpaaDoor.H
