/- kit.Kind: which of api's errors one is, as a number. -/
import Derived.Test.YteaiejippkikpaaDoorKIs
import Derived.Test.YteaiejippkikpaaDoorKBox
import Derived.Test.YteaiejippkikpaaDoorWLast
import Derived.Test.YteaiejippkikpaaDoorWMore
set_option linter.unusedVariables false
set_option linter.unusedSimpArgs false
namespace Go.Proofs.YteaiejippkikpaaDoor.B
open Go.RowKit Go.Proofs.YteaiejippkikpaaDoorW.PrintWords Go.Proofs.YteaiejippkikpaaDoorW.PrintLast Go.Proofs.YteaiejippkikpaaDoorW.PrintMore Go.Proofs.YteaiejippkikpaaDoor.E

/-- All fifteen sentinels lie, and point to fifteen places. -/
structure SentsK (ad : Int → Addr) (w : World) : Prop where
  cells : w.cell? ⟨2, 0, none⟩ = some (.iface 185 (.pointer (some (ad 1)))) ∧ w.cell? ⟨3, 0, none⟩ = some (.iface 185 (.pointer (some (ad 2)))) ∧ w.cell? ⟨0, 0, none⟩ = some (.iface 185 (.pointer (some (ad 3)))) ∧ w.cell? ⟨4, 0, none⟩ = some (.iface 185 (.pointer (some (ad 4)))) ∧ w.cell? ⟨5, 0, none⟩ = some (.iface 185 (.pointer (some (ad 5)))) ∧ w.cell? ⟨6, 0, none⟩ = some (.iface 185 (.pointer (some (ad 6)))) ∧ w.cell? ⟨7, 0, none⟩ = some (.iface 185 (.pointer (some (ad 7)))) ∧ w.cell? ⟨8, 0, none⟩ = some (.iface 185 (.pointer (some (ad 8)))) ∧ w.cell? ⟨9, 0, none⟩ = some (.iface 185 (.pointer (some (ad 9)))) ∧ w.cell? ⟨1, 0, none⟩ = some (.iface 185 (.pointer (some (ad 10)))) ∧ w.cell? ⟨10, 0, none⟩ = some (.iface 185 (.pointer (some (ad 11)))) ∧ w.cell? ⟨11, 0, none⟩ = some (.iface 185 (.pointer (some (ad 12)))) ∧ w.cell? ⟨12, 0, none⟩ = some (.iface 185 (.pointer (some (ad 13)))) ∧ w.cell? ⟨13, 0, none⟩ = some (.iface 185 (.pointer (some (ad 14)))) ∧ w.cell? ⟨14, 0, none⟩ = some (.iface 185 (.pointer (some (ad 15))))
  box : ∀ k : Int, 1 ≤ k → k ≤ 15 → ∃ c t, w.heap[(ad k).block]? = some (.cells c t (0, 0))
  ne : ∀ j k : Int, 1 ≤ j → j ≤ 15 → 1 ≤ k → k ≤ 15 → j ≠ k → ad j ≠ ad k
theorem SentsK.below {ad : Int → Addr} {w w' : World} (h : SentsK ad w) (hb : Below w.heap.size w w') : SentsK ad w' := by
  obtain ⟨⟨h1, h2, h3, h4, h5, h6, h7, h8, h9, h10, h11, h12, h13, h14, h15⟩, hbox, hne⟩ := h
  refine ⟨⟨(hb.cell (World.block_lt_of_cell? w _ h1)).trans h1, (hb.cell (World.block_lt_of_cell? w _ h2)).trans h2, (hb.cell (World.block_lt_of_cell? w _ h3)).trans h3, (hb.cell (World.block_lt_of_cell? w _ h4)).trans h4, (hb.cell (World.block_lt_of_cell? w _ h5)).trans h5, (hb.cell (World.block_lt_of_cell? w _ h6)).trans h6, (hb.cell (World.block_lt_of_cell? w _ h7)).trans h7, (hb.cell (World.block_lt_of_cell? w _ h8)).trans h8, (hb.cell (World.block_lt_of_cell? w _ h9)).trans h9, (hb.cell (World.block_lt_of_cell? w _ h10)).trans h10, (hb.cell (World.block_lt_of_cell? w _ h11)).trans h11, (hb.cell (World.block_lt_of_cell? w _ h12)).trans h12, (hb.cell (World.block_lt_of_cell? w _ h13)).trans h13, (hb.cell (World.block_lt_of_cell? w _ h14)).trans h14, (hb.cell (World.block_lt_of_cell? w _ h15)).trans h15⟩, fun k h1 h2 => ?_, hne⟩
  obtain ⟨c, t, hc⟩ := hbox k h1 h2
  exact ⟨c, t, Box.below (W := w) (W' := w') hc hb⟩
/-- What errors.Is answers of a value: is it the sentinel k? -/
def IsK (ad : Int → Addr) (w : World) (v : Value) (k : Int) : Prop := ∀ j : Int, 1 ≤ j → j ≤ 15 → ∀ W, Below w.heap.size w W → Calls Tryd.prog 74 #[v, .iface 185 (.pointer (some (ad j)))] W fun e w' => e = .returned (.bool (decide (j = k))) ∧ W = w'
theorem IsK.sent {ad : Int → Addr} {w : World} (hs : SentsK ad w) (k : Int) (h1 : 1 ≤ k) (h2 : k ≤ 15) : IsK ad w (.iface 185 (.pointer (some (ad k)))) k := by
  intro j hj1 hj2 W hW
  by_cases h : j = k
  · subst h
    rw [decide_eq_true rfl]
    exact is_same (ad j) W
  · rw [decide_eq_false h]
    obtain ⟨ca, ta, hca⟩ := (hs.below hW).box k h1 h2
    obtain ⟨cb, tb, hcb⟩ := (hs.below hW).box j hj1 hj2
    exact is_other (ad k) (ad j) ca cb ta tb W (hs.ne k j h1 h2 hj1 hj2 (fun e => h e.symm)) hca hcb

/-- The fifteen, in a row. -/
def sentRow (ad : Int → Addr) : Array Value := #[.iface 185 (.pointer (some (ad 1))), .iface 185 (.pointer (some (ad 2))), .iface 185 (.pointer (some (ad 3))), .iface 185 (.pointer (some (ad 4))), .iface 185 (.pointer (some (ad 5))), .iface 185 (.pointer (some (ad 6))), .iface 185 (.pointer (some (ad 7))), .iface 185 (.pointer (some (ad 8))), .iface 185 (.pointer (some (ad 9))), .iface 185 (.pointer (some (ad 10))), .iface 185 (.pointer (some (ad 11))), .iface 185 (.pointer (some (ad 12))), .iface 185 (.pointer (some (ad 13))), .iface 185 (.pointer (some (ad 14))), .iface 185 (.pointer (some (ad 15)))]
theorem sentRow_at (ad : Int → Addr) (i : Nat) (hi : i < 15) : (sentRow ad)[i]? = some (.iface 185 (.pointer (some (ad ((i + 1 : Nat) : Int))))) := by
  match i, hi with
  | 0, _ => rfl
  | 1, _ => rfl
  | 2, _ => rfl
  | 3, _ => rfl
  | 4, _ => rfl
  | 5, _ => rfl
  | 6, _ => rfl
  | 7, _ => rfl
  | 8, _ => rfl
  | 9, _ => rfl
  | 10, _ => rfl
  | 11, _ => rfl
  | 12, _ => rfl
  | 13, _ => rfl
  | 14, _ => rfl

set_option maxHeartbeats 2000000 in
set_option maxRecDepth 100000 in
theorem Kind_any (ad : Int → Addr) (t : TypeId) (u : Value) (k : Int) (hk1 : 1 ≤ k) (hk2 : k ≤ 15) (w : World) (hs : SentsK ad w) (hI : IsK ad w (.iface t u) k) :
    Calls Tryd.prog 32 #[.iface t u] w fun e w' => e = .returned (.int .i64 k) ∧ Below w.heap.size w w' := by
  obtain ⟨⟨h1, h2, h3, h4, h5, h6, h7, h8, h9, h10, h11, h12, h13, h14, h15⟩, _, _⟩ := hs
  have hb0 : Box w.heap.size (sentRow ad) 44 (w.alloc (.cells (sentRow ad) 44)) := Box.new w _ _
  have HB := Aside0.mk hb0
  have HI := Aside0.mk hI
  clear hb0 hI
  go_enter Tryd.func32, Tryd.ntmps32
  go_wp2_with fail
  go_loopw [4, 5] (fun h i wr => ∃ (q : Nat) (hit : Int), q ≤ 15 ∧ i = .int .i64 q ∧ h = .int .i64 hit ∧ Hid (hit = if k ≤ (q : Int) then k else 99) ∧ Aside0 (Below w.heap.size w wr ∧ Box w.heap.size (sentRow ad) 44 wr)) (fun _ i _ => 15 - (intOf i).toNat)
  case atStart => exact ⟨0, 99, by omega, rfl, rfl, Lib.hid (by rw [if_neg]; omega), ⟨(Below.refl _ w).alloc (Nat.le_refl _) _, HB.out⟩⟩
  case round =>
    obtain ⟨q, hit, hq, rfl, rfl, hhit, tr⟩ := hrel
    clear h1 h2 h3 h4 h5 h6 h7 h8 h9 h10 h11 h12 h13 h14 h15
    by_cases hlt : q < 15
    · have f0 := tr.out.2.cell q _ (sentRow_at ad q hlt)
      have hc := HI.out ((q + 1 : Nat) : Int) (by omega) (by omega) wr tr.out.1
      generalize ad ((q + 1 : Nat) : Int) = a at f0 hc
      by_cases c : ((q + 1 : Nat) : Int) = k
      · rw [decide_eq_true c] at hc
        obtain rfl : hit = 99 := by rw [hhit.out, if_neg]; omega
        have HC := Aside0.mk hc
        have HK := Lib.hid c
        clear hc c hhit
        go_wp2_with (go_at_call 74; (with_reducible refine HC.out.mono ?_); rintro e w' ⟨rfl, rfl⟩)
        go_roundw
        case measure => simp [intOf]; omega
        case rel => exact ⟨q + 1, (q : Int) + 1, by omega, rfl, rfl, Lib.hid (by rw [if_pos (by have := HK.out; omega)]; have := HK.out; omega), tr⟩
      · rw [decide_eq_false c] at hc
        have HC := Aside0.mk hc
        have HK := Lib.hid c
        clear hc c
        go_wp2_with (go_at_call 74; (with_reducible refine HC.out.mono ?_); rintro e w' ⟨rfl, rfl⟩)
        go_roundw
        case measure => simp [intOf]; omega
        case rel => exact ⟨q + 1, hit, by omega, rfl, rfl, Lib.hid (by
          have h1 := HK.out
          rw [hhit.out]
          by_cases c : k ≤ (q : Int)
          · rw [if_pos c, if_pos (by omega)]
          · rw [if_neg c, if_neg (by omega)]), tr⟩
    · have hqn : q = 15 := by omega
      subst hqn
      obtain rfl : hit = k := by rw [hhit.out, if_pos]; omega
      clear hhit
      go_wp2_with fail
      go_ret
      exact ⟨rfl, tr.out.1⟩
set_option maxRecDepth 100000 in
theorem Kind_nil (w : World) : Calls Tryd.prog 32 #[.nilIface] w fun e w' => e = .returned (.int .i64 0) ∧ Below w.heap.size w w' := by
  go_enter Tryd.func32, Tryd.ntmps32
  go_wp2_with fail
  go_ret
  exact ⟨rfl, Below.refl _ w⟩
end Go.Proofs.YteaiejippkikpaaDoor.B
