/- kit.Kind and kit.Place of what words.Line answers. -/
import Derived.Test.YteaiejippkikpaaDoorKKind
import Derived.Test.YteaiejippkikpaaDoorKIsP
import Derived.Test.YteaiejippkikpaaDoorKAsP
import Derived.Test.YteaiejippkikpaaDoorLineW
set_option linter.unusedVariables false
set_option linter.unusedSimpArgs false
namespace Go.Proofs.YteaiejippkikpaaDoor.B
open Go.Proofs.YteaiejippkikpaaDoor.H (PErrV)
open Go.RowKit Go.Proofs.YteaiejippkikpaaDoorW.PrintWords Go.Proofs.YteaiejippkikpaaDoorW.PrintLast Go.Proofs.YteaiejippkikpaaDoorW.PrintMore Go.Proofs.YteaiejippkikpaaDoor.E

theorem IsK.place {ad : Int → Addr} {w : World} (hs : SentsK ad w) (k : Int) (h1 : 1 ≤ k) (h2 : k ≤ 15) (b : Nat) (hc : w.cell? ⟨b, 1, none⟩ = some (.iface 185 (.pointer (some (ad k))))) : IsK ad w (.iface 120 (.pointer (some ⟨b, 0, none⟩))) k := by
  intro j hj1 hj2 W hW
  have hc' : W.cell? ⟨b, 0 + 1, none⟩ = some (.iface 185 (.pointer (some (ad k)))) := (hW.cell (World.block_lt_of_cell? w _ hc)).trans hc
  by_cases h : j = k
  · subst h
    rw [decide_eq_true rfl]
    exact isP_same b 0 (ad j) W hc'
  · rw [decide_eq_false h]
    obtain ⟨ca, ta, hca⟩ := (hs.below hW).box k h1 h2
    obtain ⟨cb, tb, hcb⟩ := (hs.below hW).box j hj1 hj2
    exact isP_other b 0 (ad j) (ad k) ca cb ta tb W hc' (hs.ne k j h1 h2 hj1 hj2 (fun e => h e.symm)) hca hcb
/-- Kind of such an error. -/
theorem Kind_pl {ad : Int → Addr} {w : World} (hs : SentsK ad w) {v : Value} {p : Int × Int} (hv : PErrV ad w v p) : Calls Tryd.prog 32 #[v] w fun e w' => e = .returned (.int .i64 p.1) ∧ Below w.heap.size w w' := by
  rcases hv with ⟨h0, _, rfl⟩ | ⟨h1, _, rfl⟩ | ⟨h1, b, rfl, hx⟩
  · rw [h0]; exact Kind_nil w
  · exact Kind_any ad _ _ p.1 h1.1 h1.2 w hs (IsK.sent hs p.1 h1.1 h1.2)
  · exact Kind_any ad _ _ p.1 h1.1 h1.2 w hs (IsK.place hs p.1 h1.1 h1.2 b (Box.cell (W := w) hx 1 _ rfl))

/-- The handle of the type error lies. -/
def HandleP (w : World) : Prop := w.cell? ⟨15, 0, none⟩ = some (.iface 168 (.agg #[.pointer (some ⟨17, 44, none⟩)]))
theorem HandleP.below {w w' : World} (h : HandleP w) (hb : Below w.heap.size w w') : HandleP w' := (hb.cell (World.block_lt_of_cell? w _ h)).trans h

set_option maxHeartbeats 1000000 in
set_option maxRecDepth 100000 in
theorem Place_no (v : Value) (w : World) (hA : ∀ W, Below w.heap.size w W → ∀ a, Calls Tryd.prog 75 #[v, .iface 121 (.pointer (some a))] W fun e w' => e = .returned (.bool false) ∧ Below W.heap.size W w') :
    Calls Tryd.prog 37 #[v] w fun e w' => e = .returned (.int .i64 (-1)) ∧ Below w.heap.size w w' := by
  have hb : Below w.heap.size w (w.alloc (.cells #[.pointer none] 120)) := (Below.refl _ w).alloc (Nat.le_refl _) _
  have HA := Aside0.mk (hA _ hb ⟨w.heap.size, 0, none⟩)
  have HB := Aside0.mk hb
  clear hA hb
  go_enter Tryd.func37, Tryd.ntmps37
  go_wp2_with (go_at_call 75; (with_reducible refine HA.out.mono ?_); rintro e w' ⟨rfl, hb'⟩)
  go_ret
  exact ⟨rfl, HB.out.trans (hb'.mono HB.out.size)⟩
set_option maxHeartbeats 1000000 in
set_option maxRecDepth 100000 in
theorem Place_yes (b : Nat) (r : Int) (w : World) (hg : HandleP w) (hr : w.cell? ⟨b, 0, none⟩ = some (.int .i64 r)) :
    Calls Tryd.prog 37 #[.iface 120 (.pointer (some ⟨b, 0, none⟩))] w fun e w' => e = .returned (.int .i64 r) ∧ Below w.heap.size w w' := by
  have hb : Below w.heap.size w (w.alloc (.cells #[.pointer none] 120)) := (Below.refl _ w).alloc (Nat.le_refl _) _
  have hbl : b < w.heap.size := World.block_lt_of_cell? w _ hr
  have hA : Calls Tryd.prog 75 #[.iface 120 (.pointer (some ⟨b, 0, none⟩)), .iface 121 (.pointer (some ⟨w.heap.size, 0, none⟩))] (w.alloc (.cells #[.pointer none] 120)) fun e w' => e = .returned (.bool true) ∧ Aside0 (Below w.heap.size w w') ∧ w'.cell? ⟨w.heap.size, 0, none⟩ = some (.pointer (some ⟨b, 0, none⟩)) ∧ w'.cell? ⟨b, 0, none⟩ = some (.int .i64 r) := by
    have hx : Box w.heap.size #[.pointer none] 120 (w.alloc (.cells #[.pointer none] 120)) := Box.new w _ _
    have hx' : (w.alloc (.cells #[.pointer none] 120)).heap[w.heap.size]? = some (.cells #[.pointer none] 120 (0, 0)) := hx
    refine (as_hitP ⟨b, 0, none⟩ ⟨w.heap.size, 0, none⟩ (.pointer none) _ (hg.below hb) (hx.cell 0 _ rfl) (by unfold World.frozen?; rw [show (w.alloc (.cells #[.pointer none] 120)).heap[(⟨w.heap.size, 0, none⟩ : Addr).block]? = _ from hx']; rfl)).mono ?_
    rintro e w' ⟨rfl, rfl⟩
    have hb4 := ((((Below.refl _ (w.alloc (.cells #[.pointer none] 120))).alloc (Nat.le_refl _) (.cells #[.pointer (some ⟨w.heap.size, 0, none⟩)] 121)).alloc (by simp) (.cells #[.pointer (some ⟨17, 121, none⟩), .pointer (some ⟨(w.alloc (.cells #[.pointer none] 120)).heap.size, 0, none⟩), .int .u64 150] 149)).alloc (by first | (simp; done) | (simp; omega)) (.cells #[.pointer (some ⟨17, 121, none⟩), .pointer (some ⟨(w.alloc (.cells #[.pointer none] 120)).heap.size, 0, none⟩), .int .u64 150] 149)).alloc (by first | (simp; done) | (simp; omega)) (.cells #[.pointer (some ⟨b, 0, none⟩)] 120)
    have hbw := hb.trans (hb4.mono hb.size)
    have hc4 : _ := (hb4.cell (p := ⟨w.heap.size, 0, none⟩) (by simp)).trans (hx.cell 0 _ rfl)
    refine ⟨rfl, ⟨hbw.setCell (Nat.le_refl _) _⟩, ?_, ?_⟩
    · exact World.cell?_setCell_same' _ _ _ (by rw [hc4]; rfl)
    · rw [World.cell?_setCell_other _ _ _ _ (show (⟨w.heap.size, 0, none⟩ : Addr) ≠ ⟨b, 0, none⟩ from fun e => by injection e with e; omega)]
      exact (hbw.cell (p := ⟨b, 0, none⟩) hbl).trans hr
  have HA := Aside0.mk hA
  clear hA hb
  go_enter Tryd.func37, Tryd.ntmps37
  go_wp2_with (go_at_call 75; (with_reducible refine HA.out.mono ?_); rintro e w' ⟨rfl, hb', f0, f1⟩)
  go_ret
  exact ⟨rfl, hb'.out⟩
/-- Rule of such an error. -/
theorem Place_pl {ad : Int → Addr} {w : World} (hg : HandleP w) {v : Value} {p : Int × Int} (hv : PErrV ad w v p) : Calls Tryd.prog 37 #[v] w fun e w' => e = .returned (.int .i64 p.2) ∧ Below w.heap.size w w' := by
  rcases hv with ⟨_, h2, rfl⟩ | ⟨_, h2, rfl⟩ | ⟨_, b, rfl, hx⟩
  · rw [h2]
    exact Place_no _ w (fun W _ a => (as_nilP _ W).mono fun _ _ ⟨he, hw⟩ => by subst hw; exact ⟨he, Below.refl _ _⟩)
  · rw [h2]
    exact Place_no _ w (fun W hW a => as_esP _ a W (hg.below hW))
  · exact Place_yes b p.2 w hg (Box.cell (W := w) hx 0 _ rfl)
end Go.Proofs.YteaiejippkikpaaDoor.B
