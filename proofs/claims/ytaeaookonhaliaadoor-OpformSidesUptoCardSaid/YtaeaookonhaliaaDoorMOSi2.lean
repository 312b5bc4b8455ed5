/- Texts of this claim, one behind the other. -/
import Derived.Test.YtaeaookonhaliaaDoorMOSi1
import Derived.Test.YtaeaookonhaliaaDoorRows
import Derived.LaidLaws
import Derived.LaidHandle
import Derived.Lib.LaidTab
import Derived.Lib.LaidIn
import Derived.Deep.MidRow
import Derived.Lib.Builder
import Derived.ChangeKeysEq
import Derived.DeepKeys
import Derived.RangeFuncNested
import Derived.RangeFuncBound
import Derived.RangeFuncCalls
import Derived.RangeFuncLeaves
import Derived.Shelf.Abstract
import Derived.Shelf.RegionOpen
import Derived.WalkKit
import Derived.OwnWalkIn
import Derived.TacticsInMore
import Derived.LoopNIn
import Derived.LoopIn
import Derived.Test.YtaeaookonhaliaaDoorChecked
import Derived.RangeFuncOne
import Derived.Deep.Onto
import Derived.ArgAppend
import Derived.OwnWalk
import Derived.StillTailTactics
import Derived.BigQuiet
/- kit.Kind: which of api's errors one is, as a number. -/
set_option linter.unusedVariables false
set_option linter.unusedSimpArgs false
namespace Go.Proofs.YtaeaookonhaliaaDoor.B
open Go.RowKit YtaeaookonhaliaaDoorW.PrintWords YtaeaookonhaliaaDoorW.PrintLast YtaeaookonhaliaaDoorW.PrintMore E

structure SentsK (ad : Int → Addr) (w : World) : Prop where
 cells : w.cell? ⟨1, 0, none⟩ = some (.iface 114 (.pointer (some (ad 1)))) ∧ w.cell? ⟨2, 0, none⟩ = some (.iface 114 (.pointer (some (ad 2)))) ∧ w.cell? ⟨3, 0, none⟩ = some (.iface 114 (.pointer (some (ad 3)))) ∧ w.cell? ⟨0, 0, none⟩ = some (.iface 114 (.pointer (some (ad 4)))) ∧ w.cell? ⟨4, 0, none⟩ = some (.iface 114 (.pointer (some (ad 5)))) ∧ w.cell? ⟨5, 0, none⟩ = some (.iface 114 (.pointer (some (ad 6)))) ∧ w.cell? ⟨6, 0, none⟩ = some (.iface 114 (.pointer (some (ad 7)))) ∧ w.cell? ⟨7, 0, none⟩ = some (.iface 114 (.pointer (some (ad 8)))) ∧ w.cell? ⟨8, 0, none⟩ = some (.iface 114 (.pointer (some (ad 9)))) ∧ w.cell? ⟨9, 0, none⟩ = some (.iface 114 (.pointer (some (ad 10)))) ∧ w.cell? ⟨10, 0, none⟩ = some (.iface 114 (.pointer (some (ad 11)))) ∧ w.cell? ⟨11, 0, none⟩ = some (.iface 114 (.pointer (some (ad 12)))) ∧ w.cell? ⟨12, 0, none⟩ = some (.iface 114 (.pointer (some (ad 13)))) ∧ w.cell? ⟨13, 0, none⟩ = some (.iface 114 (.pointer (some (ad 14)))) ∧ w.cell? ⟨14, 0, none⟩ = some (.iface 114 (.pointer (some (ad 15))))
 box : ∀ k : Int, 1 ≤ k → k ≤ 15 → ∃ c t, w.heap[(ad k).block]? = some (.cells c t (0, 0))
 ne : ∀ j k : Int, 1 ≤ j → j ≤ 15 → 1 ≤ k → k ≤ 15 → j ≠ k → ad j ≠ ad k
theorem SentsK.below {ad : Int → Addr} {w w' : World} (h : SentsK ad w) (hb : Below w.heap.size w w') : SentsK ad w' := by
 obtain ⟨⟨h1, h2, h3, h4, h5, h6, h7, h8, h9, h10, h11, h12, h13, h14, h15⟩, hbox, hne⟩ := h
 refine ⟨⟨(hb.cell (World.block_lt_of_cell? w _ h1)).trans h1, (hb.cell (World.block_lt_of_cell? w _ h2)).trans h2, (hb.cell (World.block_lt_of_cell? w _ h3)).trans h3, (hb.cell (World.block_lt_of_cell? w _ h4)).trans h4, (hb.cell (World.block_lt_of_cell? w _ h5)).trans h5, (hb.cell (World.block_lt_of_cell? w _ h6)).trans h6, (hb.cell (World.block_lt_of_cell? w _ h7)).trans h7, (hb.cell (World.block_lt_of_cell? w _ h8)).trans h8, (hb.cell (World.block_lt_of_cell? w _ h9)).trans h9, (hb.cell (World.block_lt_of_cell? w _ h10)).trans h10, (hb.cell (World.block_lt_of_cell? w _ h11)).trans h11, (hb.cell (World.block_lt_of_cell? w _ h12)).trans h12, (hb.cell (World.block_lt_of_cell? w _ h13)).trans h13, (hb.cell (World.block_lt_of_cell? w _ h14)).trans h14, (hb.cell (World.block_lt_of_cell? w _ h15)).trans h15⟩, fun k h1 h2 => ?_, hne⟩
 obtain ⟨c, t, hc⟩ := hbox k h1 h2
 exact ⟨c, t, Box.below (W := w) (W' := w') hc hb⟩
def IsK (ad : Int → Addr) (w : World) (v : Value) (k : Int) : Prop := ∀ j : Int, 1 ≤ j → j ≤ 15 → ∀ W, Below w.heap.size w W → Calls Tryd.prog 35 #[v, .iface 114 (.pointer (some (ad j)))] W fun e w' => e = .returned (.bool (decide (j = k))) ∧ W = w'
theorem IsK.sent {ad : Int → Addr} {w : World} (hs : SentsK ad w) (k : Int) (h1 : 1 ≤ k) (h2 : k ≤ 15) : IsK ad w (.iface 114 (.pointer (some (ad k)))) k := by
 intro j hj1 hj2 W hW
 by_cases h : j = k
 · subst h
   rw [decide_eq_true rfl]
   exact is_same (ad j) W
 · rw [decide_eq_false h]
   obtain ⟨ca, ta, hca⟩ := (hs.below hW).box k h1 h2
   obtain ⟨cb, tb, hcb⟩ := (hs.below hW).box j hj1 hj2
   exact is_other (ad k) (ad j) ca cb ta tb W (hs.ne k j h1 h2 hj1 hj2 (fun e => h e.symm)) hca hcb

def sentRow (ad : Int → Addr) : Array Value := #[.iface 114 (.pointer (some (ad 1))), .iface 114 (.pointer (some (ad 2))), .iface 114 (.pointer (some (ad 3))), .iface 114 (.pointer (some (ad 4))), .iface 114 (.pointer (some (ad 5))), .iface 114 (.pointer (some (ad 6))), .iface 114 (.pointer (some (ad 7))), .iface 114 (.pointer (some (ad 8))), .iface 114 (.pointer (some (ad 9))), .iface 114 (.pointer (some (ad 10))), .iface 114 (.pointer (some (ad 11))), .iface 114 (.pointer (some (ad 12))), .iface 114 (.pointer (some (ad 13))), .iface 114 (.pointer (some (ad 14))), .iface 114 (.pointer (some (ad 15)))]
theorem sentRow_at (ad : Int → Addr) (i : Nat) (hi : i < 15) : (sentRow ad)[i]? = some (.iface 114 (.pointer (some (ad ((i + 1 : Nat) : Int))))) := by
 match i, hi with
 | 0, _ => rfl
 | 1, _ => rfl
 | 2, _ => rfl
 | 3, _ => rfl
 | 4, _ => rfl
 | 5, _ => rfl
 | 6, _ => rfl
 | 7, _ => rfl
 | 8, _ => rfl
 | 9, _ => rfl
 | 10, _ => rfl
 | 11, _ => rfl
 | 12, _ => rfl
 | 13, _ => rfl
 | 14, _ => rfl

set_option maxHeartbeats 2000000 in
set_option maxRecDepth 100000 in
theorem Kind_any (ad : Int → Addr) (t : TypeId) (u : Value) (k : Int) (hk1 : 1 ≤ k) (hk2 : k ≤ 15) (w : World) (hs : SentsK ad w) (hI : IsK ad w (.iface t u) k) :
 Calls Tryd.prog 16 #[.iface t u] w fun e w' => e = .returned (.int .i64 k) ∧ Below w.heap.size w w' := by
 obtain ⟨⟨h1, h2, h3, h4, h5, h6, h7, h8, h9, h10, h11, h12, h13, h14, h15⟩, _, _⟩ := hs
 have hb0 : Box w.heap.size (sentRow ad) 32 (w.alloc (.cells (sentRow ad) 32)) := Box.new w _ _
 have HB := Aside0.mk hb0
 have HI := Aside0.mk hI
 clear hb0 hI
 go_enter Tryd.func16, Tryd.ntmps16
 go_wp2_with fail
 go_loopw [4, 5] (fun h i wr => ∃ (q : Nat) (hit : Int), q ≤ 15 ∧ i = .int .i64 q ∧ h = .int .i64 hit ∧ Hid (hit = if k ≤ (q : Int) then k else 99) ∧ Aside0 (Below w.heap.size w wr ∧ Box w.heap.size (sentRow ad) 32 wr)) (fun _ i _ => 15 - (intOf i).toNat)
 case atStart => exact ⟨0, 99, by omega, rfl, rfl, Lib.hid (by rw [if_neg]; omega), ⟨(Below.refl _ w).alloc (Nat.le_refl _) _, HB.out⟩⟩
 case round =>
  obtain ⟨q, hit, hq, rfl, rfl, hhit, tr⟩ := hrel
  clear h1 h2 h3 h4 h5 h6 h7 h8 h9 h10 h11 h12 h13 h14 h15
  by_cases hlt : q < 15
  · have f0 := tr.out.2.cell q _ (sentRow_at ad q hlt)
    have hc := HI.out ((q + 1 : Nat) : Int) (by omega) (by omega) wr tr.out.1
    generalize ad ((q + 1 : Nat) : Int) = a at f0 hc
    by_cases c : ((q + 1 : Nat) : Int) = k
    · rw [decide_eq_true c] at hc
      obtain rfl : hit = 99 := by rw [hhit.out, if_neg]; omega
      have HC := Aside0.mk hc
      have HK := Lib.hid c
      clear hc c hhit
      go_wp2_with (go_at_call 35; (with_reducible refine HC.out.mono ?_); rintro e w' ⟨rfl, rfl⟩)
      go_roundw
      case measure => simp [intOf]; omega
      case rel => exact ⟨q + 1, (q : Int) + 1, by omega, rfl, rfl, Lib.hid (by rw [if_pos (by have := HK.out; omega)]; have := HK.out; omega), tr⟩
    · rw [decide_eq_false c] at hc
      have HC := Aside0.mk hc
      have HK := Lib.hid c
      clear hc c
      go_wp2_with (go_at_call 35; (with_reducible refine HC.out.mono ?_); rintro e w' ⟨rfl, rfl⟩)
      go_roundw
      case measure => simp [intOf]; omega
      case rel => exact ⟨q + 1, hit, by omega, rfl, rfl, Lib.hid (by
       have h1 := HK.out
       rw [hhit.out]
       by_cases c : k ≤ (q : Int)
       · rw [if_pos c, if_pos (by omega)]
       · rw [if_neg c, if_neg (by omega)]), tr⟩
  · have hqn : q = 15 := by omega
    subst hqn
    obtain rfl : hit = k := by rw [hhit.out, if_pos]; omega
    clear hhit
    go_wp2_with fail
    go_ret
    exact ⟨rfl, tr.out.1⟩
set_option maxRecDepth 100000 in
theorem Kind_nil (w : World) : Calls Tryd.prog 16 #[.nilIface] w fun e w' => e = .returned (.int .i64 0) ∧ Below w.heap.size w w' := by
 go_enter Tryd.func16, Tryd.ntmps16
 go_wp2_with fail
 go_ret
 exact ⟨rfl, Below.refl _ w⟩
def HandleP (w : World) : Prop := w.cell? ⟨15, 0, none⟩ = some (.iface 97 (.agg #[.pointer (some ⟨16, 32, none⟩)]))
theorem HandleP.below {w w' : World} (h : HandleP w) (hb : Below w.heap.size w w') : HandleP w' := (hb.cell (World.block_lt_of_cell? w _ h)).trans h
end Go.Proofs.YtaeaookonhaliaaDoor.B
/- What the listed variables give: the fifteen sentinels, the handle of the type error; a world in which they lie. -/
namespace Go.Proofs.YtaeaookonhaliaaDoor.B
open Go.RowKit Go.ChangeShapes H

def names15 : List (String × List UInt8 × Nat) := [("dovetail/api.ErrArg", [100, 111, 118, 101, 116, 97, 105, 108, 58, 32, 97, 114, 103, 117, 109, 101, 110, 116], 1), ("dovetail/api.ErrSyntax", [100, 111, 118, 101, 116, 97, 105, 108, 58, 32, 115, 121, 110, 116, 97, 120], 2), ("dovetail/api.ErrBounds", [100, 111, 118, 101, 116, 97, 105, 108, 58, 32, 98, 111, 117, 110, 100, 115], 3), ("dovetail/api.ErrNotOperator", [100, 111, 118, 101, 116, 97, 105, 108, 58, 32, 110, 111, 116, 32, 97, 110, 32, 111, 112, 101, 114, 97, 116, 111, 114, 32, 103, 114, 97, 109, 109, 97, 114], 0), ("dovetail/api.ErrMatrix", [100, 111, 118, 101, 116, 97, 105, 108, 58, 32, 116, 119, 111, 32, 114, 101, 108, 97, 116, 105, 111, 110, 115], 4), ("dovetail/api.ErrTooBig", [100, 111, 118, 101, 116, 97, 105, 108, 58, 32, 116, 111, 111, 32, 98, 105, 103], 5), ("dovetail/api.ErrRefused", [100, 111, 118, 101, 116, 97, 105, 108, 58, 32, 114, 101, 102, 117, 115, 101, 100], 6), ("dovetail/api.ErrCut", [100, 111, 118, 101, 116, 97, 105, 108, 58, 32, 99, 117, 116], 7), ("dovetail/api.ErrPlan", [100, 111, 118, 101, 116, 97, 105, 108, 58, 32, 112, 108, 97, 110], 8), ("dovetail/api.ErrName", [100, 111, 118, 101, 116, 97, 105, 108, 58, 32, 110, 97, 109, 101], 9), ("dovetail/api.ErrTree", [100, 111, 118, 101, 116, 97, 105, 108, 58, 32, 116, 114, 101, 101], 10), ("dovetail/api.ErrLong", [100, 111, 118, 101, 116, 97, 105, 108, 58, 32, 108, 111, 110, 103], 11), ("dovetail/api.ErrForm", [100, 111, 118, 101, 116, 97, 105, 108, 58, 32, 102, 111, 114, 109], 12), ("dovetail/api.ErrSum", [100, 111, 118, 101, 116, 97, 105, 108, 58, 32, 115, 117, 109], 13), ("dovetail/api.ErrNone", [100, 111, 118, 101, 116, 97, 105, 108, 58, 32, 110, 111, 110, 101], 14)]
def laid16 : List (String × DataW Unit) := ("errors.errorType", Rows.laid_errors_errorType) :: sentData "*errors.errorString" names15
theorem rt16 : (Tryd.prog.cutTypes.find? (·.1 == "internal/reflectlite.rtype")).map (·.2) = some 97 := by kernel_rfl
theorem oneRow16 : ((List.range Tryd.prog.types.size).filter fun t => Tryd.prog.rowNamed t [101, 114, 114, 111, 114]) = [32] := by kernel_rfl
theorem et16 : Tryd.prog.globalNamed "errors.errorType" = some 15 := by kernel_rfl
theorem handle16 {W : World} (h : handlesMet Tryd.prog [("errors.errorType", Rows.laid_errors_errorType)] W) : HandleP W := by
 obtain ⟨name, u, ty, e1, e2, e3, e4, e5⟩ := h _ (List.mem_singleton.2 rfl)
 have en : name = [101, 114, 114, 111, 114] := (Option.some.inj e1).symm
 subst en
 obtain rfl := Option.some.inj (rt16.symm.trans e2)
 have hm : ty ∈ (List.range Tryd.prog.types.size).filter fun t => Tryd.prog.rowNamed t [101, 114, 114, 111, 114] := List.mem_filter.2 ⟨List.mem_range.2 e3, e4⟩
 rw [oneRow16] at hm
 obtain rfl := List.mem_singleton.1 hm
 have hh : typeHandle Tryd.prog 32 = .pointer (some ⟨16, 32, none⟩) := by kernel_rfl
 rw [hh] at e5
 have := World.var?_cell et16 e5 0
 simpa [HandleP] using this
theorem parts16 {W : World} (h : laidMetH Tryd.prog laid16 W) : laidMet Tryd.prog (sentData "*errors.errorString" names15) W ∧ handlesMet Tryd.prog [("errors.errorType", Rows.laid_errors_errorType)] W := h
set_option maxRecDepth 20000 in
theorem sents16 {W : World} (h : laidMetH Tryd.prog laid16 W) : (∃ ad, SentsK ad W) ∧ HandleP W := by
 obtain ⟨h1, h2⟩ := parts16 h
 refine ⟨?_, handle16 h2⟩
 obtain ⟨az, hl, hx, hnd⟩ := sents_of_laid Tryd.underlying32 es_row Tryd.underlying114 Tryd.underlying136 rfl rfl Tryd.underlying9 (by kernel_rfl) (by kernel_rfl) h1 (by
  intro x hx
  simp only [names15, List.mem_cons, List.not_mem_nil, or_false] at hx
  rcases hx with rfl | rfl | rfl | rfl | rfl | rfl | rfl | rfl | rfl | rfl | rfl | rfl | rfl | rfl | rfl <;> exact ⟨by kernel_rfl, by kernel_rfl⟩)
 match az, hl with
 | [a1, a2, a3, a4, a5, a6, a7, a8, a9, a10, a11, a12, a13, a14, a15], _ =>
  have hg : ∀ i : Nat, i < 15 → ∃ a, [a1, a2, a3, a4, a5, a6, a7, a8, a9, a10, a11, a12, a13, a14, a15][i]? = some a := fun i hi => ⟨_, List.getElem?_eq_getElem (by simpa using hi)⟩
  refine ⟨fun k => ([a1, a2, a3, a4, a5, a6, a7, a8, a9, a10, a11, a12, a13, a14, a15][(k - 1).toNat]?).getD a1, ⟨by simpa using (hx 0 _ a1 rfl rfl).1, by simpa using (hx 1 _ a2 rfl rfl).1, by simpa using (hx 2 _ a3 rfl rfl).1, by simpa using (hx 3 _ a4 rfl rfl).1, by simpa using (hx 4 _ a5 rfl rfl).1, by simpa using (hx 5 _ a6 rfl rfl).1, by simpa using (hx 6 _ a7 rfl rfl).1, by simpa using (hx 7 _ a8 rfl rfl).1, by simpa using (hx 8 _ a9 rfl rfl).1, by simpa using (hx 9 _ a10 rfl rfl).1, by simpa using (hx 10 _ a11 rfl rfl).1, by simpa using (hx 11 _ a12 rfl rfl).1, by simpa using (hx 12 _ a13 rfl rfl).1, by simpa using (hx 13 _ a14 rfl rfl).1, by simpa using (hx 14 _ a15 rfl rfl).1⟩, ?_, ?_⟩
  · intro k h1 h2
    obtain ⟨a, ha⟩ := hg (k - 1).toNat (by omega)
    rw [ha]
    have hn : (k - 1).toNat < names15.length := by show (k - 1).toNat < 15; omega
    exact (hx (k - 1).toNat _ a (List.getElem?_eq_getElem hn) ha).2
  · intro j k h1 h2 h3 h4 hne
    obtain ⟨a, ha⟩ := hg (j - 1).toNat (by omega)
    obtain ⟨b, hb⟩ := hg (k - 1).toNat (by omega)
    rw [ha, hb]
    intro e
    have e' : a = b := e
    subst e'
    have hi1 : (j - 1).toNat < [a1, a2, a3, a4, a5, a6, a7, a8, a9, a10, a11, a12, a13, a14, a15].length := by show _ < 15; omega
    have := (List.getElem?_inj hi1 hnd).1 (ha.trans hb.symm)
    omega

noncomputable def low16 : Nat := (World.holding Tryd.prog default ⟨#[], #[], []⟩).heap.size
noncomputable def laidWorld16 (os : Os) : World :=
 let w0 := World.holding Tryd.prog os ⟨#[.cells #[.string ⟨#[100, 111, 118, 101, 116, 97, 105, 108, 58, 32, 97, 114, 103, 117, 109, 101, 110, 116]⟩] 136, .cells #[.string ⟨#[100, 111, 118, 101, 116, 97, 105, 108, 58, 32, 115, 121, 110, 116, 97, 120]⟩] 136, .cells #[.string ⟨#[100, 111, 118, 101, 116, 97, 105, 108, 58, 32, 98, 111, 117, 110, 100, 115]⟩] 136, .cells #[.string ⟨#[100, 111, 118, 101, 116, 97, 105, 108, 58, 32, 110, 111, 116, 32, 97, 110, 32, 111, 112, 101, 114, 97, 116, 111, 114, 32, 103, 114, 97, 109, 109, 97, 114]⟩] 136, .cells #[.string ⟨#[100, 111, 118, 101, 116, 97, 105, 108, 58, 32, 116, 119, 111, 32, 114, 101, 108, 97, 116, 105, 111, 110, 115]⟩] 136, .cells #[.string ⟨#[100, 111, 118, 101, 116, 97, 105, 108, 58, 32, 116, 111, 111, 32, 98, 105, 103]⟩] 136, .cells #[.string ⟨#[100, 111, 118, 101, 116, 97, 105, 108, 58, 32, 114, 101, 102, 117, 115, 101, 100]⟩] 136, .cells #[.string ⟨#[100, 111, 118, 101, 116, 97, 105, 108, 58, 32, 99, 117, 116]⟩] 136, .cells #[.string ⟨#[100, 111, 118, 101, 116, 97, 105, 108, 58, 32, 112, 108, 97, 110]⟩] 136, .cells #[.string ⟨#[100, 111, 118, 101, 116, 97, 105, 108, 58, 32, 110, 97, 109, 101]⟩] 136, .cells #[.string ⟨#[100, 111, 118, 101, 116, 97, 105, 108, 58, 32, 116, 114, 101, 101]⟩] 136, .cells #[.string ⟨#[100, 111, 118, 101, 116, 97, 105, 108, 58, 32, 108, 111, 110, 103]⟩] 136, .cells #[.string ⟨#[100, 111, 118, 101, 116, 97, 105, 108, 58, 32, 102, 111, 114, 109]⟩] 136, .cells #[.string ⟨#[100, 111, 118, 101, 116, 97, 105, 108, 58, 32, 115, 117, 109]⟩] 136, .cells #[.string ⟨#[100, 111, 118, 101, 116, 97, 105, 108, 58, 32, 110, 111, 110, 101]⟩] 136], #[], []⟩
 let put (h : Array Obj) (g : Nat) (cs : Array Value) : Array Obj := h.modify g fun
  | .cells _ t frozen => .cells cs t frozen
  | o => o
 { w0 with heap := put (put (put (put (put (put (put (put (put (put (put (put (put (put (put (put w0.heap 15 #[.iface 97 (.agg #[.pointer (some ⟨16, 32, none⟩)])]) 1 #[.iface 114 (.pointer (some ⟨low16 + 0, 0, none⟩))]) 2 #[.iface 114 (.pointer (some ⟨low16 + 1, 0, none⟩))]) 3 #[.iface 114 (.pointer (some ⟨low16 + 2, 0, none⟩))]) 0 #[.iface 114 (.pointer (some ⟨low16 + 3, 0, none⟩))]) 4 #[.iface 114 (.pointer (some ⟨low16 + 4, 0, none⟩))]) 5 #[.iface 114 (.pointer (some ⟨low16 + 5, 0, none⟩))]) 6 #[.iface 114 (.pointer (some ⟨low16 + 6, 0, none⟩))]) 7 #[.iface 114 (.pointer (some ⟨low16 + 7, 0, none⟩))]) 8 #[.iface 114 (.pointer (some ⟨low16 + 8, 0, none⟩))]) 9 #[.iface 114 (.pointer (some ⟨low16 + 9, 0, none⟩))]) 10 #[.iface 114 (.pointer (some ⟨low16 + 10, 0, none⟩))]) 11 #[.iface 114 (.pointer (some ⟨low16 + 11, 0, none⟩))]) 12 #[.iface 114 (.pointer (some ⟨low16 + 12, 0, none⟩))]) 13 #[.iface 114 (.pointer (some ⟨low16 + 13, 0, none⟩))]) 14 #[.iface 114 (.pointer (some ⟨low16 + 14, 0, none⟩))] }
set_option maxRecDepth 100000 in
theorem laid_met16 (os : Os) (args : Array Value) : laidMetH Tryd.prog laid16 ((laidWorld16 os).forCall (fun _ _ => 0) ⟨#[], args, []⟩).memory :=
 laidMetH_of_parts (laidMet_of_run' 20 (by kernel_rfl) (by kernel_rfl)) (by kernel_rfl)
end Go.Proofs.YtaeaookonhaliaaDoor.B
/- gram.rule and what it calls. -/
namespace Go.Proofs.YtaeaookonhaliaaDoor.B
open Go.RowKit YtaeaookonhaliaaDoorW.PrintWords YtaeaookonhaliaaDoorW.PrintLast YtaeaookonhaliaaDoorW.PrintMore

def outS (t n : Nat) (s : Int) : Bool := decide ((t : Int) ≤ s) || decide (s < -(n : Int))

set_option maxHeartbeats 1000000 in
set_option maxRecDepth 100000 in
theorem OutS_calls (s : Int) (b t n ct cn : Nat) (At An : Option Addr) (w : World) (ht : t ≤ 60) (hn : n ≤ 60) (h0 : w.cell? ⟨b, 0, none⟩ = some (.slice At t ct)) (h1 : w.cell? ⟨b, 1, none⟩ = some (.slice An n cn)) :
 Calls Tryd.prog 54 #[.int .i64 s, .pointer (some ⟨b, 0, none⟩)] w fun e w' => e = .returned (.bool (outS t n s)) ∧ Below w.heap.size w w' := by
 by_cases c : (t : Int) ≤ s
 · have hc : decide ((t : Int) ≤ s) = true := decide_eq_true c
   have hq : outS t n s = true := by simp [outS, c]
   rw [hq]
   clear hq c
   go_enter Tryd.func54, Tryd.ntmps54
   go_wp2_with fail
   go_ret
   exact ⟨rfl, Below.refl _ w⟩
 · have hc : decide ((t : Int) ≤ s) = false := decide_eq_false c
   have hq : outS t n s = decide (s < -(n : Int)) := by simp [outS, c]
   rw [hq]
   generalize hz : decide (s < -(n : Int)) = z
   clear hq c
   go_enter Tryd.func54, Tryd.ntmps54
   go_wp2_with fail
   go_ret
   exact ⟨rfl, Below.refl _ w⟩

set_option maxHeartbeats 1000000 in
set_option maxRecDepth 100000 in
theorem IdxS_calls (A : Option Addr) (l : List Int) (c : Nat) (b t n ct cn : Nat) (At An : Option Addr) (w : World) (ht : t ≤ 60) (hn : n ≤ 60) (h0 : w.cell? ⟨b, 0, none⟩ = some (.slice At t ct)) (h1 : w.cell? ⟨b, 1, none⟩ = some (.slice An n cn))
 (hr : Kd.C (Kd.int .i64) w A l.length l) (hc : l.length ≤ c) :
 Calls Tryd.prog 58 #[.slice A l.length c, .func (.func 54) #[] #[.pointer (some ⟨b, 0, none⟩)]] w fun e w' => (∃ v : Int, e = .returned (.int .i64 v) ∧ decide (0 ≤ v) = l.any (outS t n)) ∧ Below w.heap.size w w' := by
 have hm := C_max hr
 have hcall : ∀ (W : World), Below w.heap.size w W → ∀ s, Calls Tryd.prog 54 #[.int .i64 s, .pointer (some ⟨b, 0, none⟩)] W fun e w' => e = .returned (.bool (outS t n s)) ∧ Below w.heap.size w w' := by
  intro W hW s
  refine (OutS_calls s b t n ct cn At An W ht hn ((hW.cell (World.block_lt_of_cell? w _ h0)).trans h0) ((hW.cell (World.block_lt_of_cell? w _ h1)).trans h1)).mono ?_
  rintro e w' ⟨he, hb⟩
  exact ⟨he, hW.trans (hb.mono hW.size)⟩
 have HR := Aside0.mk hr
 have HC := Aside0.mk hcall
 clear hr hcall h0 h1
 go_enter Tryd.func58, Tryd.ntmps58
 go_wp2_with fail
 go_loopw [5, 8] (fun _ i wr => ∃ k : Nat, k ≤ l.length ∧ i = .int .i64 k ∧ Hid ((l.take k).any (outS t n) = false) ∧ Aside0 (Below w.heap.size w wr)) (fun _ i _ => l.length - (intOf i).toNat)
 case atStart => exact ⟨0, Nat.zero_le _, rfl, Lib.hid (by simp), ⟨Below.refl _ w⟩⟩
 case round =>
  obtain ⟨k, hk, rfl, hno, hbe⟩ := hrel
  by_cases hlt : k < l.length
  · obtain ⟨ad, rfl, hx⟩ := Kd.at_int (Kd.C_below HR.out hbe.out) (k : Int) (by omega) (by omega)
    have hw := HC.out wr hbe.out (rd l (k : Int))
    have g0 : rd l (k : Int) = l[k] := by simp [rd, List.getD_eq_getElem?_getD, List.getElem?_eq_getElem hlt]
    have hn1 : (l.take (k + 1)).any (outS t n) = ((l.take k).any (outS t n) || outS t n l[k]) := by rw [List.take_succ_eq_append_getElem hlt, List.any_append]; simp
    have ha : outS t n l[k] = true → l.any (outS t n) = true := fun h => List.any_eq_true.2 ⟨l[k], List.getElem_mem hlt, h⟩
    rw [Int.toNat_natCast] at hx
    rw [g0] at hx hw
    generalize l[k] = x at hx hw hn1 ha
    cases hq : outS t n x with
    | true =>
     rw [hq] at hw
     have HA := Lib.hid (ha hq)
     have HW := Aside0.mk hw
     clear hw hn1 ha g0 hq
     go_wp2_with (go_at_call 54; (with_reducible refine HW.out.mono ?_); rintro e w' ⟨rfl, hb'⟩)
     go_ret
     exact ⟨⟨(k : Int), rfl, by rw [HA.out]; simp⟩, hb'⟩
    | false =>
     rw [hq] at hw
     have HN := Lib.hid hn1
     have HQ := Lib.hid hq
     have HW := Aside0.mk hw
     clear hw hn1 ha g0 hq
     go_wp2_with (go_at_call 54; (with_reducible refine HW.out.mono ?_); rintro e w' ⟨rfl, hb'⟩)
     go_roundw
     case measure => simp [intOf]; omega
     case rel => exact ⟨k + 1, by omega, rfl, Lib.hid (by rw [HN.out, hno.out, HQ.out]; rfl), ⟨hb'⟩⟩
  · have hkn : k = l.length := by omega
    subst hkn
    have HNO := Lib.hid (show l.any (outS t n) = false by have := hno.out; rwa [List.take_length] at this)
    clear hno
    go_wp2_with fail
    go_ret
    exact ⟨⟨-1, rfl, by rw [HNO.out]; rfl⟩, hbe.out⟩

set_option maxHeartbeats 1000000 in
set_option maxRecDepth 100000 in
theorem ContS_calls (A : Option Addr) (l : List Int) (c : Nat) (b t n ct cn : Nat) (At An : Option Addr) (w : World) (ht : t ≤ 60) (hn : n ≤ 60) (h0 : w.cell? ⟨b, 0, none⟩ = some (.slice At t ct)) (h1 : w.cell? ⟨b, 1, none⟩ = some (.slice An n cn))
 (hr : Kd.C (Kd.int .i64) w A l.length l) (hc : l.length ≤ c) :
 Calls Tryd.prog 53 #[.slice A l.length c, .func (.func 54) #[] #[.pointer (some ⟨b, 0, none⟩)]] w fun e w' => e = .returned (.bool (l.any (outS t n))) ∧ Below w.heap.size w w' := by
 have HW := Aside0.mk (IdxS_calls A l c b t n ct cn At An w ht hn h0 h1 hr hc)
 clear h0 h1 hr
 go_enter Tryd.func53, Tryd.ntmps53
 go_wp2_with (go_at_call 58; (with_reducible refine HW.out.mono ?_); rintro e w' ⟨⟨v, rfl, hv⟩, hb'⟩; have HV := Lib.hid hv; clear hv)
 go_ret
 exact ⟨by show Ending.returned (.bool (decide (0 ≤ v))) = _; rw [HV.out], hb'⟩
end Go.Proofs.YtaeaookonhaliaaDoor.B
/- gram.Check at a grammar that may be: it answers nil. -/
namespace Go.Proofs.YtaeaookonhaliaaDoor.B
open Go.RowKit YtaeaookonhaliaaDoorW.PrintWords YtaeaookonhaliaaDoorW.PrintLast YtaeaookonhaliaaDoorW.PrintMore

def okR (t n : Nat) (x : S55) : Bool := decide (x.f1.length ≤ 32) && decide (0 ≤ x.f0) && decide (x.f0 < n) && !x.f1.any (outS t n)

end Go.Proofs.YtaeaookonhaliaaDoor.B
/- gram.Check: what it answers, whatever the grammar. -/
namespace Go.Proofs.YtaeaookonhaliaaDoor.B
open Go.RowKit YtaeaookonhaliaaDoorW.PrintWords YtaeaookonhaliaaDoorW.PrintLast YtaeaookonhaliaaDoorW.PrintMore

def Sents (ad : Int → Addr) (w : World) : Prop := w.cell? ⟨3, 0, none⟩ = some (.iface 114 (.pointer (some (ad 3)))) ∧ w.cell? ⟨9, 0, none⟩ = some (.iface 114 (.pointer (some (ad 10)))) ∧ w.cell? ⟨1, 0, none⟩ = some (.iface 114 (.pointer (some (ad 1))))
theorem Sents.below {ad : Int → Addr} {w w' : World} (h : Sents ad w) (hb : Below w.heap.size w w') : Sents ad w' :=
 ⟨(hb.cell (World.block_lt_of_cell? w _ h.1)).trans h.1, (hb.cell (World.block_lt_of_cell? w _ h.2.1)).trans h.2.1, (hb.cell (World.block_lt_of_cell? w _ h.2.2)).trans h.2.2⟩
def checkR (t n : Nat) (x : S55) : Int := if 32 < x.f1.length then 3 else if x.f0 < 0 ∨ (n : Int) ≤ x.f0 ∨ x.f1.any (outS t n) = true then 1 else 0
def chkRs (t n : Nat) : List S55 → Nat → Int × Int
 | [], _ => (0, -1)
 | x :: l, j => if checkR t n x = 0 then chkRs t n l (j + 1) else (checkR t n x, (j : Int))
theorem chkRs_drop (t n : Nat) (R : List S55) (j : Nat) (h : j < R.length) : chkRs t n (R.drop j) j = if checkR t n R[j] = 0 then chkRs t n (R.drop (j + 1)) (j + 1) else (checkR t n R[j], (j : Int)) := by
 rw [List.drop_eq_getElem_cons h, chkRs]
def chk (b0 b1 : Bool) (l0 l1 : Nat) (a2 : Int) (R : List S55) : Int × Int :=
 if 60 < l0 + l1 ∨ 120 < R.length then (3, -1) else if (b0 && b1) = false then (10, -1) else if a2 < 0 ∨ (l1 : Int) ≤ a2 then (1, -1) else chkRs l0 l1 R 0
theorem checkR_cases (t n : Nat) (x : S55) : checkR t n x = 0 ∧ okR t n x = true ∨ (checkR t n x = 3 ∨ checkR t n x = 1) ∧ okR t n x = false := by
 unfold checkR okR
 by_cases c1 : 32 < x.f1.length
 · rw [if_pos c1]; right; simp; omega
 · rw [if_neg c1]
   by_cases c2 : x.f0 < 0 ∨ (n : Int) ≤ x.f0 ∨ x.f1.any (outS t n) = true
   · rw [if_pos c2]; right
     refine ⟨.inr rfl, ?_⟩
     rcases c2 with c | c | c
     · simp [show ¬ (0 ≤ x.f0) from by omega]
     · simp [show ¬ (x.f0 < (n : Int)) from by omega]
     · simp [c]
   · rw [if_neg c2]; left
     simp only [not_or, Bool.not_eq_true] at c2
     refine ⟨rfl, ?_⟩
     simp [c2.2.2, show x.f1.length ≤ 32 from by omega, show 0 ≤ x.f0 from by omega, show x.f0 < (n : Int) from by omega]
def ErrV (ad : Int → Addr) (w : World) (v : Value) (p : Int × Int) : Prop :=
 (p.1 = 0 ∧ p.2 = -1 ∧ v = .nilIface) ∨ ((p.1 = 3 ∨ p.1 = 10 ∨ p.1 = 1) ∧ p.2 = -1 ∧ v = .iface 114 (.pointer (some (ad p.1)))) ∨
 ((p.1 = 3 ∨ p.1 = 1) ∧ 0 ≤ p.2 ∧ p.2 < 120 ∧ ∃ b, v = .iface 66 (.pointer (some ⟨b, 0, none⟩)) ∧ w.heap[b]? = some (.cells #[.int .i64 p.2, .iface 114 (.pointer (some (ad p.1)))] 68 (0, 0)))
def CheckPost (ad : Int → Addr) (w : World) (p : Int × Int) (e : Ending) (w' : World) : Prop := (∃ v, e = .returned v ∧ ErrV ad w' v p) ∧ Below w.heap.size w w'
theorem ErrV.nil {ad : Int → Addr} {w : World} {v : Value} {p : Int × Int} (h : ErrV ad w v p) (h0 : p.1 = 0) : v = .nilIface := by
 rcases h with h | h | h
 · exact h.2.2
 · rcases h.1 with h | h | h <;> omega
 · rcases h.1 with h | h <;> omega
theorem ErrV.some {ad : Int → Addr} {w : World} {v : Value} {p : Int × Int} (h : ErrV ad w v p) (h0 : p.1 ≠ 0) : ∃ t u, v = .iface t u := by
 rcases h with h | h | h
 · exact absurd h.1 h0
 · exact ⟨_, _, h.2.2⟩
 · obtain ⟨_, _, _, b, h, _⟩ := h; exact ⟨_, _, h⟩
theorem ErrV.below {ad : Int → Addr} {w w' : World} {v : Value} {p : Int × Int} (h : ErrV ad w v p) (hb : Below w.heap.size w w') : ErrV ad w' v p := by
 rcases h with h | h | ⟨h1, h2, h3, b, hv, hx⟩
 · exact .inl h
 · exact .inr (.inl h)
 · exact .inr (.inr ⟨h1, h2, h3, b, hv, Box.below (W := w) (W' := w') hx hb⟩)
def ruleV (ad : Int → Addr) (c : Int) : Value := if c = 0 then .nilIface else .iface 114 (.pointer (some (ad c)))

set_option maxHeartbeats 1000000 in
set_option maxRecDepth 100000 in
theorem Rule_full (ad : Int → Addr) (A0 : Option Addr) (c0 t : Nat) (A1 : Option Addr) (c1 n : Nat) (a2 : Int) (v3 : Value) (x : S55) (A : Option Addr) (c : Nat) (w : World) (hg : Sents ad w) (ht : t ≤ 60) (hn : n ≤ 60) (hr : Kd.C (Kd.int .i64) w A x.f1.length x.f1) (hc : x.f1.length ≤ c) :
 Calls Tryd.prog 42 #[.agg #[.slice A0 t c0, .slice A1 n c1, .int .i64 a2, v3], .agg #[.int .i64 x.f0, .slice A x.f1.length c]] w fun e w' => e = .returned (ruleV ad (checkR t n x)) ∧ Below w.heap.size w w' := by
 obtain ⟨x0, x1⟩ := x
 dsimp only at hr hc ⊢
 have hB1 := (Box.new w #[.slice A0 t c0, .slice A1 n c1, .int .i64 a2, v3] 29).alloc (.cells #[.int .i64 x0, .slice A x1.length c] 55)
 have hb : Below w.heap.size w ((w.alloc (.cells #[.slice A0 t c0, .slice A1 n c1, .int .i64 a2, v3] 29)).alloc (.cells #[.int .i64 x0, .slice A x1.length c] 55)) := ((Below.refl _ w).alloc (Nat.le_refl _) _).alloc (by simp) _
 have hcall := ContS_calls A x1 c w.heap.size t n c0 c1 A0 A1 _ ht hn (hB1.cell 0 _ rfl) (hB1.cell 1 _ rfl) (Kd.C_below hr hb) hc
 obtain ⟨h0, h1, h2⟩ := hg.below hb
 have HB := Aside0.mk hb
 have H0 : ∀ w', Below ((w.alloc (.cells #[.slice A0 t c0, .slice A1 n c1, .int .i64 a2, v3] 29)).alloc (.cells #[.int .i64 x0, .slice A x1.length c] 55)).heap.size ((w.alloc (.cells #[.slice A0 t c0, .slice A1 n c1, .int .i64 a2, v3] 29)).alloc (.cells #[.int .i64 x0, .slice A x1.length c] 55)) w' → w'.cell? ⟨1, 0, none⟩ = some (.iface 114 (.pointer (some (ad 1)))) := fun w' hb' => (hb'.cell (World.block_lt_of_cell? _ _ h2)).trans h2
 by_cases k1 : x1.length ≤ 32
 · have b1 : decide ((32 : Int) < x1.length) = false := decide_eq_false (by omega)
   have b1' : decide (32 < x1.length) = false := decide_eq_false (by omega)
   by_cases k2 : x0 < 0
   · have b2 : decide (x0 < 0) = true := decide_eq_true k2
     have HE := Lib.hid (show ruleV ad (checkR t n ⟨x0, x1⟩) = .iface 114 (.pointer (some (ad 1))) by simp [ruleV, checkR, show ¬ 32 < x1.length from by omega, k2])
     clear hr hcall hB1 hb H0
     go_enter Tryd.func42, Tryd.ntmps42
     go_wp2_with fail
     go_ret
     exact ⟨by rw [HE.out]; rfl, HB.out⟩
   · have b2 : decide (x0 < 0) = false := decide_eq_false k2
     by_cases k3 : (n : Int) ≤ x0
     · have b3 : decide ((n : Int) ≤ x0) = true := decide_eq_true k3
       have HE := Lib.hid (show ruleV ad (checkR t n ⟨x0, x1⟩) = .iface 114 (.pointer (some (ad 1))) by simp [ruleV, checkR, show ¬ 32 < x1.length from by omega, k3])
       clear hr hcall hB1 hb H0
       go_enter Tryd.func42, Tryd.ntmps42
       go_wp2_with fail
       go_ret
       exact ⟨by rw [HE.out]; rfl, HB.out⟩
     · have b3 : decide ((n : Int) ≤ x0) = false := decide_eq_false k3
       cases hany : x1.any (outS t n) with
       | true =>
        rw [hany] at hcall
        have HE := Lib.hid (show ruleV ad (checkR t n ⟨x0, x1⟩) = .iface 114 (.pointer (some (ad 1))) by simp [ruleV, checkR, hany, show ¬ 32 < x1.length from by omega])
        have HC := Aside0.mk hcall
        have HH := Aside0.mk H0
        clear hr hcall hB1 hb hany H0
        go_enter Tryd.func42, Tryd.ntmps42
        go_wp2_with (go_at_call 53; (with_reducible refine HC.out.mono ?_); rintro e w' ⟨rfl, hb'⟩; have q2 := HH.out _ hb')
        go_ret
        exact ⟨by rw [HE.out]; rfl, HB.out.trans (hb'.mono HB.out.size)⟩
       | false =>
        rw [hany] at hcall
        have HE := Lib.hid (show ruleV ad (checkR t n ⟨x0, x1⟩) = .nilIface by simp [ruleV, checkR, hany, show ¬ 32 < x1.length from by omega, k2, k3])
        have HC := Aside0.mk hcall
        clear hr hcall hB1 hb hany H0
        go_enter Tryd.func42, Tryd.ntmps42
        go_wp2_with (go_at_call 53; (with_reducible refine HC.out.mono ?_); rintro e w' ⟨rfl, hb'⟩)
        go_ret
        exact ⟨by rw [HE.out]; rfl, HB.out.trans (hb'.mono HB.out.size)⟩
 · have b1 : decide ((32 : Int) < x1.length) = true := decide_eq_true (by omega)
   have b1' : decide (32 < x1.length) = true := decide_eq_true (by omega)
   have HE := Lib.hid (show ruleV ad (checkR t n ⟨x0, x1⟩) = .iface 114 (.pointer (some (ad 3))) by simp [ruleV, checkR, show 32 < x1.length from by omega])
   clear hr hcall hB1 hb H0
   go_enter Tryd.func42, Tryd.ntmps42
   go_wp2_with fail
   go_ret
   exact ⟨by rw [HE.out]; rfl, HB.out⟩
set_option maxHeartbeats 1500000 in
set_option maxRecDepth 100000 in
theorem Check_full (ad : Int → Addr) (k : Nat) (A0 : Option Addr) (c0 : Nat) (l0 : List ByteArray) (A1 : Option Addr) (c1 : Nat) (l1 : List ByteArray) (a2 : Int) (A3 : Option Addr) (c3 : Nat) (l3 : List S55) (b0 b1 : Bool) (w : World) (hG : Sents ad w) (hr0 : Kd.C Kd.string w A0 l0.length l0) (hc0 : l0.length ≤ c0) (hr1 : Kd.C Kd.string w A1 l1.length l1) (hc1 : l1.length ≤ c1) (hr3 : Kd.C k55 w A3 l3.length l3) (hc3 : l3.length ≤ c3)
 (hn0 : gram_names.f k l0 = some b0) (hn1 : gram_names.f k l1 = some b1) :
 Calls Tryd.prog 26 #[.agg #[.slice A0 l0.length c0, .slice A1 l1.length c1, .int .i64 a2, .slice A3 l3.length c3]] w (CheckPost ad w (chk b0 b1 l0.length l1.length a2 l3)) := by
 obtain ⟨x0, x1, x2⟩ := id hG
 obtain ⟨Tw, hT⟩ : ∃ Tw : World → Prop, ∀ W, Tw W ↔ (Below w.heap.size w W ∧ Box w.heap.size #[.slice A0 l0.length c0, .slice A1 l1.length c1, .int .i64 a2, .slice A3 l3.length c3] 29 W) := ⟨_, fun _ => Iff.rfl⟩
 have start : Tw (w.alloc (.cells #[.slice A0 l0.length c0, .slice A1 l1.length c1, .int .i64 a2, .slice A3 l3.length c3] 29)) := (hT _).2 ⟨(Below.refl _ w).alloc (Nat.le_refl _) _, Box.new w _ _⟩
 have cells : ∀ W, Tw W → W.cell? ⟨w.heap.size, 0, none⟩ = some (.slice A0 l0.length c0) ∧ W.cell? ⟨w.heap.size, 1, none⟩ = some (.slice A1 l1.length c1) ∧ W.cell? ⟨w.heap.size, 2, none⟩ = some (.int .i64 a2) ∧ W.cell? ⟨w.heap.size, 3, none⟩ = some (.slice A3 l3.length c3) ∧ W.cell? ⟨3, 0, none⟩ = some (.iface 114 (.pointer (some (ad 3)))) ∧ W.cell? ⟨9, 0, none⟩ = some (.iface 114 (.pointer (some (ad 10)))) ∧ W.cell? ⟨1, 0, none⟩ = some (.iface 114 (.pointer (some (ad 1)))) := by
  intro W hW
  have hb := ((hT W).1 hW).1
  have h3' := ((hT W).1 hW).2
  exact ⟨h3'.cell 0 _ rfl, h3'.cell 1 _ rfl, h3'.cell 2 _ rfl, h3'.cell 3 _ rfl, (hb.cell (World.block_lt_of_cell? w _ x0)).trans x0, (hb.cell (World.block_lt_of_cell? w _ x1)).trans x1, (hb.cell (World.block_lt_of_cell? w _ x2)).trans x2⟩
 have more : ∀ W W', Tw W → Below W.heap.size W W' → Tw W' := fun W W' h hb => (hT W').2 ⟨((hT W).1 h).1.trans (hb.mono ((hT W).1 h).1.size), ((hT W).1 h).2.below hb⟩
 have last : ∀ W, Tw W → Below w.heap.size w W := fun W h => ((hT W).1 h).1
 clear hT
 have key0 : ∀ W, Tw W → Calls Tryd.prog 41 #[.slice A0 l0.length c0] W fun e W => e = .returned (.bool b0) ∧ Aside0 (Tw W) ∧ W.cell? ⟨w.heap.size, 0, none⟩ = some (.slice A0 l0.length c0) ∧ W.cell? ⟨w.heap.size, 1, none⟩ = some (.slice A1 l1.length c1) ∧ W.cell? ⟨w.heap.size, 2, none⟩ = some (.int .i64 a2) ∧ W.cell? ⟨w.heap.size, 3, none⟩ = some (.slice A3 l3.length c3) ∧ W.cell? ⟨3, 0, none⟩ = some (.iface 114 (.pointer (some (ad 3)))) ∧ W.cell? ⟨9, 0, none⟩ = some (.iface 114 (.pointer (some (ad 10)))) ∧ W.cell? ⟨1, 0, none⟩ = some (.iface 114 (.pointer (some (ad 1)))) := by
  intro W hW
  refine (gram_names.calls k A0 c0 l0 b0 W (Kd.C_below hr0 (last W hW)) hc0 hn0).mono ?_
  rintro e w' ⟨he, hd⟩
  have := more W w' hW hd.below
  exact ⟨he, ⟨this⟩, cells _ this⟩
 have key1 : ∀ W, Tw W → Calls Tryd.prog 41 #[.slice A1 l1.length c1] W fun e W => e = .returned (.bool b1) ∧ Aside0 (Tw W) ∧ W.cell? ⟨w.heap.size, 0, none⟩ = some (.slice A0 l0.length c0) ∧ W.cell? ⟨w.heap.size, 1, none⟩ = some (.slice A1 l1.length c1) ∧ W.cell? ⟨w.heap.size, 2, none⟩ = some (.int .i64 a2) ∧ W.cell? ⟨w.heap.size, 3, none⟩ = some (.slice A3 l3.length c3) ∧ W.cell? ⟨3, 0, none⟩ = some (.iface 114 (.pointer (some (ad 3)))) ∧ W.cell? ⟨9, 0, none⟩ = some (.iface 114 (.pointer (some (ad 10)))) ∧ W.cell? ⟨1, 0, none⟩ = some (.iface 114 (.pointer (some (ad 1)))) := by
  intro W hW
  refine (gram_names.calls k A1 c1 l1 b1 W (Kd.C_below hr1 (last W hW)) hc1 hn1).mono ?_
  rintro e w' ⟨he, hd⟩
  have := more W w' hW hd.below
  exact ⟨he, ⟨this⟩, cells _ this⟩
 obtain ⟨s0, s1, s2, s3, s4, s5, s6⟩ := cells _ start
 have HR3 := Aside0.mk hr3
 have ST := Aside0.mk start
 have CE := Aside0.mk cells
 have MO := Aside0.mk more
 have LA := Aside0.mk last
 clear hr0 hr1 hr3 start cells more last hn0 hn1
 by_cases d1 : l0.length ≤ 60
 rotate_left
 · have e1 : decide ((60 : Int) < l0.length) = true := decide_eq_true (by omega)
   have e1' : decide (60 < l0.length) = true := decide_eq_true (by omega)
   clear key0 key1
   have HE := Lib.hid (show chk b0 b1 l0.length l1.length a2 l3 = (3, -1) by simp [chk, show 60 < l0.length + l1.length from by omega])
   go_enter Tryd.func26, Tryd.ntmps26
   go_wp2_with fail
   go_ret
   exact ⟨⟨_, rfl, by rw [HE.out]; exact .inr (.inl ⟨by simp, rfl, rfl⟩)⟩, LA.out _ ST.out⟩
 have e1 : decide ((60 : Int) < l0.length) = false := decide_eq_false (by omega)
 have e1' : decide (60 < l0.length) = false := decide_eq_false (by omega)
 by_cases d2 : l0.length + l1.length ≤ 60
 rotate_left
 · have e2 : decide ((60 : Int) - l0.length < l1.length) = true := decide_eq_true (by omega)
   clear key0 key1
   have HE := Lib.hid (show chk b0 b1 l0.length l1.length a2 l3 = (3, -1) by simp [chk, show 60 < l0.length + l1.length from by omega])
   go_enter Tryd.func26, Tryd.ntmps26
   go_wp2_with fail
   go_ret
   exact ⟨⟨_, rfl, by rw [HE.out]; exact .inr (.inl ⟨by simp, rfl, rfl⟩)⟩, LA.out _ ST.out⟩
 have e2 : decide ((60 : Int) - l0.length < l1.length) = false := decide_eq_false (by omega)
 by_cases d3 : l3.length ≤ 120
 rotate_left
 · have e3 : decide ((120 : Int) < l3.length) = true := decide_eq_true (by omega)
   have e3' : decide (120 < l3.length) = true := decide_eq_true (by omega)
   clear key0 key1
   have HE := Lib.hid (show chk b0 b1 l0.length l1.length a2 l3 = (3, -1) by simp [chk, show 120 < l3.length from by omega])
   go_enter Tryd.func26, Tryd.ntmps26
   go_wp2_with fail
   go_ret
   exact ⟨⟨_, rfl, by rw [HE.out]; exact .inr (.inl ⟨by simp, rfl, rfl⟩)⟩, LA.out _ ST.out⟩
 have e3 : decide ((120 : Int) < l3.length) = false := decide_eq_false (by omega)
 have e3' : decide (120 < l3.length) = false := decide_eq_false (by omega)
 have K0 := Aside0.mk key0
 have K1 := Aside0.mk key1
 clear key0 key1
 cases b0
 · skip
   have HE := Lib.hid (show chk false b1 l0.length l1.length a2 l3 = (10, -1) by simp [chk, show ¬ 60 < l0.length + l1.length from by omega, show ¬ 120 < l3.length from by omega])
   go_enter Tryd.func26, Tryd.ntmps26
   go_wp2_with (first | (go_at_call 41; (with_reducible refine (K0.out _ ST.out).mono ?_); rintro e w1 ⟨rfl, z1, f0, f1, f2, f3, f4, f5, f6⟩))
   go_ret
   exact ⟨⟨_, rfl, by rw [HE.out]; exact .inr (.inl ⟨by simp, rfl, rfl⟩)⟩, LA.out _ z1.out⟩
 cases b1
 · skip
   have HE := Lib.hid (show chk true false l0.length l1.length a2 l3 = (10, -1) by simp [chk, show ¬ 60 < l0.length + l1.length from by omega, show ¬ 120 < l3.length from by omega])
   go_enter Tryd.func26, Tryd.ntmps26
   go_wp2_with (first | (go_at_call 41; (with_reducible refine (K0.out _ ST.out).mono ?_); rintro e w1 ⟨rfl, z1, f0, f1, f2, f3, f4, f5, f6⟩) | (go_at_call 41; (with_reducible refine (K1.out _ z1.out).mono ?_); rintro e w2 ⟨rfl, z2, g0, g1, g2, g3, g4, g5, g6⟩))
   go_ret
   exact ⟨⟨_, rfl, by rw [HE.out]; exact .inr (.inl ⟨by simp, rfl, rfl⟩)⟩, LA.out _ z2.out⟩
 by_cases d4 : a2 < 0
 · have e4 : decide (a2 < 0) = true := decide_eq_true d4
   have HE := Lib.hid (show chk true true l0.length l1.length a2 l3 = (1, -1) by simp [chk, show ¬ 60 < l0.length + l1.length from by omega, show ¬ 120 < l3.length from by omega, d4])
   go_enter Tryd.func26, Tryd.ntmps26
   go_wp2_with (first | (go_at_call 41; (with_reducible refine (K0.out _ ST.out).mono ?_); rintro e w1 ⟨rfl, z1, f0, f1, f2, f3, f4, f5, f6⟩) | (go_at_call 41; (with_reducible refine (K1.out _ z1.out).mono ?_); rintro e w2 ⟨rfl, z2, g0, g1, g2, g3, g4, g5, g6⟩))
   go_ret
   exact ⟨⟨_, rfl, by rw [HE.out]; exact .inr (.inl ⟨by simp, rfl, rfl⟩)⟩, LA.out _ z2.out⟩
 have e4 : decide (a2 < 0) = false := decide_eq_false d4
 by_cases d5 : (l1.length : Int) ≤ a2
 · have e5 : decide ((l1.length : Int) ≤ a2) = true := decide_eq_true d5
   have HE := Lib.hid (show chk true true l0.length l1.length a2 l3 = (1, -1) by simp [chk, show ¬ 60 < l0.length + l1.length from by omega, show ¬ 120 < l3.length from by omega, d5])
   go_enter Tryd.func26, Tryd.ntmps26
   go_wp2_with (first | (go_at_call 41; (with_reducible refine (K0.out _ ST.out).mono ?_); rintro e w1 ⟨rfl, z1, f0, f1, f2, f3, f4, f5, f6⟩) | (go_at_call 41; (with_reducible refine (K1.out _ z1.out).mono ?_); rintro e w2 ⟨rfl, z2, g0, g1, g2, g3, g4, g5, g6⟩))
   go_ret
   exact ⟨⟨_, rfl, by rw [HE.out]; exact .inr (.inl ⟨by simp, rfl, rfl⟩)⟩, LA.out _ z2.out⟩
 have e5 : decide ((l1.length : Int) ≤ a2) = false := decide_eq_false d5
 have HE := Lib.hid (show chk true true l0.length l1.length a2 l3 = chkRs l0.length l1.length l3 0 by simp [chk, show ¬ 60 < l0.length + l1.length from by omega, show ¬ 120 < l3.length from by omega, d4, d5])
 go_enter Tryd.func26, Tryd.ntmps26
 go_wp2_with (first | (go_at_call 41; (with_reducible refine (K0.out _ ST.out).mono ?_); rintro e w1 ⟨rfl, z1, f0, f1, f2, f3, f4, f5, f6⟩) | (go_at_call 41; (with_reducible refine (K1.out _ z1.out).mono ?_); rintro e w2 ⟨rfl, z2, g0, g1, g2, g3, g4, g5, g6⟩))
 go_loopw [3, 4, 5, 53] (fun _ _ _ i wr => ∃ j : Nat, j ≤ l3.length ∧ i = .int .i64 j ∧ Aside0 (Tw wr) ∧ Hid (chkRs l0.length l1.length (l3.drop j) j = chkRs l0.length l1.length l3 0)) (fun _ _ _ i _ => l3.length - (intOf i).toNat)
 case atStart => exact ⟨0, Nat.zero_le _, rfl, z2, Lib.hid rfl⟩
 case round =>
  obtain ⟨j, hj, rfl, htw, hok⟩ := hrel
  clear f0 f1 f2 f3 f4 f5 f6 g0 g1 g2 g3 g4 g5 g6 s0 s1 s2 s3 s4 s5 s6
  by_cases hlt : j < l3.length
  · obtain ⟨f0, f1, f2, f3, f4, f5, f6⟩ := CE.out wr htw.out
    obtain ⟨ad', A, cc, rfl, h0, h1, h2, h3⟩ := at_T55 (Kd.C_below HR3.out (LA.out wr htw.out)) (j : Int) (by omega) (by omega)
    have q0 : rd_T55 l3 (j : Int) = l3[j] := by simp [rd_T55, List.getD_eq_getElem?_getD, List.getElem?_eq_getElem hlt]
    have hn := chkRs_drop l0.length l1.length l3 j hlt
    rw [Int.toNat_natCast] at h0 h1
    rw [q0] at h0 h1 h2 h3
    generalize l3[j] = x at h0 h1 h2 h3 hn
    have hGr : Sents ad wr := ⟨f4, f5, f6⟩
    have f0a := fun o => Lib.cell?_alloc_some o f0
    have f1a := fun o => Lib.cell?_alloc_some o f1
    have f2a := fun o => Lib.cell?_alloc_some o f2
    have f3a := fun o => Lib.cell?_alloc_some o f3
    have hcall : ∀ W, Below wr.heap.size wr W → Calls Tryd.prog 42 #[.agg #[.slice A0 l0.length c0, .slice A1 l1.length c1, .int .i64 a2, .slice (some ad') l3.length c3], .agg #[.int .i64 x.f0, .slice A x.f1.length cc]] W fun e w' => e = .returned (ruleV ad (checkR l0.length l1.length x)) ∧ Aside0 (Tw w') := by
     intro W hW
     refine (Rule_full ad A0 c0 l0.length A1 c1 l1.length a2 _ x A cc W (hGr.below hW) (by omega) (by omega) (Kd.C_below h3 hW) h2).mono ?_
     rintro e w' ⟨he, hb⟩
     exact ⟨he, ⟨MO.out _ _ (MO.out _ _ htw.out hW) hb⟩⟩
    by_cases hq : checkR l0.length l1.length x = 0
    · rw [if_pos hq] at hn
      rw [hq, show ruleV ad 0 = .nilIface from rfl] at hcall
      have HC := Aside0.mk hcall
      have HN := Lib.hid hn
      clear hcall h3 q0 hq hn hGr
      go_wp2_with (go_at_call 42; (with_reducible refine (HC.out _ ((Below.refl _ wr).alloc (Nat.le_refl _) _)).mono ?_); rintro e w' ⟨rfl, t3⟩)
      go_roundw
      case measure => simp [intOf]; omega
      case rel => exact ⟨j + 1, by omega, rfl, t3, Lib.hid (HN.out.symm.trans hok.out)⟩
    · rw [if_neg hq] at hn
      have hc : checkR l0.length l1.length x = 3 ∨ checkR l0.length l1.length x = 1 := (checkR_cases l0.length l1.length x).elim (fun h => absurd h.1 hq) (fun h => h.1)
      rw [show ruleV ad (checkR l0.length l1.length x) = .iface 114 (.pointer (some (ad (checkR l0.length l1.length x)))) from if_neg hq] at hcall
      generalize checkR l0.length l1.length x = c at hcall hn hc
      have HC := Aside0.mk hcall
      have HN := Lib.hid (hn.symm.trans hok.out)
      have HCC := Aside0.mk hc
      clear hcall h3 q0 hq hn hGr hc
      go_wp2_with (go_at_call 42; (with_reducible refine (HC.out _ ((Below.refl _ wr).alloc (Nat.le_refl _) _)).mono ?_); rintro e w' ⟨rfl, t3⟩)
      go_ret
      exact ⟨⟨_, rfl, by rw [HE.out, ← HN.out]; exact .inr (.inr ⟨HCC.out, by simp, by simp; omega, _, rfl, heap_alloc_new _ _⟩)⟩, (LA.out _ t3.out).alloc (LA.out _ t3.out).size _⟩
  · have hjn : j = l3.length := by omega
    subst hjn
    have HN := Lib.hid (show chkRs l0.length l1.length l3 0 = (0, -1) by have := hok.out; rw [List.drop_length] at this; exact this.symm)
    go_wp2_with fail
    go_ret
    exact ⟨⟨_, rfl, by rw [HE.out, HN.out]; exact .inl ⟨rfl, rfl, rfl⟩⟩, LA.out _ htw.out⟩
theorem chkRs_ok (t n : Nat) : ∀ (R : List S55) (j : Nat), (chkRs t n R j).1 = 0 → ∀ x ∈ R, okR t n x = true
 | [], _, _, x, hx => by cases hx
 | y :: R, j, h, x, hx => by
  unfold chkRs at h
  rcases checkR_cases t n y with ⟨h0, hok⟩ | ⟨h0, _⟩
  · rw [if_pos h0] at h
    rcases List.mem_cons.1 hx with rfl | hx
    · exact hok
    · exact chkRs_ok t n R (j + 1) h x hx
  · rw [if_neg (by rcases h0 with h0 | h0 <;> omega)] at h
    rcases h0 with h0 | h0 <;> (dsimp only at h; omega)
theorem chk_ok {b0 b1 : Bool} {n0 n1 : Nat} {a2 : Int} {R : List S55} (h : (chk b0 b1 n0 n1 a2 R).1 = 0) : n0 + n1 ≤ 60 ∧ R.length ≤ 120 ∧ b0 = true ∧ b1 = true ∧ 0 ≤ a2 ∧ a2 < (n1 : Int) ∧ ∀ x ∈ R, okR n0 n1 x = true := by
 unfold chk at h
 split at h
 · simp at h
 · split at h
   · simp at h
   · split at h
     · simp at h
     · rename_i h1 h2 h3
       simp only [Bool.and_eq_false_iff, not_or, Bool.not_eq_false] at h2
       exact ⟨by omega, by omega, h2.1, h2.2, by omega, by omega, chkRs_ok _ _ R 0 h⟩
end Go.Proofs.YtaeaookonhaliaaDoor.B
/- errors.Is at a rule error, after the kit's worked example. -/
namespace Go.Proofs.YtaeaookonhaliaaDoor.E
open Go.RowKit Go.Extern.Stop Go.Stop Go.Extern
theorem noIsWR (v : Value) (xT : TypeId) (w : World) : (Instr.typeAssert (.iface 66 v) xT 99 true).run Tryd.prog w = .ok (.tuple #[.nilIface, .bool false]) w := run_typeAssert_lacksB Tryd.underlying99 (by kernel_rfl) (by kernel_rfl) v xT w
theorem hasUnwrapWR (v : Value) (xT : TypeId) (w : World) : (Instr.typeAssert (.iface 66 v) xT 102 true).run Tryd.prog w = .ok (.tuple #[.iface 66 v, .bool true]) w := run_typeAssert_hasB Tryd.underlying102 (by kernel_rfl) v xT w
theorem methodUnwrapR (v : Value) (w : World) : (Go.method 248 66 v "Unwrap").run Tryd.prog w = .ok (78, v) w := by kernel_rfl

theorem isR_same (pb po : Nat) (b : Addr) (w : World) (h1 : w.cell? ⟨pb, po + 1, none⟩ = some (.iface 114 (.pointer (some b)))) :
 Calls Tryd.prog 35 #[.iface 66 (.pointer (some ⟨pb, po, none⟩)), .iface 114 (.pointer (some b))] w fun e w' => e = .returned (.bool true) ∧ w = w' := by
 obtain ⟨i, hi, hcmp⟩ := Option.map_eq_some_iff.1 isComp
 obtain ⟨j, hj, hjs⟩ := Option.map_eq_some_iff.1 isSize
 have h8 := @run_callFunc_extern Tryd.prog 45 _ Extern.ReflectliteType.typeOf Tryd.func45 (by kernel_rfl) (by kernel_rfl) (by kernel_rfl) (by kernel_rfl)
 have h32 := @run_callFunc_extern Tryd.prog 84 _ compF Tryd.func84 (by kernel_rfl) (by kernel_rfl) (by kernel_rfl) (by kernel_rfl)
 have tT := isTypeOf
 have cT := isComparable
 have mR := isMethodComparable
 have nE := noIsE
 have uE := noUnwrapE
 have vE := noUnwrapsE
 have nW := noIsWR
 have uW := hasUnwrapWR
 have mU := methodUnwrapR
 have heq := run_eql_iface_ptr_same (P := Tryd.prog) w b Tryd.underlying32 Tryd.underlying114 hi hcmp hj
 have hty := run_eql_iface_types (P := Tryd.prog) 66 114 (.pointer (some ⟨pb, po, none⟩)) (.pointer (some b)) Tryd.underlying32 (by decide) w
 go_enter Tryd.func35, Tryd.ntmps35
 go_wp2
 refine wp_loop_rounds 2 ?_
 rw [rounds_succ]
 go_wp2
 rw [rounds_succ]
 go_wp2
 go_ret
 exact ⟨rfl, rfl⟩

theorem isR_other (pb po : Nat) (b a : Addr) (ca cb : Array Value) (ta tb : TypeId) (w : World) (h1 : w.cell? ⟨pb, po + 1, none⟩ = some (.iface 114 (.pointer (some a)))) (hne : a ≠ b) (ha : w.heap[a.block]? = some (.cells ca ta (0, 0))) (hb : w.heap[b.block]? = some (.cells cb tb (0, 0))) :
 Calls Tryd.prog 35 #[.iface 66 (.pointer (some ⟨pb, po, none⟩)), .iface 114 (.pointer (some b))] w fun e w' => e = .returned (.bool false) ∧ w = w' := by
 obtain ⟨i, hi, hcmp⟩ := Option.map_eq_some_iff.1 isComp
 obtain ⟨j, hj, hjs⟩ := Option.map_eq_some_iff.1 isSize
 have h8 := @run_callFunc_extern Tryd.prog 45 _ Extern.ReflectliteType.typeOf Tryd.func45 (by kernel_rfl) (by kernel_rfl) (by kernel_rfl) (by kernel_rfl)
 have h32 := @run_callFunc_extern Tryd.prog 84 _ compF Tryd.func84 (by kernel_rfl) (by kernel_rfl) (by kernel_rfl) (by kernel_rfl)
 have tT := isTypeOf
 have cT := isComparable
 have mR := isMethodComparable
 have nE := noIsE
 have uE := noUnwrapE
 have vE := noUnwrapsE
 have nW := noIsWR
 have uW := hasUnwrapWR
 have mU := methodUnwrapR
 have heq := run_eql_iface_ptr_other (P := Tryd.prog) w Tryd.underlying32 Tryd.underlying114 hi hcmp hj (by rw [hjs]; decide) hne ha hb
 have hty := run_eql_iface_types (P := Tryd.prog) 66 114 (.pointer (some ⟨pb, po, none⟩)) (.pointer (some b)) Tryd.underlying32 (by decide) w
 go_enter Tryd.func35, Tryd.ntmps35
 go_wp2
 refine wp_loop_rounds 2 ?_
 rw [rounds_succ]
 go_wp2
 rw [rounds_succ]
 go_wp2
 go_ret
 exact ⟨rfl, rfl⟩
end Go.Proofs.YtaeaookonhaliaaDoor.E
/- errors.As at a rule error, after the kit's worked example. -/
namespace Go.Proofs.YtaeaookonhaliaaDoor.E
open Go.RowKit Go.Extern.Stop Go.Stop Go.Extern

theorem as_nilR (t : Value) (w : World) :
 Calls Tryd.prog 36 #[.nilIface, t] w fun e w' => e = .returned (.bool false) ∧ w' = w := by
 go_enter Tryd.func36, Tryd.ntmps36
 go_wp2
 go_ret
 exact ⟨rfl, rfl⟩

theorem valueOf27R (t : Addr) (w : World) : (ReflectliteValue.unpack (.iface 73 (.pointer (some t)))).run Tryd.prog w
 = .ok (.agg #[.pointer (some ⟨16, 73, none⟩), .pointer (some ⟨w.heap.size, 0, none⟩), .int .u64 150]) (w.alloc (.cells #[.pointer (some t)] 73)) := by kernel_rfl
theorem type27R (a : Addr) (w : World) : (ReflectliteValue.methodAny (ReflectliteValue.valueError "reflectlite.Value.Type" 0) (fun t _ _ _ => ReflectliteType.toType t) #[.agg #[.pointer (some ⟨16, 73, none⟩), .pointer (some a), .int .u64 150]]).run Tryd.prog w
 = .ok (.iface 97 (.agg #[.pointer (some ⟨16, 73, none⟩)])) w := by kernel_rfl
theorem methodKindR (h : Value) (w : World) : (Go.method 248 97 (.agg #[h]) "Kind").run Tryd.prog w = .ok (74, h) w := by kernel_rfl
theorem kind27R (w : World) : ((ReflectliteType.abiMethod fun t => (fun a : Nat => Value.int IntKind.u8 (a : Int)) <$> Rtype.kind t) #[.pointer (some ⟨16, 73, none⟩)]).run Tryd.prog w = .ok (.int .u8 22) w := by kernel_rfl
theorem kind25R (w : World) : ((ReflectliteType.abiMethod fun t => (fun a : Nat => Value.int IntKind.u8 (a : Int)) <$> Rtype.kind t) #[.pointer (some ⟨16, 66, none⟩)]).run Tryd.prog w = .ok (.int .u8 22) w := by kernel_rfl

theorem rlmR (z : Sem Value) (f : TypeId → Addr → Nat → Nat → Sem Value) (v : Value) :
 ReflectliteValue.method z f #[v] = (do match ← ReflectliteValue.parts v with | none => z | some (t, a, fl) => f t a fl (fl % 32)) := rfl
theorem parts27R (a : Addr) (w : World) : (ReflectliteValue.parts (.agg #[.pointer (some ⟨16, 73, none⟩), .pointer (some a), .int .u64 150])).run Tryd.prog w = .ok (some (73, a, 150)) w := by kernel_rfl
theorem isNil27R (a p : Addr) (W : World) (ha : W.cell? a = some (.pointer (some p))) :
 (ReflectliteValue.method (ReflectliteValue.valueError "reflectlite.Value.IsNil" 0) ReflectliteValue.isNil #[.agg #[.pointer (some ⟨16, 73, none⟩), .pointer (some a), .int .u64 150]]).run Tryd.prog W = .ok (.bool false) W := by
 rw [rlmR]
 simp only [Sem.run_bind, parts27R, Result.andThen]
 simp [ReflectliteValue.isNil, loadVar, isAgg, underlying, Tryd.underlying73, ha, Result.andThen]

theorem methodElemR (h : Value) (w : World) : (Go.method 248 97 (.agg #[h]) "Elem").run Tryd.prog w = .ok (85, .agg #[h]) w := by kernel_rfl
theorem methodImplementsR (h : Value) (w : World) : (Go.method 248 97 (.agg #[h]) "Implements").run Tryd.prog w = .ok (86, .agg #[h]) w := by kernel_rfl
theorem methodAssignableToR (h : Value) (w : World) : (Go.method 248 97 (.agg #[h]) "AssignableTo").run Tryd.prog w = .ok (83, .agg #[h]) w := by kernel_rfl
theorem elem27R (w : World) : (ReflectliteType.method ReflectliteType.elem #[.agg #[.pointer (some ⟨16, 73, none⟩)]]).run Tryd.prog w = .ok (.iface 97 (.agg #[.pointer (some ⟨16, 66, none⟩)])) w := by kernel_rfl
theorem implements25R (w : World) : (ReflectliteType.relation "Implements" ReflectliteType.implements_ #[.agg #[.pointer (some ⟨16, 66, none⟩)], .iface 97 (.agg #[.pointer (some ⟨16, 32, none⟩)])]).run Tryd.prog w = .ok (.bool true) w := by kernel_rfl
theorem typeOf25R (v : Value) (w : World) : (ReflectliteType.typeOf #[.iface 66 v]).run Tryd.prog w = .ok (.iface 97 (.agg #[.pointer (some ⟨16, 66, none⟩)])) w := by kernel_rfl
theorem assignable25R (w : World) : (ReflectliteType.relation "AssignableTo" ReflectliteType.assignableTo #[.agg #[.pointer (some ⟨16, 66, none⟩)], .iface 97 (.agg #[.pointer (some ⟨16, 66, none⟩)])]).run Tryd.prog w = .ok (.bool true) w := by kernel_rfl
theorem valueOf25R (e : Addr) (w : World) : (ReflectliteValue.unpack (.iface 66 (.pointer (some e)))).run Tryd.prog w
 = .ok (.agg #[.pointer (some ⟨16, 66, none⟩), .pointer (some ⟨w.heap.size, 0, none⟩), .int .u64 150]) (w.alloc (.cells #[.pointer (some e)] 66)) := by kernel_rfl

theorem elemOf27R (w : World) : (Rtype.elem? 73).run Tryd.prog w = .ok (some 66) w := by kernel_rfl
theorem mk25R (p : Addr) (w : World) : (ReflectliteValue.mk 66 p ReflectliteValue.flagAddr).run Tryd.prog w = .ok (.agg #[.pointer (some ⟨16, 66, none⟩), .pointer (some p), .int .u64 406]) w := by kernel_rfl
theorem elemV27R (a p : Addr) (W : World) (ha : W.cell? a = some (.pointer (some p))) :
 (ReflectliteValue.method (ReflectliteValue.valueError "reflectlite.Value.Elem" 0) ReflectliteValue.elem #[.agg #[.pointer (some ⟨16, 73, none⟩), .pointer (some a), .int .u64 150]]).run Tryd.prog W
  = .ok (.agg #[.pointer (some ⟨16, 66, none⟩), .pointer (some p), .int .u64 406]) W := by
 rw [rlmR]
 simp only [Sem.run_bind, parts27R, Result.andThen]
 simp [ReflectliteValue.elem, loadVar, isAgg, underlying, Tryd.underlying73, ha, Result.andThen, elemOf27R, mk25R]
theorem rlsR (v x : Value) : ReflectliteValue.set #[v, x] = (do
 let (some (dst, a, fl), some (src, b, _)) := (← ReflectliteValue.parts v, ← ReflectliteValue.parts x)
  | unsupported (.noEntry "extern/(internal/reflectlite.Value).Set.zeroValue")
 if fl / ReflectliteValue.flagAddr % 2 == 0 then unsupported (.noEntry "extern/(internal/reflectlite.Value).Set.unaddressable")
 let val ← loadVar src b
 if ← Rtype.directlyAssignable dst src then storeVar dst a val
 else if ← Rtype.implements dst src then
  if (← Rtype.kind src) == 20 then
   match val with
   | .nilIface => unsupported (.noEntry "extern/reflectlite: a nil value of one interface type handed on as a value of another")
   | _ => storeVar dst a val
  else storeVar dst a (.iface src val)
 else panicString ("reflectlite.Set: value of type " ++ (← Rtype.spelt src) ++ " is not assignable to type " ++ (← Rtype.spelt dst))
 pure (.tuple #[])) := rfl
theorem parts25aR (a : Addr) (w : World) : (ReflectliteValue.parts (.agg #[.pointer (some ⟨16, 66, none⟩), .pointer (some a), .int .u64 406])).run Tryd.prog w = .ok (some (66, a, 406)) w := by kernel_rfl
theorem parts25R (a : Addr) (w : World) : (ReflectliteValue.parts (.agg #[.pointer (some ⟨16, 66, none⟩), .pointer (some a), .int .u64 150])).run Tryd.prog w = .ok (some (66, a, 150)) w := by kernel_rfl
theorem direct25R (w : World) : (Rtype.directlyAssignable 66 66).run Tryd.prog w = .ok true w := by kernel_rfl
theorem set25R (ta b e : Addr) (old : Value) (W : World) (hb : W.cell? b = some (.pointer (some e))) (ht : W.cell? ta = some old) (hf : W.frozen? ta = false) :
 (ReflectliteValue.set #[.agg #[.pointer (some ⟨16, 66, none⟩), .pointer (some ta), .int .u64 406], .agg #[.pointer (some ⟨16, 66, none⟩), .pointer (some b), .int .u64 150]]).run Tryd.prog W
  = .ok (.tuple #[]) (W.setCell ta (.pointer (some e))) := by
 rw [rlsR]
 simp only [Sem.run_bind, parts25aR, parts25R, Result.andThen]
 simp [ReflectliteValue.flagAddr, loadVar, isAgg, underlying, Tryd.underlying66, hb, Result.andThen, direct25R, storeVar, Value.cells, storeCells, Addr.add]
 rw [run_store Tryd.prog W ta _ _ (by rfl)]
 simp [ht, hf]

set_option maxHeartbeats 4000000 in
theorem as_hitR (e t : Addr) (old : Value) (w : World) (hg : w.cell? ⟨15, 0, none⟩ = some (.iface 97 (.agg #[.pointer (some ⟨16, 32, none⟩)]))) (ht0 : w.cell? t = some old) (hf0 : w.frozen? t = false) :
 Calls Tryd.prog 36 #[.iface 66 (.pointer (some e)), .iface 73 (.pointer (some t))] w fun ev w' => ev = .returned (.bool true) ∧ w' = ((((w.alloc (.cells #[.pointer (some t)] 73)).alloc (.cells #[.pointer (some ⟨16, 73, none⟩), .pointer (some ⟨w.heap.size, 0, none⟩), .int .u64 150] 87)).alloc (.cells #[.pointer (some ⟨16, 73, none⟩), .pointer (some ⟨w.heap.size, 0, none⟩), .int .u64 150] 87)).alloc (.cells #[.pointer (some e)] 66)).setCell t (.pointer (some e)) := by
 have h6 := @run_callFunc_extern Tryd.prog 47 _ (fun args => ReflectliteValue.unpack (args.getD 0 (.tuple #[]))) Tryd.func47 (by kernel_rfl) (by kernel_rfl) (by kernel_rfl) (by kernel_rfl)
 have h7 := @run_callFunc_extern Tryd.prog 48 _ (ReflectliteValue.methodAny (ReflectliteValue.valueError "reflectlite.Value.Type" 0) (fun t _ _ _ => ReflectliteType.toType t)) Tryd.func48 (by kernel_rfl) (by kernel_rfl) (by kernel_rfl) (by kernel_rfl)
 have h8 := @run_callFunc_extern Tryd.prog 49 _ (ReflectliteValue.method (ReflectliteValue.valueError "reflectlite.Value.IsNil" 0) ReflectliteValue.isNil) Tryd.func49 (by kernel_rfl) (by kernel_rfl) (by kernel_rfl) (by kernel_rfl)
 have h27 := @run_callFunc_extern Tryd.prog 74 _ (ReflectliteType.abiMethod fun t => do pure (.int .u8 (← Rtype.kind t))) Tryd.func74 (by kernel_rfl) (by kernel_rfl) (by kernel_rfl) (by kernel_rfl)
 have h37 := @run_callFunc_extern Tryd.prog 85 _ (ReflectliteType.method ReflectliteType.elem) Tryd.func85 (by kernel_rfl) (by kernel_rfl) (by kernel_rfl) (by kernel_rfl)
 have h38 := @run_callFunc_extern Tryd.prog 86 _ (ReflectliteType.relation "Implements" ReflectliteType.implements_) Tryd.func86 (by kernel_rfl) (by kernel_rfl) (by kernel_rfl) (by kernel_rfl)
 have h10 := @run_callFunc_extern Tryd.prog 45 _ ReflectliteType.typeOf Tryd.func45 (by kernel_rfl) (by kernel_rfl) (by kernel_rfl) (by kernel_rfl)
 have h35 := @run_callFunc_extern Tryd.prog 83 _ (ReflectliteType.relation "AssignableTo" ReflectliteType.assignableTo) Tryd.func83 (by kernel_rfl) (by kernel_rfl) (by kernel_rfl) (by kernel_rfl)
 have h11 := @run_callFunc_extern Tryd.prog 55 _ (ReflectliteValue.method (ReflectliteValue.valueError "reflectlite.Value.Elem" 0) ReflectliteValue.elem) Tryd.func55 (by kernel_rfl) (by kernel_rfl) (by kernel_rfl) (by kernel_rfl)
 have h12 := @run_callFunc_extern Tryd.prog 56 _ ReflectliteValue.set Tryd.func56 (by kernel_rfl) (by kernel_rfl) (by kernel_rfl) (by kernel_rfl)
 have tO := typeOf25R
 have mA := methodAssignableToR
 have a25 := assignable25R
 have v25 := valueOf25R
 have f6 := valueOf27R
 have f7 := type27R
 have mK := methodKindR
 have mE := methodElemR
 have mI := methodImplementsR
 have k27 := kind27R
 have k25 := kind25R
 have e27 := elem27R
 have i25 := implements25R
 have n8 := isNil27R ⟨w.heap.size, 0, none⟩ t ((w.alloc (.cells #[.pointer (some t)] 73)).alloc (.cells #[.pointer (some ⟨16, 73, none⟩), .pointer (some ⟨w.heap.size, 0, none⟩), .int .u64 150] 87)) (by simp)
 have hlt : 15 < w.heap.size := by
  exact World.block_lt_of_cell? w _ hg
 have hg2 : ((w.alloc (.cells #[.pointer (some t)] 73)).alloc (.cells #[.pointer (some ⟨16, 73, none⟩), .pointer (some ⟨w.heap.size, 0, none⟩), .int .u64 150] 87)).cell? ⟨15, 0, none⟩ = some (.iface 97 (.agg #[.pointer (some ⟨16, 32, none⟩)])) := by
  rw [World.cell?_alloc_lt _ _ ⟨15, 0, none⟩ (by simp; omega), World.cell?_alloc_lt _ _ ⟨15, 0, none⟩ hlt]; exact hg
 have htl : t.block < w.heap.size := by
  rcases Nat.lt_or_ge t.block w.heap.size with h | h
  · exact h
  · simp [World.cell?, Array.getElem?_eq_none h] at ht0
 have el := elemV27R ⟨w.heap.size, 0, none⟩ t (((w.alloc (.cells #[.pointer (some t)] 73)).alloc (.cells #[.pointer (some ⟨16, 73, none⟩), .pointer (some ⟨w.heap.size, 0, none⟩), .int .u64 150] 87)).alloc (.cells #[.pointer (some ⟨16, 73, none⟩), .pointer (some ⟨w.heap.size, 0, none⟩), .int .u64 150] 87)) (by rw [World.cell?_alloc_lt _ _ ⟨w.heap.size, 0, none⟩ (by simp; omega)]; simp)
 have st := set25R t ⟨w.heap.size + 1 + 1 + 1, 0, none⟩ e old ((((w.alloc (.cells #[.pointer (some t)] 73)).alloc (.cells #[.pointer (some ⟨16, 73, none⟩), .pointer (some ⟨w.heap.size, 0, none⟩), .int .u64 150] 87)).alloc (.cells #[.pointer (some ⟨16, 73, none⟩), .pointer (some ⟨w.heap.size, 0, none⟩), .int .u64 150] 87)).alloc (.cells #[.pointer (some e)] 66))
  (by rw [World.cell?_alloc_at _ _ _ _ (by simp)]; rfl)
  (by rw [World.cell?_alloc_lt _ _ t (by simp; omega), World.cell?_alloc_lt _ _ t (by simp; omega), World.cell?_alloc_lt _ _ t (by simp; omega), World.cell?_alloc_lt _ _ t htl]; exact ht0)
  (by rw [World.frozen?_alloc_old _ _ t (by simp; omega), World.frozen?_alloc_old _ _ t (by simp; omega), World.frozen?_alloc_old _ _ t (by simp; omega), World.frozen?_alloc_old _ _ t (Nat.ne_of_lt htl)]; exact hf0)
 go_enter Tryd.func36, Tryd.ntmps36
 go_wp2
 refine wp_loop_rounds 1 ?_
 rw [rounds_succ]
 go_wp2
 go_ret
 exact ⟨rfl, rfl⟩
theorem typeOfER (v : Value) (w : World) : (ReflectliteType.typeOf #[.iface 114 v]).run Tryd.prog w = .ok (.iface 97 (.agg #[.pointer (some ⟨16, 114, none⟩)])) w := by kernel_rfl
theorem assignableER (w : World) : (ReflectliteType.relation "AssignableTo" ReflectliteType.assignableTo #[.agg #[.pointer (some ⟨16, 114, none⟩)], .iface 97 (.agg #[.pointer (some ⟨16, 66, none⟩)])]).run Tryd.prog w = .ok (.bool false) w := by kernel_rfl
theorem noAsER (v : Value) (xT : TypeId) (w : World) : (Instr.typeAssert (.iface 114 v) xT 108 true).run Tryd.prog w = .ok (.tuple #[.nilIface, .bool false]) w := run_typeAssert_lacksB Tryd.underlying108 (by kernel_rfl) (by kernel_rfl) v xT w
set_option maxHeartbeats 4000000 in
theorem as_esR (a t : Addr) (w : World) (hg : w.cell? ⟨15, 0, none⟩ = some (.iface 97 (.agg #[.pointer (some ⟨16, 32, none⟩)]))) :
 Calls Tryd.prog 36 #[.iface 114 (.pointer (some a)), .iface 73 (.pointer (some t))] w fun ev w' => ev = .returned (.bool false) ∧ Below w.heap.size w w' := by
 have h6 := @run_callFunc_extern Tryd.prog 47 _ (fun args => ReflectliteValue.unpack (args.getD 0 (.tuple #[]))) Tryd.func47 (by kernel_rfl) (by kernel_rfl) (by kernel_rfl) (by kernel_rfl)
 have h7 := @run_callFunc_extern Tryd.prog 48 _ (ReflectliteValue.methodAny (ReflectliteValue.valueError "reflectlite.Value.Type" 0) (fun t _ _ _ => ReflectliteType.toType t)) Tryd.func48 (by kernel_rfl) (by kernel_rfl) (by kernel_rfl) (by kernel_rfl)
 have h8 := @run_callFunc_extern Tryd.prog 49 _ (ReflectliteValue.method (ReflectliteValue.valueError "reflectlite.Value.IsNil" 0) ReflectliteValue.isNil) Tryd.func49 (by kernel_rfl) (by kernel_rfl) (by kernel_rfl) (by kernel_rfl)
 have h27 := @run_callFunc_extern Tryd.prog 74 _ (ReflectliteType.abiMethod fun t => do pure (.int .u8 (← Rtype.kind t))) Tryd.func74 (by kernel_rfl) (by kernel_rfl) (by kernel_rfl) (by kernel_rfl)
 have h37 := @run_callFunc_extern Tryd.prog 85 _ (ReflectliteType.method ReflectliteType.elem) Tryd.func85 (by kernel_rfl) (by kernel_rfl) (by kernel_rfl) (by kernel_rfl)
 have h38 := @run_callFunc_extern Tryd.prog 86 _ (ReflectliteType.relation "Implements" ReflectliteType.implements_) Tryd.func86 (by kernel_rfl) (by kernel_rfl) (by kernel_rfl) (by kernel_rfl)
 have h10 := @run_callFunc_extern Tryd.prog 45 _ ReflectliteType.typeOf Tryd.func45 (by kernel_rfl) (by kernel_rfl) (by kernel_rfl) (by kernel_rfl)
 have h35 := @run_callFunc_extern Tryd.prog 83 _ (ReflectliteType.relation "AssignableTo" ReflectliteType.assignableTo) Tryd.func83 (by kernel_rfl) (by kernel_rfl) (by kernel_rfl) (by kernel_rfl)
 have tO := typeOfER
 have a25 := assignableER
 have nA := noAsER
 have uE := noUnwrapE
 have vE := noUnwrapsE
 have mA := methodAssignableToR
 have f6 := valueOf27R
 have f7 := type27R
 have mK := methodKindR
 have mE := methodElemR
 have mI := methodImplementsR
 have k27 := kind27R
 have k25 := kind25R
 have e27 := elem27R
 have i25 := implements25R
 have n8 := isNil27R ⟨w.heap.size, 0, none⟩ t ((w.alloc (.cells #[.pointer (some t)] 73)).alloc (.cells #[.pointer (some ⟨16, 73, none⟩), .pointer (some ⟨w.heap.size, 0, none⟩), .int .u64 150] 87)) (by simp)
 have hlt : 15 < w.heap.size := by
  exact World.block_lt_of_cell? w _ hg
 have hg2 : ((w.alloc (.cells #[.pointer (some t)] 73)).alloc (.cells #[.pointer (some ⟨16, 73, none⟩), .pointer (some ⟨w.heap.size, 0, none⟩), .int .u64 150] 87)).cell? ⟨15, 0, none⟩ = some (.iface 97 (.agg #[.pointer (some ⟨16, 32, none⟩)])) := by
  rw [World.cell?_alloc_lt _ _ ⟨15, 0, none⟩ (by simp; omega), World.cell?_alloc_lt _ _ ⟨15, 0, none⟩ hlt]; exact hg
 go_enter Tryd.func36, Tryd.ntmps36
 go_wp2
 refine wp_loop_rounds 1 ?_
 rw [rounds_succ]
 go_wp2
 go_ret
 exact ⟨rfl, (((Below.refl _ w).alloc (Nat.le_refl _) _).alloc (by simp) _).alloc (by simp; omega) _⟩
end Go.Proofs.YtaeaookonhaliaaDoor.E
/- kit.Kind and kit.Rule of what gram.Check answers. -/
namespace Go.Proofs.YtaeaookonhaliaaDoor.B
open Go.RowKit YtaeaookonhaliaaDoorW.PrintWords YtaeaookonhaliaaDoorW.PrintLast YtaeaookonhaliaaDoorW.PrintMore E

theorem IsK.rule {ad : Int → Addr} {w : World} (hs : SentsK ad w) (k : Int) (h1 : 1 ≤ k) (h2 : k ≤ 15) (b : Nat) (hc : w.cell? ⟨b, 1, none⟩ = some (.iface 114 (.pointer (some (ad k))))) : IsK ad w (.iface 66 (.pointer (some ⟨b, 0, none⟩))) k := by
 intro j hj1 hj2 W hW
 have hc' : W.cell? ⟨b, 0 + 1, none⟩ = some (.iface 114 (.pointer (some (ad k)))) := (hW.cell (World.block_lt_of_cell? w _ hc)).trans hc
 by_cases h : j = k
 · subst h
   rw [decide_eq_true rfl]
   exact isR_same b 0 (ad j) W hc'
 · rw [decide_eq_false h]
   obtain ⟨ca, ta, hca⟩ := (hs.below hW).box k h1 h2
   obtain ⟨cb, tb, hcb⟩ := (hs.below hW).box j hj1 hj2
   exact isR_other b 0 (ad j) (ad k) ca cb ta tb W hc' (hs.ne k j h1 h2 hj1 hj2 (fun e => h e.symm)) hca hcb
def Handle (w : World) : Prop := w.cell? ⟨15, 0, none⟩ = some (.iface 97 (.agg #[.pointer (some ⟨16, 32, none⟩)]))
theorem Handle.below {w w' : World} (h : Handle w) (hb : Below w.heap.size w w') : Handle w' := (hb.cell (World.block_lt_of_cell? w _ h)).trans h

set_option maxHeartbeats 1000000 in
set_option maxRecDepth 100000 in
theorem Rule_no (v : Value) (w : World) (hA : ∀ W, Below w.heap.size w W → ∀ a, Calls Tryd.prog 36 #[v, .iface 73 (.pointer (some a))] W fun e w' => e = .returned (.bool false) ∧ Below W.heap.size W w') :
 Calls Tryd.prog 17 #[v] w fun e w' => e = .returned (.int .i64 (-1)) ∧ Below w.heap.size w w' := by
 have hb : Below w.heap.size w (w.alloc (.cells #[.pointer none] 66)) := (Below.refl _ w).alloc (Nat.le_refl _) _
 have HA := Aside0.mk (hA _ hb ⟨w.heap.size, 0, none⟩)
 have HB := Aside0.mk hb
 clear hA hb
 go_enter Tryd.func17, Tryd.ntmps17
 go_wp2_with (go_at_call 36; (with_reducible refine HA.out.mono ?_); rintro e w' ⟨rfl, hb'⟩)
 go_ret
 exact ⟨rfl, HB.out.trans (hb'.mono HB.out.size)⟩
set_option maxHeartbeats 1000000 in
set_option maxRecDepth 100000 in
theorem Rule_yes (b : Nat) (r : Int) (w : World) (hg : Handle w) (hr : w.cell? ⟨b, 0, none⟩ = some (.int .i64 r)) :
 Calls Tryd.prog 17 #[.iface 66 (.pointer (some ⟨b, 0, none⟩))] w fun e w' => e = .returned (.int .i64 r) ∧ Below w.heap.size w w' := by
 have hb : Below w.heap.size w (w.alloc (.cells #[.pointer none] 66)) := (Below.refl _ w).alloc (Nat.le_refl _) _
 have hbl : b < w.heap.size := World.block_lt_of_cell? w _ hr
 have hA : Calls Tryd.prog 36 #[.iface 66 (.pointer (some ⟨b, 0, none⟩)), .iface 73 (.pointer (some ⟨w.heap.size, 0, none⟩))] (w.alloc (.cells #[.pointer none] 66)) fun e w' => e = .returned (.bool true) ∧ Aside0 (Below w.heap.size w w') ∧ w'.cell? ⟨w.heap.size, 0, none⟩ = some (.pointer (some ⟨b, 0, none⟩)) ∧ w'.cell? ⟨b, 0, none⟩ = some (.int .i64 r) := by
  have hx : Box w.heap.size #[.pointer none] 66 (w.alloc (.cells #[.pointer none] 66)) := Box.new w _ _
  have hx' : (w.alloc (.cells #[.pointer none] 66)).heap[w.heap.size]? = some (.cells #[.pointer none] 66 (0, 0)) := hx
  refine (as_hitR ⟨b, 0, none⟩ ⟨w.heap.size, 0, none⟩ (.pointer none) _ (hg.below hb) (hx.cell 0 _ rfl) (by unfold World.frozen?; rw [show (w.alloc (.cells #[.pointer none] 66)).heap[(⟨w.heap.size, 0, none⟩ : Addr).block]? = _ from hx']; rfl)).mono ?_
  rintro e w' ⟨rfl, rfl⟩
  have hb4 := ((((Below.refl _ (w.alloc (.cells #[.pointer none] 66))).alloc (Nat.le_refl _) (.cells #[.pointer (some ⟨w.heap.size, 0, none⟩)] 73)).alloc (by simp) (.cells #[.pointer (some ⟨16, 73, none⟩), .pointer (some ⟨(w.alloc (.cells #[.pointer none] 66)).heap.size, 0, none⟩), .int .u64 150] 87)).alloc (by first | (simp; done) | (simp; omega)) (.cells #[.pointer (some ⟨16, 73, none⟩), .pointer (some ⟨(w.alloc (.cells #[.pointer none] 66)).heap.size, 0, none⟩), .int .u64 150] 87)).alloc (by first | (simp; done) | (simp; omega)) (.cells #[.pointer (some ⟨b, 0, none⟩)] 66)
  have hbw := hb.trans (hb4.mono hb.size)
  have hc4 : _ := (hb4.cell (p := ⟨w.heap.size, 0, none⟩) (by simp)).trans (hx.cell 0 _ rfl)
  refine ⟨rfl, ⟨hbw.setCell (Nat.le_refl _) _⟩, ?_, ?_⟩
  · exact World.cell?_setCell_same' _ _ _ (by rw [hc4]; rfl)
  · rw [World.cell?_setCell_other _ _ _ _ (show (⟨w.heap.size, 0, none⟩ : Addr) ≠ ⟨b, 0, none⟩ from fun e => by injection e with e; omega)]
    exact (hbw.cell (p := ⟨b, 0, none⟩) hbl).trans hr
 have HA := Aside0.mk hA
 clear hA hb
 go_enter Tryd.func17, Tryd.ntmps17
 go_wp2_with (go_at_call 36; (with_reducible refine HA.out.mono ?_); rintro e w' ⟨rfl, hb', f0, f1⟩)
 go_ret
 exact ⟨rfl, hb'.out⟩
end Go.Proofs.YtaeaookonhaliaaDoor.B
/- Sets of small numbers as whole numbers of 64 bits: membership. -/
namespace Go.Proofs.YtaeaookonhaliaaDoor.B
open Go.RowKit YtaeaookonhaliaaDoorW.PrintWords YtaeaookonhaliaaDoorW.PrintLast YtaeaookonhaliaaDoorW.PrintMore

end Go.Proofs.YtaeaookonhaliaaDoor.B
/- Reading lists at a natural number; renamings, and to which nonterminals one comes by them. -/
namespace Go.Proofs.YtaeaookonhaliaaDoor.B
open Go.RowKit YtaeaookonhaliaaDoorW.PrintWords YtaeaookonhaliaaDoorW.PrintLast YtaeaookonhaliaaDoorW.PrintMore

theorem rd_D (l : List Int) (i : Nat) : rd l (i : Int) = l.getD i 0 := by simp [rd]
theorem rdS_D (l : List ByteArray) (i : Nat) : rdOf ByteArray.empty l (i : Int) = l.getD i ByteArray.empty := by simp [rdOf]
theorem rdR_D (l : List S55) (i : Nat) : rd_T55 l (i : Int) = l.getD i z55 := by simp [rd_T55]
theorem getD_lt {α : Type} (l : List α) (i : Nat) (d : α) (h : i < l.length) : l.getD i d = l[i] := by simp [List.getD_eq_getElem?_getD, List.getElem?_eq_getElem h]
theorem getD_set {α : Type} (l : List α) (m i : Nat) (v d : α) : (l.set m v).getD i d = if m = i ∧ i < l.length then v else l.getD i d := by
 simp only [List.getD_eq_getElem?_getD, List.getElem?_set]
 by_cases h : m = i
 · subst h
   by_cases h2 : m < l.length
   · simp [h2]
   · simp [h2, List.getElem?_eq_none (show l.length ≤ m by omega)]
 · simp [h]
theorem w64 (i : Nat) (h : i < 9223372036854775807) : wrap64 ((i : Int) + 1) = ((i + 1 : Nat) : Int) := by unfold wrap64; omega

def ren (x : S55) : Option Nat := match x.f1 with
 | [s] => if s < 0 then some (-1 - s).toNat else none
 | _ => none
theorem okR_sides {t n : Nat} {x : S55} (h : okR t n x = true) : x.f1.length ≤ 32 ∧ 0 ≤ x.f0 ∧ x.f0 < n ∧ ∀ s ∈ x.f1, s < t ∧ -(n : Int) ≤ s := by
 simp only [okR, Bool.and_eq_true, decide_eq_true_eq, Bool.not_eq_true', List.any_eq_false, outS, Bool.or_eq_true, not_or, Int.not_le, Int.not_lt] at h
 exact ⟨h.1.1.1, h.1.1.2, h.1.2, fun s hs => by simpa using h.2 s hs⟩
def Edge (R : List S55) (a m : Nat) : Prop := ∃ x ∈ R, x.f0 = (a : Int) ∧ ren x = some m
inductive Reach (R : List S55) : Nat → Nat → Prop
 | refl (a : Nat) : Reach R a a
 | step {a m b : Nat} : Edge R a m → Reach R m b → Reach R a b
theorem Reach.trans {R : List S55} {a m b : Nat} (h : Reach R a m) (h' : Reach R m b) : Reach R a b := by
 induction h with
 | refl a => exact h'
 | step e _ ih => exact .step e (ih h')
end Go.Proofs.YtaeaookonhaliaaDoor.B
/- Names: their places, and which lists of names are right. -/
namespace Go.Proofs.YtaeaookonhaliaaDoor.B
open Go.RowKit YtaeaookonhaliaaDoorW.PrintWords YtaeaookonhaliaaDoorW.PrintLast YtaeaookonhaliaaDoorW.PrintMore

theorem toL_eq (a b : ByteArray) : a.toList = b.toList ↔ a = b := by
 constructor
 · intro h
   rw [ByteArray.toList_eq, ByteArray.toList_eq] at h
   have := Array.ext' h
   cases a; cases b; simp_all
 · rintro rfl; rfl

def place (l : List ByteArray) (s : ByteArray) (i : Nat) : Int := if (l.drop i).findIdx (fun x => decide (s = x)) < (l.drop i).length then ((i + (l.drop i).findIdx (fun x => decide (s = x)) : Nat) : Int) else -1
theorem place_end (l : List ByteArray) (s : ByteArray) : place l s l.length = -1 := by simp [place]
theorem place_step (l : List ByteArray) (s : ByteArray) (i : Nat) (h : i < l.length) : place l s i = if s = l[i] then (i : Int) else place l s (i + 1) := by
 unfold place
 rw [List.drop_eq_getElem_cons h, List.findIdx_cons, List.length_cons]
 by_cases c : s = l[i]
 · rw [if_pos c, decide_eq_true c, cond_true, if_pos (by omega)]; rfl
 · rw [if_neg c, decide_eq_false c, cond_false]
   by_cases c2 : (l.drop (i + 1)).findIdx (fun x => decide (s = x)) < (l.drop (i + 1)).length
   · rw [if_pos (by omega), if_pos c2]; congr 1; omega
   · rw [if_neg (by omega), if_neg c2]
theorem place_nonneg (l : List ByteArray) (s : ByteArray) : 0 ≤ place l s 0 ↔ s ∈ l := by
 have : (l.findIdx (fun x => decide (s = x)) < l.length) ↔ s ∈ l := by
  rw [List.findIdx_lt_length]; simp
 unfold place
 rw [List.drop_zero, ← this]
 split <;> omega
theorem Index_l (l : List ByteArray) (s : ByteArray) (hm : l.length ≤ 9223372036854775807) : ∀ (d i k : Nat), l.length - i = d → i ≤ l.length → d < k → slices_Index_string_string.l0 k l s (l.length : Int) (i : Int) = some (place l s i) := by
 intro d
 induction d with
 | zero =>
  intro i k hi hle hk
  obtain ⟨k, rfl⟩ : ∃ j, k = j + 1 := ⟨k - 1, by omega⟩
  have : i = l.length := by omega
  subst this
  rw [slices_Index_string_string.l0, if_neg (by omega), place_end]
 | succ d ih =>
  intro i k hi hle hk
  obtain ⟨k, rfl⟩ : ∃ j, k = j + 1 := ⟨k - 1, by omega⟩
  have hlt : i < l.length := by omega
  rw [slices_Index_string_string.l0, if_pos (by omega), if_pos (by omega), if_pos (by omega), rdS_D, getD_lt _ _ _ hlt, place_step l s i hlt]
  by_cases c : s = l[i]
  · rw [if_pos ((toL_eq _ _).2 c), if_pos c]
  · rw [if_neg (fun h => c ((toL_eq _ _).1 h)), if_neg c, w64 i (by omega), ih (i + 1) k (by omega) (by omega) (by omega)]
theorem Index_f (l : List ByteArray) (s : ByteArray) (k : Nat) (hm : l.length ≤ 9223372036854775807) (hk : l.length < k) : slices_Index_string_string.f k l s = some (place l s 0) := by
 unfold slices_Index_string_string.f
 have := Index_l l s hm l.length 0 k (by omega) (by omega) hk
 simpa using this
def faultAt (l : List ByteArray) (i : Nat) : Bool := decide ((l.getD i ByteArray.empty).size = 0) || decide (32 < (l.getD i ByteArray.empty).size) || (l.take i).any (fun x => decide (l.getD i ByteArray.empty = x))
def namesOK (l : List ByteArray) : Bool := (List.range l.length).all fun i => !faultAt l i
def namesFrom (l : List ByteArray) (i : Nat) : Bool := (List.range' i (l.length - i)).all fun i => !faultAt l i
theorem namesFrom_zero (l : List ByteArray) : namesFrom l 0 = namesOK l := by simp [namesFrom, namesOK, List.range_eq_range']
theorem namesFrom_step (l : List ByteArray) (i : Nat) (h : i < l.length) : namesFrom l i = (!faultAt l i && namesFrom l (i + 1)) := by
 unfold namesFrom
 rw [show l.length - i = (l.length - (i + 1)) + 1 from by omega, List.range'_succ, List.all_cons]
theorem namesFrom_end (l : List ByteArray) : namesFrom l l.length = true := by simp [namesFrom]

theorem NameFault_f (l : List ByteArray) (i k : Nat) (h : i < l.length) (hm : l.length ≤ 9223372036854775807) (hk : l.length < k) : gram_nameFault.f k l (i : Int) = some (faultAt l i) := by
 unfold gram_nameFault.f faultAt slices_Contains_string_string.f
 rw [if_pos (by omega), if_pos (by omega), rdS_D, Int.toNat_natCast]
 generalize l.getD i ByteArray.empty = s
 by_cases c1 : s.size = 0
 · rw [if_pos (by omega)]; simp [c1]
 · rw [if_neg (by omega)]
   by_cases c2 : 32 < s.size
   · rw [if_pos (by omega)]; simp [c2]
   · rw [if_neg (by omega), if_pos (by omega), Index_f _ s k (by rw [List.length_take]; omega) (by rw [List.length_take]; omega), Option.bind_some, Option.bind_some]
     cases c3 : (l.take i).any (fun x => decide (s = x)) with
     | true =>
      have : s ∈ l.take i := by
       obtain ⟨x, hx, he⟩ := List.any_eq_true.1 c3
       rw [of_decide_eq_true he]; exact hx
      rw [if_pos (decide_eq_true ((place_nonneg (l.take i) s).2 this)), Bool.or_true]
     | false =>
      have : ¬ s ∈ l.take i := fun hs => by
       have := List.any_eq_false.1 c3 s hs
       simp at this
      rw [if_neg (by rw [decide_eq_true_eq]; exact fun h => this ((place_nonneg (l.take i) s).1 h)), decide_eq_false c1, decide_eq_false c2]; rfl
theorem Names_l (l : List ByteArray) (hm : l.length ≤ 9223372036854775807) : ∀ (d i k : Nat), l.length - i = d → i ≤ l.length → d + l.length + 1 < k → gram_names.l0 k l (l.length : Int) (i : Int) = some (namesFrom l i) := by
 intro d
 induction d with
 | zero =>
  intro i k hi hle hk
  obtain ⟨k, rfl⟩ : ∃ j, k = j + 1 := ⟨k - 1, by omega⟩
  have : i = l.length := by omega
  subst this
  rw [gram_names.l0, if_neg (by omega), namesFrom_end]
 | succ d ih =>
  intro i k hi hle hk
  obtain ⟨k, rfl⟩ : ∃ j, k = j + 1 := ⟨k - 1, by omega⟩
  have hlt : i < l.length := by omega
  rw [gram_names.l0, if_pos (by omega), NameFault_f l i k hlt hm (by omega), Option.bind_some, namesFrom_step l i hlt]
  cases hf : faultAt l i with
  | true => rw [if_pos rfl]; rfl
  | false => rw [if_neg (by decide), w64 i (by omega), ih (i + 1) k (by omega) (by omega) (by omega)]; rfl
theorem Names_f (l : List ByteArray) (k : Nat) (hm : l.length ≤ 9223372036854775807) (hk : l.length + l.length + 1 < k) : gram_names.f k l = some (namesOK l) := by
 unfold gram_names.f
 have := Names_l l hm l.length 0 k (by omega) (by omega) hk
 rw [namesFrom_zero] at this
 simpa using this
end Go.Proofs.YtaeaookonhaliaaDoor.B
/- Errors of all kinds: none, a sentinel, a rule's; kit.Kind and kit.Rule of them; told by a number (kind + 16 * (rule + 1)). -/
namespace Go.Proofs.YtaeaookonhaliaaDoor.F
open Go.RowKit YtaeaookonhaliaaDoorW.PrintWords YtaeaookonhaliaaDoorW.PrintLast YtaeaookonhaliaaDoorW.PrintMore
open B E

def ErrW (ad : Int → Addr) (w : World) (v : Value) (p : Int × Int) : Prop :=
 (p.1 = 0 ∧ p.2 = -1 ∧ v = .nilIface) ∨ ((1 ≤ p.1 ∧ p.1 ≤ 15) ∧ p.2 = -1 ∧ v = .iface 114 (.pointer (some (ad p.1)))) ∨
 ((1 ≤ p.1 ∧ p.1 ≤ 15) ∧ 0 ≤ p.2 ∧ p.2 < 1000 ∧ ∃ b, v = .iface 66 (.pointer (some ⟨b, 0, none⟩)) ∧ w.heap[b]? = some (.cells #[.int .i64 p.2, .iface 114 (.pointer (some (ad p.1)))] 68 (0, 0)))
theorem ErrW.of {ad : Int → Addr} {w : World} {v : Value} {p : Int × Int} (h : ErrV ad w v p) : ErrW ad w v p := by
 rcases h with h | ⟨h1, h2, h3⟩ | ⟨h1, h2, h3, h4⟩
 · exact .inl h
 · exact .inr (.inl ⟨by omega, h2, h3⟩)
 · exact .inr (.inr ⟨by omega, h2, by omega, h4⟩)
theorem ErrW.below {ad : Int → Addr} {w w' : World} {v : Value} {p : Int × Int} (h : ErrW ad w v p) (hb : Below w.heap.size w w') : ErrW ad w' v p := by
 rcases h with h | h | ⟨h1, h2, h3, b, hv, hx⟩
 · exact .inl h
 · exact .inr (.inl h)
 · exact .inr (.inr ⟨h1, h2, h3, b, hv, Box.below (W := w) (W' := w') hx hb⟩)
theorem ErrW.nil {ad : Int → Addr} {w : World} {v : Value} {p : Int × Int} (h : ErrW ad w v p) (h0 : p.1 = 0) : v = .nilIface := by
 rcases h with h | h | h
 · exact h.2.2
 · have := h.1; omega
 · have := h.1; omega
theorem ErrW.any {ad : Int → Addr} {w : World} {v : Value} {p : Int × Int} (h : ErrW ad w v p) (h0 : p.1 ≠ 0) : ∃ t u, v = .iface t u := by
 rcases h with h | h | h
 · exact absurd h.1 h0
 · exact ⟨_, _, h.2.2⟩
 · obtain ⟨_, _, _, b, h, _⟩ := h; exact ⟨_, _, h⟩
theorem Kind_w {ad : Int → Addr} {w : World} (hs : SentsK ad w) {v : Value} {p : Int × Int} (hv : ErrW ad w v p) : Calls Tryd.prog 16 #[v] w fun e w' => e = .returned (.int .i64 p.1) ∧ Below w.heap.size w w' := by
 rcases hv with ⟨h0, _, rfl⟩ | ⟨h1, _, rfl⟩ | ⟨h1, _, _, b, rfl, hx⟩
 · rw [h0]; exact Kind_nil w
 · exact Kind_any ad _ _ p.1 h1.1 h1.2 w hs (IsK.sent hs p.1 h1.1 h1.2)
 · exact Kind_any ad _ _ p.1 h1.1 h1.2 w hs (IsK.rule hs p.1 h1.1 h1.2 b (Box.cell (W := w) hx 1 _ rfl))
theorem Rule_w {ad : Int → Addr} {w : World} (hg : HandleP w) {v : Value} {p : Int × Int} (hv : ErrW ad w v p) : Calls Tryd.prog 17 #[v] w fun e w' => e = .returned (.int .i64 p.2) ∧ Below w.heap.size w w' := by
 rcases hv with ⟨_, h2, rfl⟩ | ⟨_, h2, rfl⟩ | ⟨_, _, _, b, rfl, hx⟩
 · rw [h2]
   exact Rule_no _ w (fun W _ a => (as_nilR _ W).mono fun _ _ ⟨he, hw⟩ => by subst hw; exact ⟨he, Below.refl _ _⟩)
 · rw [h2]
   exact Rule_no _ w (fun W hW a => as_esR _ a W (Handle.below (w := w) hg hW))
 · exact Rule_yes b p.2 w hg (Box.cell (W := w) hx 0 _ rfl)
def encE (p : Int × Int) : Option Int := if p.1 = 0 then none else some (p.1 + 16 * (p.2 + 1))
def kindE : Option Int → Int
 | none => 0
 | some c => c % 16
def ruleE : Option Int → Int
 | none => -1
 | some c => c / 16 - 1
def ErrF (ad : Int → Addr) (w : World) (v : Value) (r : Option Int) : Prop := ∃ p, ErrW ad w v p ∧ r = encE p
theorem ErrF.below {ad : Int → Addr} {w w' : World} {v : Value} {r : Option Int} (h : ErrF ad w v r) (hb : Below w.heap.size w w') : ErrF ad w' v r := by
 obtain ⟨p, h1, h2⟩ := h
 exact ⟨p, h1.below hb, h2⟩
theorem SentsK.three {ad : Int → Addr} {w : World} (h : SentsK ad w) : Go.Proofs.YtaeaookonhaliaaDoor.B.Sents ad w := by
 obtain ⟨⟨h1, h2, h3, h4, h5, h6, h7, h8, h9, h10, h11, h12, h13, h14, h15⟩, _, _⟩ := h
 exact ⟨h3, h10, h1⟩
theorem Check_any (ad : Int → Addr) (A0 : Option Addr) (c0 : Nat) (l0 : List ByteArray) (A1 : Option Addr) (c1 : Nat) (l1 : List ByteArray) (a2 : Int) (A3 : Option Addr) (c3 : Nat) (l3 : List S55) (w : World) (hs : SentsK ad w) (hr0 : Kd.C Kd.string w A0 l0.length l0) (hc0 : l0.length ≤ c0) (hr1 : Kd.C Kd.string w A1 l1.length l1) (hc1 : l1.length ≤ c1) (hr3 : Kd.C k55 w A3 l3.length l3) (hc3 : l3.length ≤ c3) :
 Calls Tryd.prog 26 #[.agg #[.slice A0 l0.length c0, .slice A1 l1.length c1, .int .i64 a2, .slice A3 l3.length c3]] w fun e w' => (∃ v, e = .returned v ∧ ErrV ad w' v (chk (namesOK l0) (namesOK l1) l0.length l1.length a2 l3)) ∧ Below w.heap.size w w' := by
 have m0 := C_max hr0
 have m1 := C_max hr1
 exact Check_full ad _ A0 c0 l0 A1 c1 l1 a2 A3 c3 l3 _ _ w (SentsK.three hs) hr0 hc0 hr1 hc1 hr3 hc3 (Names_f l0 (l0.length + l0.length + l1.length + l1.length + 2) m0 (by omega)) (Names_f l1 (l0.length + l0.length + l1.length + l1.length + 2) m1 (by omega))
def dovetailkit_Kind.f (a0 : Option Int) : Option Int := some (kindE a0)
def dovetailkit_Rule.f (a0 : Option Int) : Option Int := some (ruleE a0)
end Go.Proofs.YtaeaookonhaliaaDoor.F
/- opform.bare: walked. -/
namespace Go.Proofs.YtaeaookonhaliaaDoor.R6
open Go.RowKit YtaeaookonhaliaaDoorW.PrintWords YtaeaookonhaliaaDoorW.PrintLast YtaeaookonhaliaaDoorW.PrintMore
open B H F
attribute [local go_sem] max2_int max_two

theorem setCells_block (g : Nat) (t : TypeId) : ∀ (vs pre mid : List Value) (w : World), mid.length = vs.length → w.heap[g]? = some (.cells (pre ++ mid).toArray t (0, 0)) → (w.setCells g pre.length vs).heap[g]? = some (.cells (pre ++ vs).toArray t (0, 0))
 | [], pre, mid, w, h, hg => by
  obtain rfl : mid = [] := List.length_eq_zero_iff.1 h
  exact hg
 | v :: vs, pre, [], w, h, hg => by simp at h
 | v :: vs, pre, m :: mid, w, h, hg => by
  rw [World.setCells]
  have h1 := heap_setCell_same w g pre.length _ t v hg
  have h2 : (pre ++ m :: mid).toArray.setIfInBounds pre.length v = ((pre ++ [v]) ++ mid).toArray := by simp
  rw [h2] at h1
  have h3 := setCells_block g t vs (pre ++ [v]) mid _ (by simpa using h) h1
  simpa using h3
theorem setCells_other (g : Nat) : ∀ (vs : List Value) (o : Nat) (w : World) (k : Nat), k ≠ g → (w.setCells g o vs).heap[k]? = w.heap[k]?
 | [], _, _, _, _ => rfl
 | v :: vs, o, w, k, h => by
  rw [World.setCells, setCells_other g vs (o + 1) _ k h]
  exact heap_setCell_other w _ k v h
theorem below_setCells {B g : Nat} {w0 : World} (hB : B ≤ g) : ∀ (vs : List Value) (o : Nat) (w : World), Below B w0 w → Below B w0 (w.setCells g o vs)
 | [], _, _, h => h
 | v :: vs, o, w, h => by
  rw [World.setCells]
  exact below_setCells hB vs (o + 1) _ (h.setCell (p := ⟨g, o, none⟩) hB v)

def mx (s : Int) : Int := if s < -1 then -1 else s
def barL (l : List Int) (k : Nat) : List Int := (l.length : Int) :: ((l.take k).map mx ++ List.replicate (32 - k) 0)
def barC (l : List Int) (k : Nat) : Array Value := ((barL l k).map (Value.int .i64)).toArray
theorem barL_len (l : List Int) (k : Nat) (hk : k ≤ l.length) (hl : l.length ≤ 32) : (barL l k).length = 33 := by
 unfold barL
 simp only [List.length_cons, List.length_append, List.length_map, List.length_take, List.length_replicate]
 omega
theorem barC_size (l : List Int) (k : Nat) (hk : k ≤ l.length) (hl : l.length ≤ 32) : (barC l k).size = 33 := by
 unfold barC
 rw [List.size_toArray, List.length_map, barL_len l k hk hl]
theorem barL_set (l : List Int) (k : Nat) (hk : k < l.length) (hl : l.length ≤ 32) : (barL l k).set (k + 1) (mx l[k]) = barL l (k + 1) := by
 unfold barL
 rw [List.set_cons_succ, List.take_succ_eq_append_getElem hk, List.map_append]
 have h1 : ((l.take k).map mx).length = k := by rw [List.length_map, List.length_take]; omega
 have h2 : List.replicate (32 - k) (0 : Int) = 0 :: List.replicate (32 - (k + 1)) 0 := by
  rw [← List.replicate_succ]; congr 1; omega
 rw [h2, List.set_append_right _ _ (by omega), h1, Nat.sub_self, List.set_cons_zero]
 simp
theorem barC_set (l : List Int) (k : Nat) (hk : k < l.length) (hl : l.length ≤ 32) : (barC l k).setIfInBounds (k + 1) (.int .i64 (mx l[k])) = barC l (k + 1) := by
 unfold barC
 rw [← barL_set l k hk hl]
 simp
theorem barC_at (l : List Int) (k : Nat) (hk : k < l.length) (hl : l.length ≤ 32) : (barC l k)[k + 1]? = some (.int .i64 0) := by
 have h1 : ((l.take k).map mx).length = k := by rw [List.length_map, List.length_take]; omega
 have h2 : List.replicate (32 - k) (0 : Int) = 0 :: List.replicate (32 - (k + 1)) 0 := by
  rw [← List.replicate_succ]; congr 1; omega
 unfold barC barL
 rw [h2]
 simp [List.getElem?_append, h1]
 rw [Nat.min_eq_left (by omega), if_neg (by omega), Nat.sub_self]
 rfl
def zK : Array Value := (List.replicate 33 (Value.int .i64 0)).toArray
theorem barC_one (l : List Int) (k : Nat) : (barC l k).all (·.oneCell') = true := all_oneCell_toArray (fun v hv => by
 obtain ⟨x, _, rfl⟩ := List.mem_map.1 hv
 rfl)
structure BR (w : World) (r b : Nat) (cs : Array Value) (W : World) : Prop where
 low : Below w.heap.size w W
 hr : w.heap.size ≤ r
 hb : w.heap.size ≤ b
 ne : r ≠ b
 rb : W.heap[r]? = some (.cells zK 59 (0, 0))
 kb : W.heap[b]? = some (.cells cs 59 (0, 0))
section
variable {w W : World} {r b : Nat} {cs : Array Value}
theorem BR.set (h : BR w r b cs W) (i : Nat) (v : Value) : BR w r b (cs.setIfInBounds i v) (W.setCell ⟨b, i, none⟩ v) :=
 ⟨h.low.setCell (p := ⟨b, i, none⟩) h.hb v, h.hr, h.hb, h.ne, (heap_setCell_other W _ _ v h.ne).trans h.rb, heap_setCell_same W _ i cs _ v h.kb⟩
theorem BR.cell (h : BR w r b cs W) (i : Nat) : W.cell? ⟨b, i, none⟩ = cs[i]? := cell_of_row W _ i cs _ _ h.kb
theorem BR.frozen (h : BR w r b cs W) (i : Nat) : W.frozen? ⟨b, i, none⟩ = false := frozen_of_row W _ i cs _ h.kb
theorem BR.whole (h : BR w r b cs W) (vs : List Value) (hl : vs.length = cs.size) : BR w r b vs.toArray (W.setCells b 0 vs) :=
 ⟨below_setCells h.hb _ _ _ h.low, h.hr, h.hb, h.ne, (setCells_other b vs 0 W r h.ne).trans h.rb, by
  have := setCells_block b 59 vs [] cs.toList W (by simpa using hl.symm) (by simpa using h.kb)
  simpa using this⟩
theorem BR.there (h : BR w r b cs W) : W.there b 0 cs.size := fun j hj => by
 refine ⟨?_, frozen_of_row W _ _ _ _ h.kb⟩
 rw [Nat.zero_add, h.cell, Array.getElem?_eq_getElem hj]
 rfl
end
theorem infoKey : (Tryd.prog.info? 59).map (·.size) = some 33 := by kernel_rfl
set_option maxRecDepth 100000 in
set_option maxHeartbeats 4000000 in
theorem bare_calls (A : Option Addr) (c : Nat) (l : List Int) (w : World) (hr : Kd.C (Kd.int .i64) w A l.length l) (hl : l.length ≤ 32) :
 Calls Tryd.prog 28 #[.slice A l.length c] w fun e w' => e = .returned (.agg (barC l l.length)) ∧ Below w.heap.size w w' := by
 obtain ⟨ca, hca⟩ : ∃ ca, ca = barC l l.length := ⟨_, rfl⟩
 rw [← hca]
 have HCA := Lib.hid hca
 clear hca
 have HR := Aside0.mk hr
 clear hr
 go_enter Tryd.func28, Tryd.ntmps28
 go_wp2_with (first
  | ((with_reducible refine gate_dst (N := 2) rfl ?_); refine box_event rfl (N := 2) rfl (cs := zK) (t := 59) ?hr ?_; (case hr => kernel_rfl); intro r hr1 w1 hb1 hl1; have B1 := Aside0.mk (And.intro hr1 (And.intro hb1 hl1)); clear hr1 hb1 hl1)
  | ((with_reducible refine gate_dst (N := 3) rfl ?_); refine box_event rfl (N := 3) rfl (cs := zK) (t := 59) ?hr ?_; (case hr => kernel_rfl); intro b hr2 w2 hb2 hl2; have B2 := Aside0.mk (And.intro hr2 (And.intro hb2 hl2)); clear hr2 hb2 hl2)
  | ((with_reducible refine gate_store (t := 59) (p := 3) (v := .tmp 8) rfl ?_); refine Aside0.out ?_))
 refine Aside0.mk ?_
 obtain ⟨e1, h1, l1⟩ := B1.out
 obtain ⟨e2, h2, l2⟩ := B2.out
 clear B1 B2
 have hrlt : r < w1.heap.size := (Array.getElem?_eq_some_iff.1 h1).1
 have br0 : BR w r b zK w2 := ⟨l1.trans (l2.mono l1.size), by omega, by have := l1.size; omega, by omega, (l2.block r hrlt).trans h1, h2⟩
 have br1 := br0.whole (barC l 0).toList (by rw [Array.length_toList, barC_size l 0 (Nat.zero_le _) hl]; rfl)
 refine wpList_store_mid rfl 59 (.tmp 3) (.tmp 8) rfl b 0 (barC l 0) rfl rfl (by rw [barC_size l 0 (Nat.zero_le _) hl]; exact br0.there) (by rw [barC_size l 0 (Nat.zero_le _) hl]; exact infoKey) (barC_one l 0) ?_
 obtain ⟨w3, hw3⟩ : ∃ w3, w3 = w2.setCells b 0 (barC l 0).toList := ⟨_, rfl⟩
 rw [← hw3] at br1 ⊢
 have ST : Aside0 (BR w r b (barC l 0) w3) := ⟨br1⟩
 clear br0 br1 h1 h2 l1 l2 e1 e2 hrlt
 clear hw3
 go_wp2_with fail
 go_loopw [11] (fun i wq => ∃ k : Nat, k ≤ l.length ∧ i = .int .i64 k ∧ Aside0 (BR w r b (barC l k) wq)) (fun i _ => l.length - (intOf i).toNat)
 case atStart => exact ⟨0, Nat.zero_le _, rfl, ST⟩
 case round =>
  clear ST
  obtain ⟨k, hk, rfl, tr⟩ := hrel
  by_cases hlt : k < l.length
  · obtain ⟨ad, rfl, hx⟩ := Kd.at_int (Kd.C_below HR.out tr.out.low) (k : Int) (by omega) (by omega)
    rw [Int.toNat_natCast, rd_D, getD_lt _ _ _ hlt] at hx
    have fc := tr.out.cell (k + 1)
    rw [barC_at l k hlt hl] at fc
    have ff := tr.out.frozen (k + 1)
    have HS : Aside0 (BR w r b (barC l (k + 1)) (wr.setCell ⟨b, k + 1, none⟩ (.int .i64 (mx l[k])))) := ⟨by rw [← barC_set l k hlt hl]; exact tr.out.set _ _⟩
    unfold mx at HS
    generalize l[k] = x at hx HS
    have hk32 : (k : Int) + 1 < 33 := by omega
    by_cases hx1 : x < -1
    · rw [if_pos hx1] at HS
      go_wp2_with fail
      go_roundw
      case measure => simp [intOf]; omega
      case rel => exact ⟨k + 1, by omega, by go_num, HS⟩
    · rw [if_neg hx1] at HS
      go_wp2_with fail
      go_roundw
      case measure => simp [intOf]; omega
      case rel => exact ⟨k + 1, by omega, by go_num, HS⟩
  · obtain rfl : k = l.length := by omega
    have hsz := barC_size l l.length (Nat.le_refl _) hl
    have HKB := Aside0.mk tr.out.kb
    have HI : Aside0 ((Tryd.prog.info? 59).map (·.size) = some (barC l l.length).size) := ⟨by rw [hsz]; exact infoKey⟩
    have hrb := tr.out.rb
    have HTH : Aside0 (wr.there r 0 (barC l l.length).size) := ⟨fun j hj => by
     rw [hsz] at hj
     refine ⟨?_, frozen_of_row wr _ _ _ _ hrb⟩
     rw [cell_of_row wr _ _ _ _ _ hrb, Nat.zero_add, Array.getElem?_eq_getElem (by simpa [zK] using hj)]
     rfl⟩
    have HON := Aside0.mk (barC_one l l.length)
    have HF : Aside0 ((wr.setCells r 0 (barC l l.length).toList).heap[r]? = some (.cells (barC l l.length) 59 (0, 0))) := ⟨by
     have := setCells_block r 59 (barC l l.length).toList [] zK.toList wr (by rw [Array.length_toList, Array.length_toList, hsz]; rfl) (by simpa using hrb)
     simpa using this⟩
    have HL : Aside0 (Below w.heap.size w (wr.setCells r 0 (barC l l.length).toList)) := ⟨below_setCells tr.out.hr _ _ _ tr.out.low⟩
    rw [← HCA.out] at HKB HI HTH HON HF HL
    clear hrb tr hsz
    go_wp2_with (first
     | ((with_reducible refine gate_dst (N := 22) rfl ?_); refine wpList_load_row rfl 59 (.tmp 3) rfl b rfl 59 ca (0, 0) _ HKB.out Tryd.underlying59 rfl HI.out ?_)
     | ((with_reducible refine gate_store (t := 59) (p := 2) (v := .tmp 22) rfl ?_); refine wpList_store_mid rfl 59 (.tmp 2) (.tmp 22) rfl r 0 ca rfl rfl HTH.out HI.out HON.out ?_))
    refine bodyPost_ret (results_cell_row rfl _ _ r 59 ca (0, 0) _ rfl HF.out Tryd.underlying59 rfl HI.out) rfl ?_
    exact ⟨rfl, HL.out⟩
end Go.Proofs.YtaeaookonhaliaaDoor.R6
/- opform.Skeleton: walked. -/
namespace Go.Proofs.YtaeaookonhaliaaDoor.R6
open Go.RowKit YtaeaookonhaliaaDoorW.PrintWords YtaeaookonhaliaaDoorW.PrintLast YtaeaookonhaliaaDoorW.PrintMore
open B H F

theorem plain_int : Tryd.prog.plainKey 3 = true := by kernel_rfl
theorem eqItems_same (d : Nat) (w : World) (L : List Int) : ∀ is : List Nat, (∀ i ∈ is, i < L.length) → (Op.eqItems (d + 1) 3 1 (L.map (Value.int .i64)).toArray (L.map (Value.int .i64)).toArray is).run Tryd.prog w = .ok true w
 | [], _ => rfl
 | i :: is, h => by
  have hi := h i List.mem_cons_self
  have hp : (part 3 (L.map (Value.int .i64)).toArray (i * 1)).run Tryd.prog w = .ok (.int .i64 L[i]) w := run_part_plain w plain_int (by simp [hi])
  have he := run_equalIn_int (P := Tryd.prog) w d 3 .i64 .i64 L[i] L[i] Tryd.underlying3
  have ih := eqItems_same d w L is (fun j hj => h j (List.mem_cons_of_mem _ hj))
  simp only [Op.eqItems, Sem.run_bind, hp, Result.andThen_ok, he, beq_self_eq_true, Bool.not_true, Bool.false_eq_true, if_false]
  exact ih
theorem eqItems_first (d : Nat) (w : World) (a b : Int) (hab : a ≠ b) (xs ys : Array Value) (hx : xs[0]? = some (.int .i64 a)) (hy : ys[0]? = some (.int .i64 b)) (is : List Nat) : (Op.eqItems (d + 1) 3 1 xs ys (0 :: is)).run Tryd.prog w = .ok false w := by
 have h1 : (part 3 xs (0 * 1)).run Tryd.prog w = .ok (.int .i64 a) w := run_part_plain w plain_int hx
 have h2 : (part 3 ys (0 * 1)).run Tryd.prog w = .ok (.int .i64 b) w := run_part_plain w plain_int hy
 have he := run_equalIn_int (P := Tryd.prog) w d 3 .i64 .i64 a b Tryd.underlying3
 have hb : (a == b) = false := beq_false_of_ne hab
 simp only [Op.eqItems, Sem.run_bind, h1, h2, Result.andThen_ok, he, hb, Bool.not_false, if_true, Sem.run_pure]
theorem cells_int : Tryd.prog.cellsOf 3 = 1 := by kernel_rfl
theorem keyEq (l : List Int) (hl : l.length ≤ 32) (w : World) : (Op.equal 59 (.agg (barC l l.length)) (.agg (barC [] 0))).run Tryd.prog w = .ok (decide (l = [])) w := by
 obtain ⟨i, hi⟩ : ∃ i, Tryd.prog.info? 3 = some i := by
  have : (Tryd.prog.info? 3).isSome = true := by kernel_rfl
  exact Option.isSome_iff_exists.1 this
 have hr := run_equalIn_array (P := Tryd.prog) (w := w) 9999 (barC l l.length) (barC [] 0) Tryd.underlying59 hi
 unfold Op.equal
 refine hr.trans ?_
 rw [cells_int]
 by_cases h : l = []
 · subst h
   exact eqItems_same 9998 w (barL [] 0) (List.range 33) (fun i hi => by rw [barL_len [] 0 (Nat.le_refl _) (by simp)]; exact List.mem_range.1 hi)
 · rw [decide_eq_false h]
   have hl0 : (l.length : Int) ≠ 0 := by
    have := List.length_pos_iff.2 h
    omega
   exact eqItems_first 9998 w l.length 0 hl0 _ _ rfl rfl (List.range' 1 32)
theorem infoI : (Tryd.prog.info? 3).map (fun i => (i.zero, i.size, i.bytes)) = some (some (.int .i64 0), 1, 8) := by kernel_rfl
set_option maxRecDepth 100000 in
theorem clip_calls (A : Option Addr) (n c : Nat) (w : World) (hc : n ≤ c) (hm : n ≤ 9223372036854775807) :
 Calls Tryd.prog 29 #[.slice A n c] w fun e w' => e = .returned (.slice A n n) ∧ Below w.heap.size w w' := by
 go_enter Tryd.func29, Tryd.ntmps29
 go_wp2_with fail
 go_ret
 exact ⟨rfl, Below.refl _ w⟩
theorem mx_max (s : Int) : mx s = max s (-1) := by unfold mx; split <;> omega
theorem run_load_row {P : Program} {o : Oper} {a : Act} {w : World} (ty : TypeId) (x : Operand) (ho : o.op = .load ty x) (g : Nat) (hx : a.eval x = .pointer (some ⟨g, 0, none⟩)) (t : TypeId) (cs : Array Value) (fr : Nat × Nat) (d : TypeDesc) (hg : w.heap[g]? = some (.cells cs t fr))
 (hu : P.underlying ty = some d) (hd : (match d with | .struct _ | .array _ _ => true | _ => false) = true) (hi : (P.info? ty).map (·.size) = some cs.size) : (execOp a.eval o).run P w = .ok (.value (.agg cs)) w := by
 unfold execOp
 simp only [ho, hx, Instr.loadAt, Instr.sureAddr, Sem.run_bind, Sem.run_pure, Result.andThen_ok, run_loadVar_row w g t ty cs fr d hg hu hd hi]
theorem add1 (b n : Nat) : (⟨b, 1, none⟩ : Addr).add n = ⟨b, 1 + n, none⟩ := by
 unfold Addr.add
 by_cases h : n = 0
 · rw [if_pos h, h]
 · rw [if_neg h]
theorem key_row {W : World} {b : Nat} {t : TypeId} (r : List Int) (hl : r.length ≤ 32) (h : W.heap[b]? = some (.cells (barC r r.length) t (0, 0))) : Kd.C (Kd.int .i64) W (some ⟨b, 1, none⟩) r.length (r.map mx) :=
 ⟨by rw [List.length_map], by omega, fun _ => ⟨_, rfl, fun i p hp => ⟨[.int .i64 p], rfl, rfl, fun ii u hu => by
  obtain rfl : ii = 0 := by
   rcases ii with _ | ii
   · rfl
   · simp at hu
  obtain rfl : Value.int .i64 p = u := by simpa using hu
  show W.cell? ((⟨b, 1, none⟩ : Addr).add (i * 1 + 0)) = _
  have hi : i < r.length := by
   have := (List.getElem?_eq_some_iff.1 hp).1
   rwa [List.length_map] at this
  rw [add1, cell_of_row W _ _ _ _ _ h, Nat.mul_one, Nat.add_zero, Nat.add_comm]
  have hb : (barL r r.length)[i + 1]? = some p := by
   unfold barL
   rw [List.getElem?_cons_succ, List.take_length, List.getElem?_append_left (by rw [List.length_map]; exact hi)]
   exact hp
  unfold barC
  rw [List.getElem?_toArray, List.getElem?_map, hb]
  rfl⟩⟩⟩
theorem arrLen : Tryd.prog.arrayLen 59 = 33 := by kernel_rfl
theorem arrUnd : Tryd.prog.underlying 59 = some (.array (Tryd.prog.arrayLen 59) (Tryd.prog.elem 59)) := by kernel_rfl
theorem arrElem : Tryd.prog.elem 59 = 3 := by kernel_rfl
theorem run_sliceKey (w : World) (b m : Nat) (hm : m ≤ 32) : (Instr.sliceAt 59 (.pointer (some ⟨b, 0, none⟩)) (some (.int .i64 1)) (some (.int .i64 ((m : Int) + 1))) none).run Tryd.prog w = .ok (.slice (some ⟨b, 1, none⟩) m 32) w := by
 obtain ⟨i, hi⟩ : ∃ i, Tryd.prog.info? 3 = some i := by
  have : (Tryd.prog.info? 3).isSome = true := by kernel_rfl
  exact Option.isSome_iff_exists.1 this
 rw [run_sliceAt_array_lh (P := Tryd.prog) w 59 ⟨b, 0, none⟩ arrUnd .i64 .i64 1 ((m : Int) + 1) (by decide) (by omega) (by rw [arrLen]; omega), arrElem, run_sizeOf w hi, Result.andThen_ok, cells_int, arrLen]
 have h1 : ((m : Int) + 1).toNat - (1 : Int).toNat = m := by omega
 unfold slicedAt
 rw [h1]
 rfl
def lenV : Value → Nat
 | .slice _ n _ => n
 | _ => 0
set_option maxRecDepth 100000 in
set_option maxHeartbeats 4000000 in
theorem Skeleton_calls (A : Option Addr) (c : Nat) (l : List Int) (w : World) (hr : Kd.C (Kd.int .i64) w A l.length l) (hc : l.length ≤ c) (hl : l.length < 17592186044415) :
 Calls Tryd.prog 8 #[.slice A l.length c] w fun e w' => ∃ B cap, e = .returned (.slice B l.length l.length) ∧ Kd.R (Kd.int .i64) 3 w' w.heap.size (fun _ => True) (.slice B l.length cap) (l.map mx) ∧ Below w.heap.size w w' := by
 have HR : Aside0 (Kd.C (Kd.int .i64) w A (l.drop 0).length (l.drop 0)) := ⟨hr⟩
 clear hr
 go_enter Tryd.func8, Tryd.ntmps8
 go_wp2_with fail
 go_loopw [0, 3] (fun r o wq => ∃ (j : Nat) (B : Option Addr) (d m : Nat), j ≤ l.length ∧ Hid (m = (l.drop j).length) ∧ r = .slice B m d ∧ m ≤ d ∧ Aside0 (Kd.C (Kd.int .i64) w B (l.drop j).length (l.drop j)) ∧ Aside0 (Kd.R (Kd.int .i64) 3 wq w.heap.size (fun _ => True) o ((l.take j).map mx)) ∧ Aside0 (Below w.heap.size w wq)) (fun r _ _ => lenV r)
 case atStart => exact ⟨0, A, c, l.length, Nat.zero_le _, Lib.hid rfl, rfl, hc, HR, ⟨Kd.R_nil _ _ _ _ _⟩, ⟨Below.refl _ _⟩⟩
 case round =>
  clear HR
  obtain ⟨j, B, d, m, hj, hm, rfl, hmd, hB, ho, hw⟩ := hrel
  have hml := hm.out
  rw [List.length_drop] at hml
  by_cases hlt : 32 < m
  · have hcb := hB.out
    rw [← hm.out] at hcb
    obtain ⟨ad, rfl, hx⟩ := Kd.at_int (Kd.C_below hcb hw.out) (0 : Int) (by omega) (by omega)
    have hrd : rd (l.drop j) (0 : Int) = l[j] := by simp [rd, List.getD_eq_getElem?_getD, List.getElem?_drop, show j < l.length by omega]
    rw [hrd] at hx
    replace hx : wr.cell? ad = some (.int .i64 l[j]) := hx
    have HT : Hid ((l.take (j + 1)).map mx = (l.take j).map mx ++ [mx l[j]]) := Lib.hid (by rw [List.take_succ_eq_append_getElem (by omega), List.map_append]; rfl)
    have HTL : Hid (((l.take j).map mx).length ≤ l.length) := Lib.hid (by rw [List.length_map, List.length_take]; omega)
    have HD : Aside0 (Kd.C (Kd.int .i64) w (some (ad.add 1)) (l.drop (j + 1)).length (l.drop (j + 1))) := ⟨by
     have := Kd.C_drop (m := 1) (c := d) hB.out (by rw [← hm.out]; omega) (by rw [← hm.out]; exact hmd)
     rw [if_neg (by omega), List.drop_drop] at this
     exact this⟩
    have hsz := hw.out.size
    rw [mx_max] at HT
    generalize l[j] = x at hx HT
    have d1 : decide ((32 : Int) < (m : Int)) = true := decide_eq_true (by omega)
    have d2 : decide (32 < m) = true := decide_eq_true hlt
    have HML := Lib.hid hml
    have HLT := Lib.hid hlt
    clear hcb hrd hml
    go_wp2_with (first
     | ((with_reducible refine gate_builtin (b := .append) (xs := #[.tmp 8, .tmp 13]) rfl ?_); at_builtin; go_loud (refine Kd.R_append (Kd.int .i64) (w0 := w) w.heap.size rfl (.tmp 8) (.tmp 13) 22 3 (.int .i64 0) 8 rfl Tryd.underlying22 infoI rfl (by decide) (by decide) u3 ((l.take j).map mx) (max x (-1)) [.int .i64 (max x (-1))] (fun _ => True) (fun _ => False) rfl rfl rfl (fun _ hk => hk.elim) (fun _ _ => trivial) ho.out hw.out hsz ?aL ?_; (case aL => have := HTL.out; omega); intro v1 w5 hR hB5 hg hat'; have T5 := Aside0.mk (And.intro hR hB5); clear hR hB5 hg hat')))
    go_roundw
    case measure => simp [lenV]; omega
    case rel => exact ⟨j + 1, some (ad.add 1), d - 1, m - 1, by have := HML.out; omega, Lib.hid (by have := HML.out; rw [List.length_drop]; omega), by simp [Addr.add], by omega, HD, ⟨by rw [HT.out]; exact T5.out.1⟩, ⟨T5.out.2⟩⟩
  · have d1 : decide ((32 : Int) < (m : Int)) = false := decide_eq_false (by omega)
    have d2 : decide (32 < m) = false := decide_eq_false hlt
    have hm32 : (l.drop j).length ≤ 32 := by rw [List.length_drop]; omega
    have KB1 : Aside0 (∀ W, Below w.heap.size w W → Calls Tryd.prog 28 #[.slice B m d] W fun e w' => e = .returned (.agg (barC (l.drop j) (l.drop j).length)) ∧ Below W.heap.size W w') := ⟨fun W hW => by
     rw [hm.out]; exact bare_calls B d (l.drop j) W (Kd.C_below hB.out hW) hm32⟩
    obtain ⟨ka, hka⟩ : ∃ ka, ka = barC (l.drop j) (l.drop j).length := ⟨_, rfl⟩
    rw [← hka] at KB1
    have HKA := Lib.hid hka
    have HML := Lib.hid hml
    clear hka hml hm32
    go_wp2_with (first
     | (go_at_call 28; (with_reducible refine (KB1.out _ hw.out).mono ?_); rintro e w4 ⟨rfl, b4⟩; have B4 := Aside0.mk b4; clear b4)
     | ((with_reducible refine gate_dst (N := 4) rfl ?_); refine box_event rfl (N := 4) rfl (cs := zK) (t := 59) ?hr ?_; (case hr => kernel_rfl); intro b hb w5 h5 l5; have B5 := Aside0.mk (And.intro hb (And.intro h5 l5)); clear hb h5 l5)
     | ((with_reducible refine gate_store (t := 59) (p := 4) (v := .tmp 18) rfl ?_); refine Aside0.out ?_))
    refine Aside0.mk ?_
    obtain ⟨eb, h5, l5⟩ := B5.out
    have b4 := B4.out
    have hks : ka.size = 33 := by rw [HKA.out]; exact barC_size _ _ (Nat.le_refl _) (by have := HML.out; rw [List.length_drop]; omega)
    have hko : ka.all (·.oneCell') = true := by rw [HKA.out]; exact barC_one _ _
    have hth : w5.there b 0 ka.size := fun i hi => by
     rw [hks] at hi
     refine ⟨?_, frozen_of_row w5 _ _ _ _ h5⟩
     rw [cell_of_row w5 _ _ _ _ _ h5, Nat.zero_add, Array.getElem?_eq_getElem (by simpa [zK] using hi)]
     rfl
    have hinf : (Tryd.prog.info? 59).map (·.size) = some ka.size := by rw [hks]; exact infoKey
    refine wpList_store_mid rfl 59 (.tmp 4) (.tmp 18) rfl b 0 ka rfl rfl hth hinf hko ?_
    have h6 : (w5.setCells b 0 ka.toList).heap[b]? = some (.cells ka 59 (0, 0)) := by
     have := setCells_block b 59 ka.toList [] zK.toList w5 (by rw [Array.length_toList, Array.length_toList, hks]; rfl) (by simpa using h5)
     simpa using this
    have hwb : w.heap.size ≤ b := by have := hw.out.size; have := b4.size; omega
    have low4 : Below w.heap.size w w4 := hw.out.trans (b4.mono hw.out.size)
    have low6 : Below w.heap.size w (w5.setCells b 0 ka.toList) := below_setCells hwb _ _ _ (low4.trans (l5.mono low4.size))
    have up6 : Below w4.heap.size w4 (w5.setCells b 0 ka.toList) := below_setCells (by omega) _ _ _ l5
    have R6 : Kd.R (Kd.int .i64) 3 (w5.setCells b 0 ka.toList) w.heap.size (fun _ => True) u3 ((l.take j).map mx) := Kd.R_below (Kd.R_below ho.out b4) up6
    obtain ⟨w6, hw6⟩ : ∃ w6, w6 = w5.setCells b 0 ka.toList := ⟨_, rfl⟩
    rw [← hw6] at h6 low6 R6 ⊢
    have H6 := Aside0.mk h6
    have L6 := Aside0.mk low6
    have HR6 := Aside0.mk R6
    have HI := Aside0.mk hinf
    have HKE : Aside0 (∀ W : World, (Op.equal 59 (.agg ka) (.agg (barC [] 0))).run Tryd.prog W = .ok (decide (l.drop j = [])) W) := ⟨fun W => by rw [HKA.out]; exact keyEq _ (by have := HML.out; rw [List.length_drop]; omega) W⟩
    have KB0 : Aside0 (∀ W, Calls Tryd.prog 28 #[.slice none 0 0] W fun e w' => e = .returned (.agg (barC [] 0)) ∧ Below W.heap.size W w') := ⟨fun W => bare_calls none 0 [] W (Kd.C_nil _ _) (by simp)⟩
    clear h6 low6 R6 hw6 up6 low4 h5 l5 b4 eb hko hth hinf B4 B5 KB1 hks
    obtain ⟨k0, hk0⟩ : ∃ k0, k0 = barC [] 0 := ⟨_, rfl⟩
    rw [← hk0] at HKE KB0
    clear hk0
    go_wp2_with fail
    simp only [Act.put]
    refine start_ (n := 3) (S := fun W => W.heap[b]? = some (.cells ka 59 (0, 0))) (ds := []) #[false, false, false] ?h1 ?h2 ?h3 H6.out (fun hHeld => ?_)
    case h1 => kernel_rfl
    case h2 => rfl
    case h3 => rfl
    refine take_ (i := 0) (N := some 19) (v := .agg ka) #[true, false, false] rfl rfl (by kernel_rfl) (fun _ _ _ h => h) (Or.inl ⟨by rfl, fun w' s0 => run_load_row 59 (.tmp 4) rfl b rfl 59 ka (0, 0) _ s0 Tryd.underlying59 rfl HI.out⟩) hHeld rfl ?_
    refine one_ (i := 1) (N := some 20) #[true, true, false] rfl rfl (by kernel_rfl) (by simp) (fun K hK => ?_)
    refine goes_ Tryd.func28 (by kernel_rfl) rfl #[.slice none 0 0] (by rfl) rfl rfl (by simp only [List.map_toArray, List.map_cons, List.map_nil]; rfl) ?_
    refine (KB0.out _).mono ?_
    rintro e w7 ⟨rfl, b7⟩
    have h7 : w7.heap[b]? = some (.cells ka 59 (0, 0)) := (b7.block b (Array.getElem?_eq_some_iff.1 hHeld).1).trans hHeld
    refine ⟨_, rfl, hK.out _ _ h7 (fun hHeld7 => ?_)⟩
    clear hK K
    refine one_ (i := 2) (N := some 21) #[true, true, true] rfl rfl (by kernel_rfl) (by simp) (fun K hK => ?_)
    obtain ⟨q, hqd⟩ : ∃ q : Bool, q = decide (l.drop j = []) := ⟨_, rfl⟩
    have hq : (Op.equalIn 10000 59 (.agg ka) (.agg k0)).run Tryd.prog w7 = .ok q w7 := by rw [hqd]; exact HKE.out w7
    refine value_ (w1 := w7) (v := .bool q) (by rfl) rfl ?_ ?_
    · go_simp
    refine hK.out _ _ h7 (fun hHeld8 => ?_)
    clear hK K
    refine done_ (by kernel_rfl) ?_
    simp only [Act.put, List.setIfInBounds_toArray, List.set_cons_zero, List.set_cons_succ]
    have low7 := (L6.out.drew).trans (b7.mono L6.out.drew.size)
    have R7 := Kd.R_below (Kd.R_drew HR6.out) b7
    have HQ := Lib.hid hqd
    clear hq hHeld hHeld7 hHeld8 b7
    by_cases hm0 : m = 0
    · have hjl : j = l.length := by have := HML.out; omega
      have hqt : q = true := by rw [HQ.out, decide_eq_true]; rw [hjl]; exact List.drop_length
      subst hqt
      rw [hjl, List.take_length] at R7
      obtain ⟨B', cap, ev⟩ := Kd.R_slice R7
      rw [ev] at R7
      obtain ⟨_, hcl, hcr⟩ := Kd.R_reads' R7
      rw [List.length_map] at ev hcl R7
      subst ev
      have R7A := Aside0.mk R7
      have L7 := Aside0.mk low7
      have KCl : Aside0 (∀ W, Calls Tryd.prog 29 #[.slice B' l.length cap] W fun e w' => e = .returned (.slice B' l.length l.length) ∧ Below W.heap.size W w') := ⟨fun W => clip_calls B' l.length cap W hcl (by omega)⟩
      clear R7 low7 hcr h7
      go_wp2_with (first
       | (go_at_call 29; (with_reducible refine (KCl.out _).mono ?_); rintro e w8 ⟨rfl, b8⟩))
      have hv := Ending.returned.inj (by assumption : Ending.returned (Value.slice B' l.length l.length) = Ending.returned _)
      subst hv
      go_ret
      exact ⟨B', cap, rfl, Kd.R_below R7A.out b8, L7.out.trans (b8.mono L7.out.size)⟩
    · have hqf : q = false := by
       rw [HQ.out, decide_eq_false]
       intro e
       have := congrArg List.length e
       rw [List.length_drop] at this
       have h2 := HML.out
       rw [List.length_nil] at this
       omega
      subst hqf
      have hm32 : (l.drop j).length ≤ 32 := by have := HML.out; rw [List.length_drop]; omega
      have h7k := h7
      rw [HKA.out] at h7k
      have hrow := key_row (l.drop j) hm32 h7k
      rw [← hm.out] at hrow
      have HROW := Aside0.mk hrow
      have R7A := Aside0.mk R7
      have L7 := Aside0.mk low7
      have hsz7 : w.heap.size ≤ w7.heap.size := low7.size
      have hm33 : (m : Int) + 1 ≤ ((Tryd.prog.arrayLen 59 : Nat) : Int) := by rw [arrLen]; omega
      have hm34 : (1 : Int) ≤ (m : Int) + 1 := by omega
      have hsl := run_sliceKey w7 b m (by omega)
      have HLT : Hid (((l.take j).map mx).length + m ≤ l.length) := Lib.hid (by have := HML.out; rw [List.length_map, List.length_take]; omega)
      clear R7 low7 hrow h7k hm32
      go_wp2_with (first
       | ((with_reducible refine gate_builtin (b := .append) (xs := #[.tmp 24, .tmp 28]) rfl ?_); at_builtin; refine Aside0.out ?_))
      refine Aside0.mk ?_
      refine Kd.R_append_row (Value.int .i64) 0 (w0 := w) w.heap.size rfl (.tmp 24) (.tmp 28) 22 3 (.int .i64 0) 8 rfl Tryd.underlying22 infoI rfl (by decide) u3 ((l.take j).map mx) ((l.drop j).map mx) (some ⟨b, 1, none⟩) m 32 (fun _ => True) rfl rfl (fun _ _ => trivial) R7A.out HROW.out L7.out hsz7 (by have := HLT.out; omega) ?_
      intro v1 w9 hR hB9 hg hat'
      have hmm : (l.take j).map mx ++ (l.drop j).map mx = l.map mx := by rw [← List.map_append, List.take_append_drop]
      rw [hmm] at hR
      obtain ⟨B', cap, ev⟩ := Kd.R_slice hR
      rw [ev] at hR
      obtain ⟨_, hcl, hcr⟩ := Kd.R_reads' hR
      rw [List.length_map] at ev hcl hR
      subst ev
      have R9 := Aside0.mk hR
      have L9 := Aside0.mk hB9
      have KCl : Aside0 (∀ W, Calls Tryd.prog 29 #[.slice B' l.length cap] W fun e w' => e = .returned (.slice B' l.length l.length) ∧ Below W.heap.size W w') := ⟨fun W => clip_calls B' l.length cap W hcl (by omega)⟩
      clear hR hB9 hg hat' hcr hmm h7 hsl
      go_wp2_with (first
       | (go_at_call 29; (with_reducible refine (KCl.out _).mono ?_); rintro e w8 ⟨rfl, b8⟩))
      go_ret
      exact ⟨B', cap, rfl, Kd.R_below R9.out b8, L9.out.trans (b8.mono L9.out.size)⟩
end Go.Proofs.YtaeaookonhaliaaDoor.R6
/- opform.faults: the iterator's contract. -/
namespace Go.Proofs.YtaeaookonhaliaaDoor.R6
open Go.RowKit Go.Shelf YtaeaookonhaliaaDoorW.PrintWords YtaeaookonhaliaaDoorW.PrintLast YtaeaookonhaliaaDoorW.PrintMore
attribute [local go_sem] Oper.semAt_some

def badAt (l : List Int) (i : Nat) : Bool := decide (l.getD (i - 1) 0 < 0) && decide (l.getD i 0 < 0)
def fsTo (l : List Int) (k : Nat) : List Nat := (List.range k).filter fun i => decide (1 ≤ i) && badAt l i
def fsL (l : List Int) : List Nat := if l = [] then [0] else fsTo l l.length
theorem fsTo_succ (l : List Int) (k : Nat) (hk : 1 ≤ k) : fsTo l (k + 1) = fsTo l k ++ if badAt l k = true then [k] else [] := by
 unfold fsTo
 rw [List.range_succ, List.filter_append]
 congr 1
 by_cases h : badAt l k = true
 · rw [if_pos h]; simp [h, hk]
 · rw [if_neg h]; simp [h]
theorem fsTo_one (l : List Int) : fsTo l 1 = [] := by simp [fsTo, List.range_succ]
theorem fsTo_prefix (l : List Int) {k n : Nat} (h : k ≤ n) : fsTo l k <+: fsTo l n := by
 unfold fsTo
 obtain ⟨d, rfl⟩ : ∃ d, n = k + d := ⟨n - k, by omega⟩
 rw [List.range_add, List.filter_append]
 exact List.prefix_append _ _

def KB (n₀ Bs : Nat) (W W' : World) : Prop := Below n₀ W W' ∧ W'.heap[Bs]? = W.heap[Bs]?
theorem KB.refl (n₀ Bs : Nat) (W : World) : KB n₀ Bs W W := ⟨Below.refl _ _, rfl⟩
theorem KB.trans {n₀ Bs : Nat} {A B C : World} (h : KB n₀ Bs A B) (h' : KB n₀ Bs B C) : KB n₀ Bs A C := ⟨h.1.trans h'.1, h'.2.trans h.2⟩
theorem KB.put {n₀ Bs : Nat} {w : World} (h0 : n₀ ≤ w.heap.size) (hB : Bs < w.heap.size) (W : World) (l : Nat) (o o' : Obj) (hl : w.heap.size ≤ l) (ho : W.heap[l]? = some o) (h1 : o.isCells = false) (h2 : o.isWalk = false) : KB n₀ Bs W (W.putObj l o') :=
 ⟨⟨rfl, rfl, rfl, by simp, fun k hk => World.putObj_heap_other (by omega)⟩, World.putObj_heap_other (by omega)⟩
set_option maxRecDepth 100000 in
set_option maxHeartbeats 2000000 in
theorem faults1_in (F : Fence) (n : Nat) (hF : F.fn 43) (hro : F.round = none) (hn : 1 ≤ n) (y Bs n₀ : Nat) (A : Option Addr) (c : Nat) (l : List Int) (hm : l.length ≤ 9223372036854775807) (w0 : World) (hsz : w0.heap.size ≤ n₀) (hl : Kd.C (Kd.int .i64) w0 A l.length l) (J Jx : List Nat → World → Prop)
 (hY : ∀ pre x W, J pre W → pre.length < l.length + 1 → YieldAt F (n - 1) Tryd.prog y #[.int .i64 (x : Nat)] W fun e W' =>
  (e = .returned (.bool true) ∧ J (pre ++ [x]) W' ∧ KB n₀ Bs W W') ∨ (e = .returned (.bool false) ∧ Jx (pre ++ [x]) W'))
 (W : World) (h0W : Below w0.heap.size w0 W) (hbB : W.heap[Bs]? = some (.cells #[.slice A l.length c] 22 (0, 0))) (h0 : J [] W) :
 CallsIn F n Tryd.prog 43 #[.func (.yield y) #[] #[], .pointer (some ⟨Bs, 0, none⟩)] W fun e W' => (∃ v, e = .returned v) ∧
  ((∃ ys, ys = fsL l ∧ J ys W') ∨ (∃ pre, (pre <+: fsL l ∧ pre ≠ []) ∧ Jx pre W')) := by
 refine callsIn_of_wp Tryd.func43 rfl hF ?_ hro
 simp only [Tryd.ntmps43, List.size_toArray, List.length_cons, List.length_nil, Nat.reduceAdd, Nat.reduceSub, Array.replicate_succ, Array.replicate_zero, List.push_toArray, List.append_toArray, List.nil_append, List.cons_append]
 have hcB : W.cell? ⟨Bs, 0, none⟩ = some (.slice A l.length c) := by rw [Lib.cell_of_heap hbB]; rfl
 by_cases hnil : l = []
 · obtain ⟨fn, tmps, assign, body, hy0, hR⟩ := hY [] 0 W h0 (by simp)
   have hy : (Instr.yield y #[Value.int .i64 0]).run Tryd.prog W = .ok (.round y fn tmps assign body) W := hy0
   clear hy0
   subst hnil
   gi_wp2
   refine hR.mono ?_
   rintro e W3 (⟨rfl, hJ3, hk3⟩ | ⟨rfl, hJx3⟩)
   · gi_wp2
     refine bodyPost_ret (results_none rfl _ _ _) rfl ?_
     exact ⟨⟨_, rfl⟩, .inl ⟨_, rfl, hJ3⟩⟩
   · gi_wp2
     refine bodyPost_ret (results_none rfl _ _ _) rfl ?_
     exact ⟨⟨_, rfl⟩, .inr ⟨[0], ⟨(List.prefix_rfl : [0] <+: [0]), by simp⟩, hJx3⟩⟩
 · have hpos : 0 < l.length := List.length_pos_iff.2 hnil
   have hz2 : ((l.length : Int) == 0) = false := beq_false_of_ne (by omega)
   have hfl : fsL l = fsTo l l.length := if_neg hnil
   gi_wp2
   gi_loopw [3] (fun i wr => ∃ j : Nat, j + 1 ≤ l.length ∧ i = .int .i64 ((j : Int) + 1) ∧ J (fsTo l (j + 1)) wr ∧ KB n₀ Bs W wr) (fun i _ => l.length - (intOf i).toNat)
   case atStart => exact ⟨0, hpos, rfl, by rw [fsTo_one]; exact h0, KB.refl _ _ _⟩
   case round =>
    obtain ⟨j, hj, rfl, hJs, hnx⟩ := hrel
    have hcs : wr.cell? ⟨Bs, 0, none⟩ = some (.slice A l.length c) := by rw [Lib.cell_of_heap (hnx.2.trans hbB)]; rfl
    by_cases hlt : j + 1 < l.length
    · have hlw := Kd.C_below hl (h0W.trans (hnx.1.mono hsz))
      obtain ⟨ad, rfl, hx⟩ := Kd.at_int hlw (j : Int) (by omega) (by omega)
      obtain ⟨ad', ead, hx'⟩ := Kd.at_int hlw ((j : Int) + 1) (by omega) (by omega)
      obtain rfl := Option.some.inj ead
      rw [Int.toNat_natCast] at hx
      rw [show ((j : Int) + 1).toNat = j + 1 by omega] at hx'
      have hr : rd l (j : Int) = l.getD j 0 := rfl
      have hr' : rd l ((j : Int) + 1) = l.getD (j + 1) 0 := by unfold rd; rw [show ((j : Int) + 1).toNat = j + 1 by omega]
      rw [hr] at hx
      rw [hr', show ad.add (j + 1) = ⟨ad.block, ad.off + (j + 1), none⟩ from if_neg (by omega)] at hx'
      have hsu := fsTo_succ l (j + 1) (by omega)
      have hbad : badAt l (j + 1) = (decide (l.getD j 0 < 0) && decide (l.getD (j + 1) 0 < 0)) := rfl
      have hlen : (fsTo l (j + 1)).length < l.length + 1 := by
       have := List.length_filter_le (fun i => decide (1 ≤ i) && badAt l i) (List.range (j + 1))
       rw [List.length_range] at this
       unfold fsTo; omega
      generalize l.getD j 0 = u at hx hbad
      generalize l.getD (j + 1) 0 = v at hx' hbad
      by_cases hu : u < 0
      · by_cases hv : v < 0
        · have hbad : badAt l (j + 1) = true := by rw [hbad, decide_eq_true hu, decide_eq_true hv]; rfl
          obtain ⟨fn, tmps, assign, body, hy0, hR⟩ := hY _ (j + 1) wr hJs hlen
          have hy : (Instr.yield y #[Value.int .i64 ((j : Int) + 1)]).run Tryd.prog wr = .ok (.round y fn tmps assign body) wr := hy0
          clear hy0
          rw [if_pos hbad] at hsu
          gi_wp2
          refine hR.mono ?_
          rintro e W3 (⟨rfl, hJ3, hk3⟩ | ⟨rfl, hJx3⟩)
          · rw [← hsu] at hJ3
            gi_wp2
            go_roundw
            case rel => exact ⟨j + 1, by omega, by go_num, hJ3, hnx.trans hk3⟩
            case measure => simp [intOf]; omega
          · rw [← hsu] at hJx3
            gi_wp2
            refine bodyPost_ret (results_none rfl _ _ _) rfl ?_
            exact ⟨⟨_, rfl⟩, .inr ⟨_, ⟨by rw [hfl]; exact fsTo_prefix l hlt, by rw [hsu]; simp⟩, hJx3⟩⟩
        · rw [hbad, decide_eq_true hu, decide_eq_false hv, if_neg (by decide), List.append_nil] at hsu
          gi_wp2
          refine ⟨fun _ h => (by cases h), ?_⟩
          gi_wp2
          go_roundw
          case rel => exact ⟨j + 1, by omega, by go_num, by rw [hsu]; exact hJs, hnx⟩
          case measure => simp [intOf]; omega
      · rw [hbad, decide_eq_false hu, Bool.false_and, if_neg (by decide), List.append_nil] at hsu
        gi_wp2
        refine ⟨fun _ h => (by cases h), ?_⟩
        gi_wp2
        go_roundw
        case rel => exact ⟨j + 1, by omega, by go_num, by rw [hsu]; exact hJs, hnx⟩
        case measure => simp [intOf]; omega
    · have hjl : j + 1 = l.length := by omega
      rw [hjl] at hJs
      have hjz : (j : Int) + 1 = (l.length : Int) := by omega
      gi_wp2
      go_end0
      exact ⟨⟨_, rfl⟩, .inl ⟨_, hfl.symm, hJs⟩⟩
theorem faults_stops (F : Fence) (n : Nat) (hF : F.fn 43) (hro : F.round = none) (hn : 1 ≤ n) (Bs n₀ : Nat) (A : Option Addr) (c : Nat) (l : List Int) (hm : l.length ≤ 9223372036854775807) (w0 w : World) (hsz : w0.heap.size ≤ n₀) (hl : Kd.C (Kd.int .i64) w0 A l.length l) (h0w : Below w0.heap.size w0 w) (hBs : Bs < w.heap.size)
 (hbB : w.heap[Bs]? = some (.cells #[.slice A l.length c] 22 (0, 0))) :
 SeqStopsK F n Tryd.prog 43 #[.pointer (some ⟨Bs, 0, none⟩)] (fun x : Nat => #[Value.int .i64 (x : Int)]) (KB n₀ Bs) (fun ys => ys = fsL l) (fun pre => pre <+: fsL l ∧ pre ≠ []) (l.length + 1) w := fun y J Jx W hW _ _ hY h0 =>
 faults1_in F n hF hro hn y Bs n₀ A c l hm w0 hsz hl J Jx hY W (h0w.trans (hW.mono h0w.size)) ((hW.block _ hBs).trans hbB) h0
theorem faults_calls (A : Option Addr) (m c : Nat) (w : World) : Calls Tryd.prog 32 #[.slice A m c] w fun e w' => e = .returned (.func (.func 43) #[] #[.pointer (some ⟨w.heap.size, 0, none⟩)]) ∧ w' = w.alloc (.cells #[.slice A m c] 22) := by
 go_enter Tryd.func32, Tryd.ntmps32
 go_wp2_with fail
 go_ret
 exact ⟨rfl, rfl⟩
end Go.Proofs.YtaeaookonhaliaaDoor.R6
/- Literals as rows. -/
namespace Go.Proofs.YtaeaookonhaliaaDoor.R6
open Go.RowKit YtaeaookonhaliaaDoorW.PrintWords YtaeaookonhaliaaDoorW.PrintLast YtaeaookonhaliaaDoorW.PrintMore
open B
theorem add0 (b n : Nat) : (⟨b, 0, none⟩ : Addr).add n = ⟨b, n, none⟩ := by
 unfold Addr.add
 by_cases h : n = 0
 · rw [if_pos h, h]
 · rw [if_neg h]; simp
theorem halloc (w : World) (o : Obj) : (w.alloc o).heap = w.heap.push o := rfl
theorem lit_row {α : Type} (d : Kd α) {W : World} {b : Nat} {t : TypeId} {cells : Array Value} (h : W.heap[b]? = some (.cells cells t (0, 0))) (xs : List α) (hm : xs.length ≤ 9223372036854775807)
 (hx : ∀ j p, xs[j]? = some p → ∃ c, c.length = d.sz ∧ d.K W p c ∧ ∀ i u, c[i]? = some u → cells[j * d.sz + i]? = some u) : Kd.C d W (some ⟨b, 0, none⟩) xs.length xs :=
 ⟨rfl, hm, fun _ => ⟨_, rfl, fun j p hj => by
  obtain ⟨c, h1, h2, h3⟩ := hx j p hj
  refine ⟨c, h1, h2, fun i u hu => ?_⟩
  have h4 := h3 i u hu
  rw [add0, Lib.cell_of_heap h, h4]⟩⟩
theorem lit_I {W : World} {b : Nat} {t : TypeId} (l : List Int) (hm : l.length ≤ 9223372036854775807) (h : W.heap[b]? = some (.cells (l.map (Value.int .i64)).toArray t (0, 0))) : Kd.C (Kd.int .i64) W (some ⟨b, 0, none⟩) l.length l :=
 lit_row _ h l hm fun j p hj => ⟨[.int .i64 p], rfl, rfl, fun i u hu => by
  obtain rfl : i = 0 := by
   rcases i with _ | i
   · rfl
   · simp at hu
  obtain rfl : Value.int .i64 p = u := by simpa using hu
  show (l.map (Value.int .i64)).toArray[j * 1 + 0]? = _
  simp [hj]⟩
theorem lit_L {W : World} {b : Nat} {t : TypeId} (L : List (List Int × (Option Addr × Nat))) (hm : L.length ≤ 9223372036854775807) (h : W.heap[b]? = some (.cells (L.map fun x => Value.slice x.2.1 x.1.length x.2.2).toArray t (0, 0)))
 (hR : ∀ x ∈ L, x.1.length ≤ x.2.2 ∧ Kd.C (Kd.int .i64) W x.2.1 x.1.length x.1) : Kd.C (Kd.slice 3 (Kd.int .i64)) W (some ⟨b, 0, none⟩) L.length (L.map Prod.fst) := by
 have := lit_row (Kd.slice 3 (Kd.int .i64)) h (L.map Prod.fst) (by rw [List.length_map]; exact hm) fun j p hj => by
  rw [List.getElem?_map] at hj
  obtain ⟨x, hx, rfl⟩ := Option.map_eq_some_iff.1 hj
  have h1 := hR x (List.mem_of_getElem? hx)
  refine ⟨[.slice x.2.1 x.1.length x.2.2], rfl, ⟨x.2.1, x.2.2, rfl, h1.1, h1.2⟩, fun i u hu => ?_⟩
  obtain rfl : i = 0 := by
   rcases i with _ | i
   · rfl
   · simp at hu
  obtain rfl : Value.slice x.2.1 x.1.length x.2.2 = u := by simpa using hu
  show (L.map fun x => Value.slice x.2.1 x.1.length x.2.2).toArray[j * 1 + 0]? = _
  simp [hx]
 rw [List.length_map] at this
 exact this
end Go.Proofs.YtaeaookonhaliaaDoor.R6
/- opform.Terms: walked; the contract of its iterator. -/
namespace Go.Proofs.YtaeaookonhaliaaDoor.R6
open Go.RowKit Go.Shelf YtaeaookonhaliaaDoorW.PrintWords YtaeaookonhaliaaDoorW.PrintLast YtaeaookonhaliaaDoorW.PrintMore
open B H F
set_option maxRecDepth 100000 in
set_option maxHeartbeats 4000000 in
theorem clone_calls (A : Option Addr) (c : Nat) (l : List Int) (w : World) (hr : Kd.C (Kd.int .i64) w A l.length l) (hc : l.length ≤ c) (hz : l.length < 17592186044415) :
 Calls Tryd.prog 39 #[.slice A l.length c] w fun e w' => ∃ v, e = .returned v ∧ Kd.R (Kd.int .i64) 3 w' w.heap.size (fun _ => True) v l ∧ Below w.heap.size w w' := by
 have HR := Aside0.mk hr
 cases A with
 | none =>
  have hl0 : l = [] := by
   have := hr.2.2
   by_cases h : l = []
   · exact h
   · obtain ⟨ad, e, _⟩ := this (List.length_pos_iff.2 h)
     cases e
  subst hl0
  clear hr
  have he : ∀ w : World, (binOp .eql 22 (.slice none 0 c) (.slice none 0 0)).run Tryd.prog w = .ok (.bool true) w := fun _ => rfl
  go_enter Tryd.func39, Tryd.ntmps39
  go_wp2_with fail
  go_ret
  exact ⟨_, rfl, Kd.R_nil _ _ _ _ _, Below.refl _ _⟩
 | some ad =>
  clear hr
  have he : ∀ w : World, (binOp .eql 22 (.slice (some ad) l.length c) (.slice none 0 0)).run Tryd.prog w = .ok (.bool false) w := fun _ => rfl
  obtain ⟨w1, hw1⟩ : ∃ w1, w1 = w.alloc (.cells #[] 3) := ⟨_, rfl⟩
  have hb1 : Below w.heap.size w w1 := by rw [hw1]; exact (Below.refl _ w).alloc (Nat.le_refl _) _
  have hg1 : w1.heap[w.heap.size]? = some (.cells #[] 3 (0, 0)) := by rw [hw1]; exact World.alloc_heap_new w _
  have hR1 : Kd.R (Kd.int .i64) 3 w1 w.heap.size (fun _ => True) (.slice (some ⟨w.heap.size, 0, none⟩) 0 0) [] :=
   Kd.R_of_own (enc := Value.int .i64) (h1 := fun _ => rfl) (xs := ([] : List Int)) ⟨rfl, .inr ⟨w.heap.size, 0, #[], rfl, Nat.le_refl _, hg1, Nat.le_refl _, by unfold maxLen; omega, rfl, rfl⟩⟩ (fun _ _ => trivial)
  have hC1 := Kd.C_below HR.out hb1
  have HR1 := Aside0.mk hR1
  have HC1 := Aside0.mk hC1
  have HB1 := Aside0.mk hb1
  have hs1 : w.heap.size ≤ w1.heap.size := hb1.size
  clear hR1 hC1 hb1 hg1
  go_enter Tryd.func39, Tryd.ntmps39
  go_wp2_with (first
   | ((with_reducible refine gate_builtin (b := .append) (xs := #[.tmp 5, .tmp 6]) rfl ?_); at_builtin; refine Aside0.out ?_))
  rw [← hw1]
  refine Aside0.mk ?_
  refine Kd.R_append_row (Value.int .i64) 0 (w0 := w) w.heap.size rfl (.tmp 5) (.tmp 6) 22 3 (.int .i64 0) 8 rfl Tryd.underlying22 infoI rfl (by decide) (.slice (some ⟨w.heap.size, 0, none⟩) 0 0) [] l (some ad) l.length c (fun _ => True) rfl rfl (fun _ _ => trivial) HR1.out HC1.out HB1.out hs1 (by rw [List.length_nil]; omega) ?_
  intro v1 w9 hR hB9 hg hat'
  rw [List.nil_append] at hR
  have HRR := Aside0.mk hR
  have HB := Aside0.mk hB9
  clear hR hB9 hg hat'
  go_wp2_with fail
  go_ret
  exact ⟨_, rfl, HRR.out, HB.out⟩
theorem Terms_calls (A : Option Addr) (c : Nat) (l : List Int) (w : World) (hr : Kd.C (Kd.int .i64) w A l.length l) (hc : l.length ≤ c) (hz : l.length < 17592186044415) :
 Calls Tryd.prog 21 #[.slice A l.length c] w fun e w' => ∃ B cap b, e = .returned (.func (.func 40) #[] #[.pointer (some ⟨b, 0, none⟩)]) ∧ w'.heap[b]? = some (.cells #[.slice B l.length cap] 22 (0, 0)) ∧ Kd.C (Kd.int .i64) w' B l.length l ∧ (w.heap.size ≤ b ∧ b < w'.heap.size) ∧ (∀ ad, B = some ad → w.heap.size ≤ ad.block ∧ ad.block < w'.heap.size) ∧ Below w.heap.size w w' := by
 have KC : Aside0 (Calls Tryd.prog 39 #[.slice A l.length c] w fun e w' => ∃ B cap, e = .returned (.slice B l.length cap) ∧ Aside0 (Kd.C (Kd.int .i64) w' B l.length l ∧ (∀ ad, B = some ad → w.heap.size ≤ ad.block ∧ ad.block < w'.heap.size) ∧ Below w.heap.size w w')) := ⟨(clone_calls A c l w hr hc hz).mono fun e w' ⟨v, he, hR, hb⟩ => by
  obtain ⟨B, cap, ev⟩ := Kd.R_slice hR
  subst ev
  refine ⟨B, cap, he, ⟨(Kd.R_reads' hR).2.2, fun ad e => ?_, hb⟩⟩
  subst e
  have ho := Kd.own_of_R (enc := Value.int .i64) (h1 := fun _ => rfl) hR
  exact ⟨own_base ho _ rfl, own_lt ho _ rfl⟩⟩
 clear hr hc hz
 go_enter Tryd.func21, Tryd.ntmps21
 go_wp2_with (first
  | (go_at_call 39; (with_reducible refine KC.out.mono ?_); rintro e w1 ⟨B, cap, rfl, t1⟩))
 go_ret
 obtain ⟨hC, hB, hb⟩ := t1.out
 have hb2 : Below w1.heap.size w1 (w1.alloc (.cells #[.slice B l.length cap] 22)) := (Below.refl _ w1).alloc (Nat.le_refl _) _
 refine ⟨B, cap, w1.heap.size, rfl, World.alloc_heap_new w1 _, Kd.C_below hC hb2, ⟨hb.size, by simp⟩, fun ad e => ⟨(hB ad e).1, by have := (hB ad e).2; simp; omega⟩, hb.trans (hb2.mono hb.size)⟩

def tmTo (l : List Int) (k : Nat) : List Nat := (List.range k).filter fun i => decide (0 ≤ l.getD i 0)
theorem tmTo_succ (l : List Int) (k : Nat) : tmTo l (k + 1) = tmTo l k ++ if 0 ≤ l.getD k 0 then [k] else [] := by
 unfold tmTo
 rw [List.range_succ, List.filter_append]
 congr 1
 by_cases h : 0 ≤ l.getD k 0
 · rw [if_pos h, List.filter_cons, if_pos (decide_eq_true h)]; rfl
 · rw [if_neg h, List.filter_cons, if_neg (by simpa using h)]; rfl
theorem tmTo_prefix (l : List Int) {k n : Nat} (h : k ≤ n) : tmTo l k <+: tmTo l n := by
 unfold tmTo
 obtain ⟨d, rfl⟩ : ∃ d, n = k + d := ⟨n - k, by omega⟩
 rw [List.range_add, List.filter_append]
 exact List.prefix_append _ _
theorem tmTo_len (l : List Int) (k : Nat) : (tmTo l k).length ≤ k := by
 have := List.length_filter_le (fun i => decide (0 ≤ l.getD i 0)) (List.range k)
 rw [List.length_range] at this
 exact this
def KS (ks : List Nat) (W W' : World) : Prop := ∀ k ∈ ks, W'.heap[k]? = W.heap[k]?
theorem KS.refl (ks : List Nat) (W : World) : KS ks W W := fun _ _ => rfl
theorem KS.trans {ks : List Nat} {A B C : World} (h : KS ks A B) (h' : KS ks B C) : KS ks A C := fun k hk => (h' k hk).trans (h k hk)
theorem KS.put {ks : List Nat} {w : World} (h0 : ∀ k ∈ ks, k < w.heap.size) (W : World) (l : Nat) (o o' : Obj) (hl : w.heap.size ≤ l) (ho : W.heap[l]? = some o) (h1 : o.isCells = false) (h2 : o.isWalk = false) : KS ks W (W.putObj l o') :=
 fun k hk => World.putObj_heap_other (by have := h0 k hk; omega)
theorem C_block {W W' : World} {A : Option Addr} {l : List Int} (h : Kd.C (Kd.int .i64) W A l.length l) (hm : ∀ ad, A = some ad → W'.heap[ad.block]? = W.heap[ad.block]?) : Kd.C (Kd.int .i64) W' A l.length l := by
 refine ⟨h.1, h.2.1, fun hp => ?_⟩
 obtain ⟨ad, e, hc⟩ := h.2.2 hp
 refine ⟨ad, e, fun j p hj => ?_⟩
 obtain ⟨c, h1, h2, h3⟩ := hc j p hj
 refine ⟨c, h1, h2, fun i u hu => ?_⟩
 rw [← h3 i u hu]
 exact World.cell?_of_block (by rw [add_block]; exact hm ad e)
set_option maxRecDepth 100000 in
set_option maxHeartbeats 2000000 in
theorem terms1_in (F : Fence) (n : Nat) (hF : F.fn 40) (hro : F.round = none) (hn : 1 ≤ n) (y b : Nat) (B : Option Addr) (cap : Nat) (l : List Int) (hm : l.length ≤ 9223372036854775807) (w0 : World) (ks : List Nat) (hks : ∀ ad, B = some ad → ad.block ∈ ks) (hl : Kd.C (Kd.int .i64) w0 B l.length l) (J Jx : List Nat → World → Prop)
 (hY : ∀ pre x W, J pre W → pre.length < l.length + 1 → YieldAt F (n - 1) Tryd.prog y #[.int .i64 (x : Nat), .int .i64 (l.getD x 0)] W fun e W' =>
  (e = .returned (.bool true) ∧ J (pre ++ [x]) W' ∧ KS ks W W') ∨ (e = .returned (.bool false) ∧ Jx (pre ++ [x]) W'))
 (W : World) (h0W : KS ks w0 W) (hbB : W.heap[b]? = some (.cells #[.slice B l.length cap] 22 (0, 0))) (h0 : J [] W) :
 CallsIn F n Tryd.prog 40 #[.func (.yield y) #[] #[], .pointer (some ⟨b, 0, none⟩)] W fun e W' => (∃ v, e = .returned v) ∧
  ((∃ ys, ys = tmTo l l.length ∧ J ys W') ∨ (∃ pre, (pre <+: tmTo l l.length ∧ pre ≠ []) ∧ Jx pre W')) := by
 refine callsIn_of_wp Tryd.func40 rfl hF ?_ hro
 simp only [Tryd.ntmps40, List.size_toArray, List.length_cons, List.length_nil, Nat.reduceAdd, Nat.reduceSub, Array.replicate_succ, Array.replicate_zero, List.push_toArray, List.append_toArray, List.nil_append, List.cons_append]
 have hcB : W.cell? ⟨b, 0, none⟩ = some (.slice B l.length cap) := by rw [Lib.cell_of_heap hbB]; rfl
 gi_wp2
 gi_loopw [7] (fun i wr => ∃ j : Nat, j ≤ l.length ∧ i = .int .i64 (j : Int) ∧ J (tmTo l j) wr ∧ KS ks W wr) (fun i _ => l.length - (intOf i).toNat)
 case atStart => exact ⟨0, Nat.zero_le _, rfl, h0, KS.refl _ _⟩
 case round =>
  obtain ⟨j, hj, rfl, hJs, hnx⟩ := hrel
  by_cases hlt : j < l.length
  · have hlw := C_block hl (fun ad e => (hnx ad.block (hks ad e)).trans (h0W ad.block (hks ad e)))
    obtain ⟨ad, rfl, hx⟩ := Kd.at_int hlw (j : Int) (by omega) (by omega)
    rw [Int.toNat_natCast, show rd l (j : Int) = l.getD j 0 from rfl] at hx
    have hsu := tmTo_succ l j
    have hlen : (tmTo l j).length < l.length + 1 := by have := tmTo_len l j; omega
    by_cases hu : 0 ≤ l.getD j 0
    · obtain ⟨fn, tmps, assign, body, hy0, hR⟩ := hY _ j wr hJs hlen
      rw [if_pos hu] at hsu
      generalize l.getD j 0 = u at hx hu hy0
      have hy : (Instr.yield y #[Value.int .i64 (j : Int), Value.int .i64 u]).run Tryd.prog wr = .ok (.round y fn tmps assign body) wr := hy0
      clear hy0
      have hu' : u ≥ 0 := hu
      gi_wp2
      refine hR.mono ?_
      rintro e W3 (⟨rfl, hJ3, hk3⟩ | ⟨rfl, hJx3⟩)
      · rw [← hsu] at hJ3
        gi_wp2
        go_roundw
        case rel => exact ⟨j + 1, by omega, by go_num, hJ3, hnx.trans hk3⟩
        case measure => simp [intOf]; omega
      · rw [← hsu] at hJx3
        gi_wp2
        refine bodyPost_ret (results_none rfl _ _ _) rfl ?_
        exact ⟨⟨_, rfl⟩, .inr ⟨_, ⟨tmTo_prefix l hlt, by rw [hsu]; simp⟩, hJx3⟩⟩
    · rw [if_neg hu, List.append_nil] at hsu
      generalize l.getD j 0 = u at hx hu
      gi_wp2
      refine ⟨fun _ h => (by cases h), ?_⟩
      gi_wp2
      go_roundw
      case rel => exact ⟨j + 1, by omega, by go_num, by rw [hsu]; exact hJs, hnx⟩
      case measure => simp [intOf]; omega
  · have hjl : j = l.length := by omega
    rw [hjl] at hJs
    gi_wp2
    go_end0
    exact ⟨⟨_, rfl⟩, .inl ⟨_, rfl, hJs⟩⟩
theorem terms_stops (F : Fence) (n : Nat) (hF : F.fn 40) (hro : F.round = none) (hn : 1 ≤ n) (b : Nat) (B : Option Addr) (cap : Nat) (l : List Int) (hm : l.length ≤ 9223372036854775807) (w : World) (ks : List Nat) (hkb : b ∈ ks) (hks : ∀ ad, B = some ad → ad.block ∈ ks) (hl : Kd.C (Kd.int .i64) w B l.length l) (hbl : b < w.heap.size) (hBl : ∀ k ∈ ks, k < w.heap.size)
 (hbB : w.heap[b]? = some (.cells #[.slice B l.length cap] 22 (0, 0))) :
 SeqStopsK F n Tryd.prog 40 #[.pointer (some ⟨b, 0, none⟩)] (fun x : Nat => #[Value.int .i64 (x : Int), Value.int .i64 (l.getD x 0)]) (KS ks) (fun ys => ys = tmTo l l.length) (fun pre => pre <+: tmTo l l.length ∧ pre ≠ []) (l.length + 1) w := fun y J Jx W hW _ _ hY h0 =>
 terms1_in F n hF hro hn y b B cap l hm w ks hks hl J Jx hY W (fun k hk => hW.block k (hBl k hk)) ((hW.block _ hbl).trans hbB) h0
end Go.Proofs.YtaeaookonhaliaaDoor.R6
/- The marks that ranges over functions leave, where they stand in a plain loop. -/
namespace Go.Proofs.YtaeaookonhaliaaDoor.R6
open Go Go.RowKit
def marks (Ds : List Nat) : List Deferred := Ds.map fun D => { target := .collected D, args := #[] }
theorem leaves_marks {F : Fence} {n : Nat} {P : Program} {fn : Func} {tmps : Array Value} {R : Ending → World → Prop} (base : Nat) : ∀ (Ds : List Nat) (w : World), Ds.Nodup → (∀ D ∈ Ds, base ≤ D ∧ w.heap[D]? = some (.deferred (some []))) →
 (∀ w', Below base w w' → (∀ k, k ∉ Ds → w'.heap[k]? = w.heap[k]?) → LeavesIn F n P fn tmps R [] .returning w') → LeavesInM F n P fn tmps R (marks Ds) .returning w
 | [], w, _, _, h => h w (Below.refl _ _) (fun _ _ => rfl)
 | D :: Ds, w, hn, hD, h => by
  have hd := hD D List.mem_cons_self
  have hn' := List.nodup_cons.1 hn
  refine ⟨by simp, .inl ⟨D, w.putObj D (.deferred none), rfl, run_takeDeferred hd.2, ?_⟩⟩
  have hb0 : Below base w (w.putObj D (.deferred none)) := ⟨rfl, rfl, rfl, by simp, fun k hk2 => World.putObj_heap_other (by have := hd.1; omega)⟩
  refine leaves_marks base Ds _ hn'.2 (fun D' h' => ?_) (fun w' hb hk => ?_)
  · have := hD D' (List.mem_cons_of_mem _ h')
    have hne : D' ≠ D := fun e => hn'.1 (by rw [← e]; exact h')
    exact ⟨this.1, (World.putObj_heap_other hne).trans this.2⟩
  · refine h w' (hb0.trans hb) fun k hk3 => ?_
    rw [List.mem_cons, not_or] at hk3
    exact (hk k hk3.2).trans (World.putObj_heap_other hk3.1)
end Go.Proofs.YtaeaookonhaliaaDoor.R6
/- opform.Check: walked. -/
namespace Go.Proofs.YtaeaookonhaliaaDoor.R6
open Go.RowKit Go.Shelf YtaeaookonhaliaaDoorW.PrintWords YtaeaookonhaliaaDoorW.PrintLast YtaeaookonhaliaaDoorW.PrintMore
open B H F
attribute [local go_sem] Oper.semAt_some

def badR (R : List S55) : Option Nat := R.findIdx? fun x => !(fsL x.f1).isEmpty
def opP (l0 l1 : List ByteArray) (a2 : Int) (R : List S55) : Int × Int :=
 if (chk (namesOK l0) (namesOK l1) l0.length l1.length a2 R).1 = 0 then match badR R with | some i => (4, (i : Int)) | none => (0, -1)
 else chk (namesOK l0) (namesOK l1) l0.length l1.length a2 R
theorem sent_op {ad : Int → Addr} {w : World} (h : SentsK ad w) : w.cell? ⟨0, 0, none⟩ = some (.iface 114 (.pointer (some (ad 4)))) := by
 obtain ⟨⟨h1, h2, h3, h4, h5, h6, h7, h8, h9, h10, h11, h12, h13, h14, h15⟩, _, _⟩ := h
 exact h4
theorem frozen0 {W : World} {b : Nat} {cs : Array Value} {t : TypeId} (h : W.heap[b]? = some (.cells cs t (0, 0))) : W.frozen? ⟨b, 0, none⟩ = false := by simp [World.frozen?, h]
structure OC (w : World) (cs : Array Value) (v : Value) (W : World) : Prop where
 low : Below w.heap.size w W
 gb : W.heap[w.heap.size]? = some (.cells cs 29 (0, 0))
 eb : W.heap[w.heap.size + 1]? = some (.cells #[v] 32 (0, 0))
section
variable {w W W' : World} {cs : Array Value} {v : Value}
theorem OC.start (w : World) (cs : Array Value) (v : Value) : OC w cs v ((w.alloc (.cells cs 29)).alloc (.cells #[v] 32)) := by
 have h1 : (w.alloc (.cells cs 29)).heap[w.heap.size]? = some (.cells cs 29 (0, 0)) := World.alloc_heap_new w _
 have h2 := World.alloc_heap_new (w.alloc (.cells cs 29)) (.cells #[v] 32)
 rw [World.size_alloc] at h2
 exact ⟨((Below.refl _ w).alloc (Nat.le_refl _) _).alloc (by simp) _, (Below.heap_alloc _ _ _ (by simp)).trans h1, h2⟩
theorem OC.sz (h : OC w cs v W) : w.heap.size + 2 ≤ W.heap.size := by
 have h2 := h.eb
 rcases Nat.lt_or_ge (w.heap.size + 1) W.heap.size with h1 | h1
 · exact h1
 · rw [Array.getElem?_eq_none h1] at h2; cases h2
theorem OC.base (h : OC w cs v W) (base : Nat) (hb : Below base W W') (h0 : w.heap.size + 2 ≤ base) : OC w cs v W' := ⟨h.low.trans (hb.mono (by omega)), (hb.block _ (by omega)).trans h.gb, (hb.block _ (by omega)).trans h.eb⟩
theorem OC.more (h : OC w cs v W) (hb : Below W.heap.size W W') : OC w cs v W' := h.base W.heap.size hb h.sz
theorem OC.cells {v0 v1 v2 v3 : Value} (h : OC w #[v0, v1, v2, v3] v W) : W.cell? ⟨w.heap.size, 0, none⟩ = some v0 ∧ W.cell? ⟨w.heap.size, 1, none⟩ = some v1 ∧ W.cell? ⟨w.heap.size, 2, none⟩ = some v2 ∧ W.cell? ⟨w.heap.size, 3, none⟩ = some v3 ∧ W.cell? ⟨w.heap.size + 1, 0, none⟩ = some v ∧ W.frozen? ⟨w.heap.size + 1, 0, none⟩ = false :=
 ⟨by rw [Lib.cell_of_heap h.gb]; rfl, by rw [Lib.cell_of_heap h.gb]; rfl, by rw [Lib.cell_of_heap h.gb]; rfl, by rw [Lib.cell_of_heap h.gb]; rfl, by rw [Lib.cell_of_heap h.eb]; rfl, frozen0 h.eb⟩
end
theorem errW_put {ad : Int → Addr} {W : World} {E : Value} {p : Int × Int} {b : Nat} (h : ErrW ad W E p) (hb : ∃ v, W.heap[b]? = some (.cells #[v] 32 (0, 0))) (u : Value) : ErrW ad (W.setCell ⟨b, 0, none⟩ u) E p := by
 rcases h with h | h | ⟨h1, h2, h3, c, h4, h5⟩
 · exact .inl h
 · exact .inr (.inl h)
 · refine .inr (.inr ⟨h1, h2, h3, c, h4, blk_far h5 (fun e => ?_) u⟩)
   obtain ⟨v, hv⟩ := hb
   have e2 : c = b := e
   rw [e2, hv] at h5
   cases h5
theorem badR_some {R : List S55} {k : Nat} (hk : k < R.length) (h1 : ∀ x ∈ R.take k, fsL x.f1 = []) (h2 : fsL R[k].f1 ≠ []) : badR R = some k := by
 unfold badR
 rw [List.findIdx?_eq_some_iff_getElem]
 refine ⟨hk, by simpa using h2, fun j hj => ?_⟩
 have := h1 R[j] (List.mem_take_iff_getElem.2 ⟨j, by omega, rfl⟩)
 simp [this]
theorem badR_none {R : List S55} (h1 : ∀ x ∈ R, fsL x.f1 = []) : badR R = none := by
 unfold badR
 rw [List.findIdx?_eq_none_iff]
 intro x hx
 simp [h1 x hx]
structure CI (w : World) (cs : Array Value) (v : Value) (ib k : Nat) (Ds : List Nat) (B : Nat) (W : World) : Prop where
 oc : OC w cs v W
 ibx : W.heap[ib]? = some (.cells #[.int .i64 (k : Int)] 3 (0, 0))
 ds : ∀ D ∈ Ds, w.heap.size + 2 ≤ D ∧ D < B ∧ W.heap[D]? = some (.deferred (some []))
section
variable {w W W' : World} {cs : Array Value} {v : Value} {ib k B : Nat} {Ds : List Nat}
theorem grown_cells {row : Option Nat} (hg : W.grownBy W' row) (hr : ∀ r, row = some r → B ≤ r ∧ ∃ o : Obj, W.heap[r]? = some o ∧ o.isCells = false) {b : Nat} {cells : Array Value} {t : TypeId} {fr : Nat × Nat} (h : W.heap[b]? = some (.cells cells t fr)) : W'.heap[b]? = some (.cells cells t fr) :=
 (hg.block b (Array.getElem?_eq_some_iff.1 h).1 (fun e => by
  obtain ⟨_, o, ho, hc⟩ := hr b e.symm
  rw [h] at ho
  cases ho
  cases hc)).trans h
theorem CI.grown {row : Option Nat} (h : CI w cs v ib k Ds B W) (hB : w.heap.size ≤ B) (hg : W.grownBy W' row) (hr : ∀ r, row = some r → B ≤ r ∧ ∃ o : Obj, W.heap[r]? = some o ∧ o.isCells = false) : CI w cs v ib k Ds B W' := by
 refine ⟨⟨h.oc.low.grown hg h.oc.low.size (fun r e => Nat.le_trans hB (hr r e).1), grown_cells hg hr h.oc.gb, grown_cells hg hr h.oc.eb⟩, grown_cells hg hr h.ibx, fun D hD => ?_⟩
 obtain ⟨d1, d2, d3⟩ := h.ds D hD
 exact ⟨d1, d2, (hg.block D (Array.getElem?_eq_some_iff.1 d3).1 (fun e => by have := (hr D e.symm).1; omega)).trans d3⟩
theorem CI.alloc (h : CI w cs v ib k Ds B W) (o : Obj) : CI w cs v ib k Ds B (W.alloc o) :=
 ⟨h.oc.more ((Below.refl _ W).alloc (Nat.le_refl _) o), (Below.heap_alloc W o _ (Array.getElem?_eq_some_iff.1 h.ibx).1).trans h.ibx, fun D hD => ⟨(h.ds D hD).1, (h.ds D hD).2.1, (Below.heap_alloc W o _ (Array.getElem?_eq_some_iff.1 (h.ds D hD).2.2).1).trans (h.ds D hD).2.2⟩⟩
theorem OC.put (h : OC w cs v W) (u : Value) : OC w cs u (W.setCell ⟨w.heap.size + 1, 0, none⟩ u) := ⟨h.low.setCell (p := ⟨w.heap.size + 1, 0, none⟩) (by simp) u, blk_far h.gb (by simp) u, by simpa using blk_set h.eb 0 u⟩
theorem CI.put (h : CI w cs v ib k Ds B W) (hib : ib ≠ w.heap.size + 1) (u : Value) : CI w cs u ib k Ds B (W.setCell ⟨w.heap.size + 1, 0, none⟩ u) := by
 have hne : ∀ D ∈ Ds, D ≠ w.heap.size + 1 := fun D hD => by have := (h.ds D hD).1; omega
 exact ⟨⟨h.oc.low.setCell (p := ⟨w.heap.size + 1, 0, none⟩) (by simp) u, blk_far h.oc.gb (by simp) u, by simpa using blk_set h.oc.eb 0 u⟩, blk_far h.ibx hib u, fun D hD => ⟨(h.ds D hD).1, (h.ds D hD).2.1, (KeepsOthers.setCell W _ u).same D _ (h.ds D hD).2.2 rfl⟩⟩
end
set_option maxRecDepth 100000 in
set_option maxHeartbeats 4000000 in
theorem Check_1 (ad : Int → Addr) (A0 : Option Addr) (c0 : Nat) (l0 : List ByteArray) (A1 : Option Addr) (c1 : Nat) (l1 : List ByteArray) (a2 : Int) (A3 : Option Addr) (c3 : Nat) (R : List S55) (w : World) (hs : SentsK ad w) (hr0 : Kd.C Kd.string w A0 l0.length l0) (hc0 : l0.length ≤ c0) (hr1 : Kd.C Kd.string w A1 l1.length l1) (hc1 : l1.length ≤ c1) (hr3 : Kd.C k55 w A3 R.length R) (hc3 : R.length ≤ c3) (hp : (chk (namesOK l0) (namesOK l1) l0.length l1.length a2 R).1 = 0) :
 Calls Tryd.prog 12 #[.agg #[.slice A0 l0.length c0, .slice A1 l1.length c1, .int .i64 a2, .slice A3 R.length c3]] w fun e w' => ∃ E, e = .returned E ∧ ErrW ad w' E (match badR R with | some i => (4, (i : Int)) | none => (0, -1)) ∧ Below w.heap.size w w' := by
 obtain ⟨q1, q2, q3, q4, q5, q6, q7⟩ := chk_ok hp
 obtain ⟨cs, hcs⟩ : ∃ cs : Array Value, cs = #[.slice A0 l0.length c0, .slice A1 l1.length c1, .int .i64 a2, .slice A3 R.length c3] := ⟨_, rfl⟩
 have st : OC w cs .nilIface ((w.alloc (.cells #[.slice A0 l0.length c0, .slice A1 l1.length c1, .int .i64 a2, .slice A3 R.length c3] 29)).alloc (.cells #[.nilIface] 32)) := by subst hcs; exact OC.start w _ _
 have CE : Aside0 (∀ v W, OC w cs v W → W.cell? ⟨w.heap.size, 0, none⟩ = some (.slice A0 l0.length c0) ∧ W.cell? ⟨w.heap.size, 1, none⟩ = some (.slice A1 l1.length c1) ∧ W.cell? ⟨w.heap.size, 2, none⟩ = some (.int .i64 a2) ∧ W.cell? ⟨w.heap.size, 3, none⟩ = some (.slice A3 R.length c3) ∧ W.cell? ⟨w.heap.size + 1, 0, none⟩ = some v ∧ W.frozen? ⟨w.heap.size + 1, 0, none⟩ = false) := ⟨by
  intro v W hW; subst hcs; exact hW.cells⟩
 have KC : Aside0 (∀ W, OC w cs .nilIface W → Calls Tryd.prog 26 #[.agg #[.slice A0 l0.length c0, .slice A1 l1.length c1, .int .i64 a2, .slice A3 R.length c3]] W fun e w' => e = .returned .nilIface ∧ Aside0 (OC w cs .nilIface w')) := ⟨fun W hW =>
  (Check_any ad A0 c0 l0 A1 c1 l1 a2 A3 c3 R W (hs.below hW.low) (Kd.C_below hr0 hW.low) hc0 (Kd.C_below hr1 hW.low) hc1 (Kd.C_below hr3 hW.low) hc3).mono fun e w' ⟨⟨v, he, hv⟩, hb⟩ => by
   obtain rfl := (ErrW.of hv).nil hp
   exact ⟨he, ⟨hW.more hb⟩⟩⟩
 have KG : Aside0 (∀ W, Below w.heap.size w W → W.cell? ⟨0, 0, none⟩ = some (.iface 114 (.pointer (some (ad 4))))) := ⟨fun W hW => sent_op (hs.below hW)⟩
 have ST := Aside0.mk st
 have HR3 := Aside0.mk hr3
 have HCS := Lib.hid hcs
 have hok : ∀ x ∈ R, x.f1.length ≤ 32 := fun x hx => (okR_sides (q7 x hx)).1
 clear st hcs hs hr0 hr1 hr3 hp q3 q4 q5 q6 q7
 obtain ⟨br, hbr⟩ : ∃ br : Int × Int, br = (match badR R with | some i => (4, (i : Int)) | none => (0, -1)) := ⟨_, rfl⟩
 rw [← hbr]
 have HBR := Lib.hid hbr
 clear hbr
 refine (callsIn_wide (n := 7)).1 ?_
 refine callsIn_of_wp_marks Tryd.func12 rfl trivial ?_ rfl
 simp only [Tryd.ntmps12, List.size_toArray, List.length_cons, List.length_nil, Nat.reduceAdd, Nat.reduceSub, Array.replicate_succ, Array.replicate_zero, List.push_toArray, List.append_toArray, List.nil_append, List.cons_append]
 gi_wp2_with (first
  | (refine ⟨trivial, ?_⟩; gi_at_call 26; refine (callsIn_wide.2 (KC.out _ ST.out)).mono ?_; rintro e w2 ⟨rfl, t2⟩; obtain ⟨f0, f1, f2, f3, f4, f5⟩ := CE.out _ _ t2.out))
 refine wpIn_loop (fun a' W => ∃ (k : Nat) (u4 u5 u15 u16 u17 u18 u19 u20 u21 u22 u23 u24 u25 u26 u27 u28 : Value) (Ds : List Nat), a' = { tmps := #[.agg #[.slice A0 l0.length c0, .slice A1 l1.length c1, .int .i64 a2, .slice A3 R.length c3], .pointer (some ⟨w.heap.size, 0, none⟩), .pointer (some ⟨w.heap.size + 1, 0, none⟩), .nilIface, u4, u5, .agg #[.slice A0 l0.length c0, .slice A1 l1.length c1, .int .i64 a2, .slice A3 R.length c3], .nilIface, .nilIface, .bool false, undef, .pointer (some ⟨w.heap.size, 3, none⟩), .slice A3 R.length c3, .int .i64 R.length, .int .i64 k, u15, u16, u17, u18, u19, u20, u21, u22, u23, u24, u25, u26, u27, u28], defers := marks Ds } ∧ k ≤ R.length ∧ Aside0 (OC w cs .nilIface W) ∧ Aside0 (∀ x ∈ R.take k, fsL x.f1 = []) ∧ Aside0 (Ds.Nodup ∧ ∀ D ∈ Ds, w.heap.size + 2 ≤ D ∧ W.heap[D]? = some (.deferred (some []))))
  (fun a' _ => R.length - (intOf (a'.tmps.getD 14 undef)).toNat) ⟨0, _, _, _, _, _, _, _, _, _, _, _, _, _, _, _, _, [], rfl, Nat.zero_le _, t2, ⟨fun x hx => absurd hx (by simp)⟩, ⟨List.nodup_nil, fun D hD => absurd hD List.not_mem_nil⟩⟩ ?_
 clear t2 f0 f1 f2 f3 f4 f5
 rintro a' W ⟨k, u4, u5, u15, u16, u17, u18, u19, u20, u21, u22, u23, u24, u25, u26, u27, u28, Ds, rfl, hk, tr, hno, hds⟩
 by_cases hlt : k < R.length
 · have hmem := List.getElem_mem hlt
   obtain ⟨ad3, A', c', e1, y0, y1, e4, e5⟩ := at_T55 HR3.out (k : Int) (by omega) (by omega)
   have hrd : rd_T55 R (k : Int) = R[k] := by rw [rdR_D, getD_lt R k _ hlt]
   rw [Int.toNat_natCast, hrd] at y0 y1
   rw [hrd] at e4 e5
   have htk := List.take_succ_eq_append_getElem hlt
   have hx32 := hok _ hmem
   have HXK : Aside0 (∀ h : k < R.length, ∀ y, y = R[k] → R[k] = y) := ⟨fun _ _ e => e.symm⟩
   obtain ⟨x, hxk⟩ : ∃ x, x = R[k] := ⟨_, rfl⟩
   rw [← hxk] at y0 y1 e4 e5 hx32
   have HX := Lib.hid hxk
   clear hxk HXK
   subst e1
   have c0' := (tr.out.low.cell (World.block_lt_of_cell? w _ y0)).trans y0
   have c1' := (tr.out.low.cell (World.block_lt_of_cell? w _ y1)).trans y1
   obtain ⟨f0, f1, f2, f3, f4, f5⟩ := CE.out _ _ tr.out
   clear hmem htk hrd
   have hok2 := Aside0.mk hok
   have hx2 := Aside0.mk e5
   clear hok e5
   gi_wp2_with (first
    | (refine ⟨trivial, ?_⟩; gi_at_call 32; refine (callsIn_wide.2 (faults_calls _ _ _ _)).mono ?_; rintro e w3 ⟨rfl, rfl⟩))
   obtain ⟨Wf, hWf⟩ : ∃ Wf, Wf = ((W.alloc (.cells #[.int .i64 k] 3)).alloc (.cells #[.int .i64 x.f0, .slice A' x.f1.length c'] 55)).alloc (.cells #[.slice A' x.f1.length c'] 22) := ⟨_, rfl⟩
   have szf : Wf.heap.size = W.heap.size + 3 := by rw [hWf]; simp
   have bwf : Below W.heap.size W Wf := by rw [hWf]; exact (((Below.refl _ W).alloc (Nat.le_refl _) _).alloc (by simp) _).alloc (by simp; omega) _
   have ocf := tr.out.more bwf
   have ibf : Wf.heap[W.heap.size]? = some (.cells #[.int .i64 (k : Int)] 3 (0, 0)) := by
    rw [hWf]
    exact ((Below.heap_alloc _ _ _ (by simp; omega)).trans (Below.heap_alloc _ _ _ (by simp))).trans (World.alloc_heap_new W _)
   have bsf : Wf.heap[W.heap.size + 1 + 1]? = some (.cells #[.slice A' x.f1.length c'] 22 (0, 0)) := by
    rw [hWf]
    have := World.alloc_heap_new ((W.alloc (.cells #[.int .i64 k] 3)).alloc (.cells #[.int .i64 x.f0, .slice A' x.f1.length c'] 55)) (.cells #[.slice A' x.f1.length c'] 22)
    rwa [World.size_alloc, World.size_alloc] at this
   have cif : CI w cs .nilIface W.heap.size k Ds Wf.heap.size Wf := ⟨ocf, ibf, fun D hD => by
    have h1 := (hds.out.2 D hD).2
    have h2 := (Array.getElem?_eq_some_iff.1 h1).1
    exact ⟨(hds.out.2 D hD).1, by omega, (bwf.block D h2).trans h1⟩⟩
   have hwsz := tr.out.sz
   rw [← hWf]
   refine wpIn_rangeFunc_ownG (F := Fence.wide) rfl (by omega) (gf := 43) (lb := #[.pointer (some ⟨W.heap.size + 1 + 1, 0, none⟩)]) rfl trivial (enters_of Tryd.func43 (by kernel_rfl) rfl)
    (faults_stops Fence.wide 6 trivial rfl (by omega) (W.heap.size + 1 + 1) w.heap.size A' c' x.f1 (by omega) w Wf (Nat.le_refl _) hx2.out ocf.low (by omega) bsf) KB.trans (KB.put (by omega) (by omega)) (Below.refl _ _) (fun _ => rfl)
    (fun pre W' => pre = [] ∧ CI w cs .nilIface W.heap.size k Ds Wf.heap.size W')
    (fun c _ W' => c = .ret ∧ ∃ eb, CI w cs (.iface 66 (.pointer (some ⟨eb, 0, none⟩))) W.heap.size k Ds Wf.heap.size W' ∧ W'.heap[eb]? = some (.cells #[.int .i64 (k : Int), .iface 114 (.pointer (some (ad 4)))] 68 (0, 0)))
    (fun s X Y row hs hg hr => ⟨hs.1, hs.2.grown (by omega) hg hr⟩)
    (fun c s X Y row hs hg hr => ⟨hs.1, hs.2.imp fun eb h => ⟨h.1.grown (by omega) hg hr, grown_cells hg hr h.2⟩⟩)
    ⟨rfl, cif⟩
    (fun y : Nat => { tmps := #[.agg #[.slice A0 l0.length c0, .slice A1 l1.length c1, .int .i64 a2, .slice (some ad3) R.length c3], .pointer (some ⟨w.heap.size, 0, none⟩), .pointer (some ⟨w.heap.size + 1, 0, none⟩), .nilIface, .pointer (some ⟨W.heap.size, 0, none⟩), .pointer (some ⟨W.heap.size + 1, 0, none⟩), .agg #[.slice A0 l0.length c0, .slice A1 l1.length c1, .int .i64 a2, .slice (some ad3) R.length c3], .nilIface, .nilIface, .bool false, undef, .pointer (some ⟨w.heap.size, 3, none⟩), .slice (some ad3) R.length c3, .int .i64 R.length, .int .i64 k, .bool true, .int .i64 k, .pointer (some (ad3.add (k * 2))), .agg #[.int .i64 x.f0, .slice A' x.f1.length c'], .pointer (some ⟨W.heap.size + 1, 1, none⟩), .slice A' x.f1.length c', .func (.func 43) #[] #[.pointer (some ⟨W.heap.size + 1 + 1, 0, none⟩)], .int .i64 (y : Int), u23, u24, u25, u26, u27, u28], defers := [] }) ?assign ?body ?done ?stop
   case assign =>
    intro l y W' K hK
    gi_wp2
    simpa using hK
   case body =>
    rintro l pre y W' ⟨rfl, ci⟩ _
    obtain ⟨f0, f1, f2, f3, f4, f5⟩ := CE.out _ _ ci.oc
    have fi : W'.cell? ⟨W.heap.size, 0, none⟩ = some (.int .i64 (k : Int)) := by rw [Lib.cell_of_heap ci.ibx]; rfl
    have he := KG.out _ ci.oc.low
    have ci2 := ci.alloc (.cells #[.int .i64 (k : Int), .iface 114 (.pointer (some (ad 4)))] 68)
    obtain ⟨_, _, _, _, f6, f7⟩ := CE.out _ _ ci2.oc
    have CIA := Aside0.mk ci
    clear ci ci2
    gi_wp2
    have h1 := CIA.out.oc.sz
    exact ⟨((KeepsOthers.alloc _ _).trans (KeepsOthers.setCell _ _ _)).from _, rfl, W'.heap.size, (CIA.out.alloc _).put (by omega) _, blk_far (World.alloc_heap_new W' _) (by simp; omega) _⟩
   case done =>
    rintro D ys W' hD hS ⟨hpre, ci⟩ hK
    subst hpre
    have CIA := Aside0.mk ci
    have HK := Aside0.mk hK
    clear ci hK
    gi_wp2
    refine ⟨⟨k + 1, _, _, _, _, _, _, _, _, _, _, _, _, _, _, _, _, D :: Ds, rfl, by omega, ⟨CIA.out.oc⟩, ⟨?_⟩, ⟨?_, ?_⟩⟩, by simp [intOf]; omega⟩
    · intro z hz
      rw [List.take_succ_eq_append_getElem hlt, List.mem_append, List.mem_singleton] at hz
      rcases hz with hz | hz
      · exact hno.out z hz
      · rw [hz, ← HX.out]; exact hS.symm
    · exact List.nodup_cons.2 ⟨fun h => by have := (CIA.out.ds D h).2.1; omega, hds.out.1⟩
    · intro D' hD'
      rcases List.mem_cons.1 hD' with rfl | hD'
      · exact ⟨by omega, HK.out⟩
      · exact ⟨(CIA.out.ds D' hD').1, (CIA.out.ds D' hD').2.2⟩
   case stop =>
    rintro D c pre W' hD ⟨hpre, hne⟩ ⟨rfl, eb, ci, hblk⟩ hK
    gi_wp2
    have hfs : fsL x.f1 ≠ [] := fun e => hne (List.prefix_nil.1 (e ▸ hpre))
    have hbr : br = (4, (k : Int)) := by rw [HBR.out, badR_some hlt hno.out (by rw [← HX.out]; exact hfs)]
    refine leaves_marks w.heap.size (D :: Ds) W' (List.nodup_cons.2 ⟨fun h => by have := (ci.ds D h).2.1; omega, hds.out.1⟩) ?_ ?_
    · intro D' hD'
      rcases List.mem_cons.1 hD' with rfl | hD'
      · exact ⟨by omega, hK⟩
      · exact ⟨by have := (ci.ds D' hD').1; omega, (ci.ds D' hD').2.2⟩
    · intro w' hb hk'
      have hnm : ∀ (b : Nat) (cells : Array Value) (t : TypeId), W'.heap[b]? = some (.cells cells t (0, 0)) → w'.heap[b]? = some (.cells cells t (0, 0)) := fun b cells t h => by
       refine (hk' b fun hm => ?_).trans h
       rcases List.mem_cons.1 hm with rfl | hm
       · rw [hK] at h; cases h
       · rw [(ci.ds b hm).2.2] at h; cases h
      have hc : w'.cell? ⟨w.heap.size + 1, 0, none⟩ = some (.iface 66 (.pointer (some ⟨eb, 0, none⟩))) := by rw [Lib.cell_of_heap (hnm _ _ _ ci.oc.eb)]; rfl
      refine ⟨.iface 66 (.pointer (some ⟨eb, 0, none⟩)), by simp [results, Tryd.f12, go_sem, hc], _, rfl, ?_, ci.oc.low.trans hb⟩
      rw [hbr]
      exact .inr (.inr ⟨⟨by show (1 : Int) ≤ 4; decide, by show (4 : Int) ≤ 15; decide⟩, by show (0 : Int) ≤ (k : Int); omega, by show (k : Int) < 1000; omega, eb, rfl, hnm _ _ _ hblk⟩)
 · obtain rfl : k = R.length := by omega
   obtain ⟨f0, f1, f2, f3, f4, f5⟩ := CE.out _ _ tr.out
   gi_wp2
   have o2 := tr.out.put .nilIface
   have hbr : br = (0, -1) := by
    have := hno.out
    rw [List.take_length] at this
    rw [HBR.out, badR_none this]
   refine leaves_marks w.heap.size Ds _ hds.out.1 (fun D' hD' => ⟨by have := (hds.out.2 D' hD').1; omega, (KeepsOthers.setCell W _ _).same D' _ (hds.out.2 D' hD').2 rfl⟩) ?_
   intro w' hb hk'
   have hc : w'.cell? ⟨w.heap.size + 1, 0, none⟩ = some .nilIface := by
    rw [Lib.cell_of_heap ((hk' _ fun hm => by have := (hds.out.2 _ hm).1; omega).trans o2.eb)]; rfl
   refine ⟨.nilIface, by simp [results, Tryd.f12, go_sem, hc], _, rfl, ?_, o2.low.trans hb⟩
   rw [hbr]
   exact .inl ⟨rfl, rfl, rfl⟩
set_option maxRecDepth 100000 in
set_option maxHeartbeats 2000000 in
theorem Check_0 (ad : Int → Addr) (A0 : Option Addr) (c0 : Nat) (l0 : List ByteArray) (A1 : Option Addr) (c1 : Nat) (l1 : List ByteArray) (a2 : Int) (A3 : Option Addr) (c3 : Nat) (R : List S55) (w : World) (hs : SentsK ad w) (hr0 : Kd.C Kd.string w A0 l0.length l0) (hc0 : l0.length ≤ c0) (hr1 : Kd.C Kd.string w A1 l1.length l1) (hc1 : l1.length ≤ c1) (hr3 : Kd.C k55 w A3 R.length R) (hc3 : R.length ≤ c3) (hp : (chk (namesOK l0) (namesOK l1) l0.length l1.length a2 R).1 ≠ 0) :
 Calls Tryd.prog 12 #[.agg #[.slice A0 l0.length c0, .slice A1 l1.length c1, .int .i64 a2, .slice A3 R.length c3]] w fun e w' => ∃ E, e = .returned E ∧ ErrW ad w' E (chk (namesOK l0) (namesOK l1) l0.length l1.length a2 R) ∧ Below w.heap.size w w' := by
 obtain ⟨cs, hcs⟩ : ∃ cs : Array Value, cs = #[.slice A0 l0.length c0, .slice A1 l1.length c1, .int .i64 a2, .slice A3 R.length c3] := ⟨_, rfl⟩
 have st : OC w cs .nilIface ((w.alloc (.cells #[.slice A0 l0.length c0, .slice A1 l1.length c1, .int .i64 a2, .slice A3 R.length c3] 29)).alloc (.cells #[.nilIface] 32)) := by subst hcs; exact OC.start w _ _
 have KC : Aside0 (∀ W, OC w cs .nilIface W → Calls Tryd.prog 26 #[.agg #[.slice A0 l0.length c0, .slice A1 l1.length c1, .int .i64 a2, .slice A3 R.length c3]] W fun e w' => ∃ t u, e = .returned (.iface t u) ∧ Aside0 (ErrW ad w' (.iface t u) (chk (namesOK l0) (namesOK l1) l0.length l1.length a2 R) ∧ OC w cs .nilIface w')) := ⟨fun W hW =>
  (Check_any ad A0 c0 l0 A1 c1 l1 a2 A3 c3 R W (hs.below hW.low) (Kd.C_below hr0 hW.low) hc0 (Kd.C_below hr1 hW.low) hc1 (Kd.C_below hr3 hW.low) hc3).mono fun e w' ⟨⟨v, he, hv⟩, hb⟩ => by
   have hw := ErrW.of hv
   obtain ⟨t, u, rfl⟩ := hw.any hp
   exact ⟨t, u, he, ⟨hw, hW.more hb⟩⟩⟩
 have ST := Aside0.mk st
 have HCS := Lib.hid hcs
 clear st hcs hs hr0 hr1 hr3 hp
 generalize chk (namesOK l0) (namesOK l1) l0.length l1.length a2 R = pr at KC ⊢
 refine (callsIn_wide (n := 7)).1 ?_
 refine callsIn_of_wp_marks Tryd.func12 rfl trivial ?_ rfl
 simp only [Tryd.ntmps12, List.size_toArray, List.length_cons, List.length_nil, Nat.reduceAdd, Nat.reduceSub, Array.replicate_succ, Array.replicate_zero, List.push_toArray, List.append_toArray, List.nil_append, List.cons_append]
 gi_wp2_with (first
  | (refine ⟨trivial, ?_⟩; gi_at_call 26; refine (callsIn_wide.2 (KC.out _ ST.out)).mono ?_; rintro e w2 ⟨t, u, rfl, t2⟩; have f4 : w2.cell? ⟨w.heap.size + 1, 0, none⟩ = some .nilIface := (by rw [Lib.cell_of_heap t2.out.2.eb]; rfl); have f5 := frozen0 t2.out.2.eb))
 have o2 := t2.out.2.put (.iface t u)
 have hc : (w2.setCell ⟨w.heap.size + 1, 0, none⟩ (.iface t u)).cell? ⟨w.heap.size + 1, 0, none⟩ = some (.iface t u) := by rw [Lib.cell_of_heap o2.eb]; rfl
 exact ⟨.iface t u, by simp [results, Tryd.f12, go_sem, hc], _, rfl, errW_put t2.out.1 ⟨_, t2.out.2.eb⟩ _, o2.low⟩
theorem opCheck_calls (ad : Int → Addr) (A0 : Option Addr) (c0 : Nat) (l0 : List ByteArray) (A1 : Option Addr) (c1 : Nat) (l1 : List ByteArray) (a2 : Int) (A3 : Option Addr) (c3 : Nat) (R : List S55) (w : World) (hs : SentsK ad w) (hr0 : Kd.C Kd.string w A0 l0.length l0) (hc0 : l0.length ≤ c0) (hr1 : Kd.C Kd.string w A1 l1.length l1) (hc1 : l1.length ≤ c1) (hr3 : Kd.C k55 w A3 R.length R) (hc3 : R.length ≤ c3) :
 Calls Tryd.prog 12 #[.agg #[.slice A0 l0.length c0, .slice A1 l1.length c1, .int .i64 a2, .slice A3 R.length c3]] w fun e w' => ∃ E, e = .returned E ∧ ErrW ad w' E (opP l0 l1 a2 R) ∧ Below w.heap.size w w' := by
 unfold opP
 by_cases hp : (chk (namesOK l0) (namesOK l1) l0.length l1.length a2 R).1 = 0
 · rw [if_pos hp]; exact Check_1 ad A0 c0 l0 A1 c1 l1 a2 A3 c3 R w hs hr0 hc0 hr1 hc1 hr3 hc3 hp
 · rw [if_neg hp]; exact Check_0 ad A0 c0 l0 A1 c1 l1 a2 A3 c3 R w hs hr0 hc0 hr1 hc1 hr3 hc3 hp
end Go.Proofs.YtaeaookonhaliaaDoor.R6
/- dovetaillaw06.wrong: walked. -/
namespace Go.Proofs.YtaeaookonhaliaaDoor.R6
open Go.RowKit YtaeaookonhaliaaDoorW.PrintWords YtaeaookonhaliaaDoorW.PrintLast YtaeaookonhaliaaDoorW.PrintMore
open B H F
structure WM (w : World) (cs : Array Value) (W : World) : Prop where
 low : Below w.heap.size w W
 gb : W.heap[w.heap.size]? = some (.cells cs 29 (0, 0))
 rb : W.heap[w.heap.size + 1]? = some (.cells #[.int .i64 0, .int .i64 0] 44 (0, 0))
section
variable {w W W' : World} {cs : Array Value}
theorem WM.start (w : World) (cs : Array Value) : WM w cs ((w.alloc (.cells cs 29)).alloc (.cells #[.int .i64 0, .int .i64 0] 44)) :=
 ⟨((Below.refl _ w).alloc (Nat.le_refl _) _).alloc (by simp) _, heap_alloc2_old w _ _, heap_alloc2_new w _ _⟩
theorem WM.sz (h : WM w cs W) : w.heap.size + 2 ≤ W.heap.size := by
 have h2 := (Array.getElem?_eq_some_iff.1 h.rb).1
 omega
theorem WM.more (h : WM w cs W) (hb : Below W.heap.size W W') : WM w cs W' := by
 have := h.sz
 exact ⟨h.low.trans (hb.mono (by omega)), (hb.block _ (by omega)).trans h.gb, (hb.block _ (by omega)).trans h.rb⟩
theorem WM.cells {v0 v1 v2 v3 : Value} (h : WM w #[v0, v1, v2, v3] W) : W.cell? ⟨w.heap.size, 0, none⟩ = some v0 ∧ W.cell? ⟨w.heap.size, 1, none⟩ = some v1 ∧ W.cell? ⟨w.heap.size, 2, none⟩ = some v2 ∧ W.cell? ⟨w.heap.size, 3, none⟩ = some v3 :=
 ⟨by rw [Lib.cell_of_heap h.gb]; rfl, by rw [Lib.cell_of_heap h.gb]; rfl, by rw [Lib.cell_of_heap h.gb]; rfl, by rw [Lib.cell_of_heap h.gb]; rfl⟩
end
set_option maxRecDepth 100000 in
set_option maxHeartbeats 4000000 in
theorem wrong_calls (ad : Int → Addr) (A0 : Option Addr) (c0 : Nat) (l0 : List ByteArray) (A1 : Option Addr) (c1 : Nat) (l1 : List ByteArray) (a2 : Int) (A3 : Option Addr) (c3 : Nat) (R : List S55) (w : World) (hs : SentsK ad w) (hg : HandleP w) (hr0 : Kd.C Kd.string w A0 l0.length l0) (hc0 : l0.length ≤ c0) (hr1 : Kd.C Kd.string w A1 l1.length l1) (hc1 : l1.length ≤ c1) (hr3 : Kd.C k55 w A3 R.length R) (hc3 : R.length ≤ c3) :
 Calls Tryd.prog 25 #[.agg #[.slice A0 l0.length c0, .slice A1 l1.length c1, .int .i64 a2, .slice A3 R.length c3]] w fun e w' => e = .returned (.agg #[.int .i64 (opP l0 l1 a2 R).1, .int .i64 (opP l0 l1 a2 R).2]) ∧ Below w.heap.size w w' := by
 obtain ⟨cs, hcs⟩ : ∃ cs : Array Value, cs = #[.slice A0 l0.length c0, .slice A1 l1.length c1, .int .i64 a2, .slice A3 R.length c3] := ⟨_, rfl⟩
 have st : WM w cs ((w.alloc (.cells #[.slice A0 l0.length c0, .slice A1 l1.length c1, .int .i64 a2, .slice A3 R.length c3] 29)).alloc (.cells #[.int .i64 0, .int .i64 0] 44)) := by subst hcs; exact WM.start w _
 have KC : Aside0 (∀ W, WM w cs W → Calls Tryd.prog 12 #[.agg #[.slice A0 l0.length c0, .slice A1 l1.length c1, .int .i64 a2, .slice A3 R.length c3]] W fun e w' => ∃ E, e = .returned E ∧ Aside0 (ErrW ad w' E (opP l0 l1 a2 R) ∧ WM w cs w')) := ⟨fun W hW =>
  (opCheck_calls ad A0 c0 l0 A1 c1 l1 a2 A3 c3 R W (hs.below hW.low) (Kd.C_below hr0 hW.low) hc0 (Kd.C_below hr1 hW.low) hc1 (Kd.C_below hr3 hW.low) hc3).mono fun e w' ⟨E, he, hE, hb⟩ => ⟨E, he, ⟨hE, hW.more hb⟩⟩⟩
 have ST := Aside0.mk st
 have HCS := Lib.hid hcs
 obtain ⟨pr, hpr⟩ : ∃ pr, pr = opP l0 l1 a2 R := ⟨_, rfl⟩
 rw [← hpr] at KC ⊢
 obtain ⟨k, r⟩ := pr
 have KD : Aside0 (∀ E W, ErrW ad W E (k, r) ∧ WM w cs W → Calls Tryd.prog 16 #[E] W fun e w' => e = .returned (.int .i64 k) ∧ Aside0 (ErrW ad w' E (k, r) ∧ WM w cs w')) := ⟨fun E W h => (Kind_w (hs.below h.2.low) h.1).mono fun e w' ⟨he, hb⟩ => ⟨he, ⟨h.1.below hb, h.2.more hb⟩⟩⟩
 have KR : Aside0 (∀ E W, ErrW ad W E (k, r) ∧ WM w cs W → Calls Tryd.prog 17 #[E] W fun e w' => e = .returned (.int .i64 r) ∧ Aside0 (WM w cs w')) := ⟨fun E W h => (Rule_w (hg.below h.2.low) h.1).mono fun e w' ⟨he, hb⟩ => ⟨he, ⟨h.2.more hb⟩⟩⟩
 clear st hcs hs hg hr0 hr1 hr3 hpr
 go_enter Tryd.func25, Tryd.ntmps25
 go_wp2_with (first
  | (go_at_call 12; (with_reducible refine (KC.out _ ST.out).mono ?_); rintro e w1 ⟨E, rfl, t1⟩)
  | (go_at_call 16; (with_reducible refine (KD.out _ _ t1.out).mono ?_); rintro e w2 ⟨rfl, t2⟩)
  | (go_at_call 17; (with_reducible refine (KR.out _ _ t2.out).mono ?_); rintro e w3 ⟨rfl, t3⟩; have f0 : w3.cell? ⟨w.heap.size + 1, 0, none⟩ = some (.int .i64 0) := (by rw [Lib.cell_of_heap t3.out.rb]; rfl); have f1 : w3.cell? ⟨w.heap.size + 1, 1, none⟩ = some (.int .i64 0) := (by rw [Lib.cell_of_heap t3.out.rb]; rfl); have g0 := frozen_of_row w3 _ 0 _ _ t3.out.rb; have g1 := frozen_of_row w3 _ 1 _ _ t3.out.rb))
 have hf : ((w3.setCell ⟨w.heap.size + 1, 0, none⟩ (.int .i64 k)).setCell ⟨w.heap.size + 1, 1, none⟩ (.int .i64 r)).heap[w.heap.size + 1]? = some (.cells #[.int .i64 k, .int .i64 r] 44 (0, 0)) := by
  have h1 := heap_setCell_same w3 (w.heap.size + 1) 0 _ _ (.int .i64 k) t3.out.rb
  have h2 := heap_setCell_same _ (w.heap.size + 1) 1 _ _ (.int .i64 r) h1
  simpa using h2
 have hl : Below w.heap.size w ((w3.setCell ⟨w.heap.size + 1, 0, none⟩ (.int .i64 k)).setCell ⟨w.heap.size + 1, 1, none⟩ (.int .i64 r)) := (t3.out.low.setCell (p := ⟨w.heap.size + 1, 0, none⟩) (by simp) _).setCell (p := ⟨w.heap.size + 1, 1, none⟩) (by simp) _
 refine bodyPost_ret (results_cell_row rfl _ _ (w.heap.size + 1) 44 #[.int .i64 k, .int .i64 r] (0, 0) _ rfl hf Tryd.underlying44 rfl (by kernel_rfl)) rfl ?_
 exact ⟨rfl, hl⟩
end Go.Proofs.YtaeaookonhaliaaDoor.R6
/- dovetaillaw06.awake: walked. -/
namespace Go.Proofs.YtaeaookonhaliaaDoor.R6
open Go.RowKit YtaeaookonhaliaaDoorW.PrintWords YtaeaookonhaliaaDoorW.PrintLast YtaeaookonhaliaaDoorW.PrintMore
open B H F

def oT : List ByteArray := [⟨#[97]⟩, ⟨#[98]⟩]
def oN : List ByteArray := [⟨#[83]⟩]
def oR (a b : List Int) : List S55 := [⟨0, a⟩, ⟨0, b⟩]
def WO (W : World) (a b : List Int) : World :=
 ((W.alloc (.cells (a.map (Value.int .i64)).toArray 3)).alloc (.cells (b.map (Value.int .i64)).toArray 3)).alloc (.cells #[.slice (some ⟨W.heap.size, 0, none⟩) a.length a.length, .slice (some ⟨W.heap.size + 1, 0, none⟩) b.length b.length] 22)
theorem WO_size (W : World) (a b : List Int) : (WO W a b).heap.size = W.heap.size + 3 := by simp [WO]
theorem WO_below (W : World) (a b : List Int) : Below W.heap.size W (WO W a b) := by
 unfold WO
 exact (((Below.refl _ W).alloc (Nat.le_refl _) _).alloc (by simp) _).alloc (by simp; omega) _
theorem WO_row (W : World) (a b : List Int) (ha : a.length ≤ 100) (hb : b.length ≤ 100) (W' : World) (h : ∀ k, k < (WO W a b).heap.size → W'.heap[k]? = (WO W a b).heap[k]?) : Kd.C (Kd.slice 3 (Kd.int .i64)) W' (some ⟨W.heap.size + 2, 0, none⟩) 2 [a, b] := by
 have h0 : (WO W a b).heap[W.heap.size]? = some (.cells (a.map (Value.int .i64)).toArray 3 (0, 0)) := by simp only [WO, halloc, Array.getElem?_push, Array.size_push] <;> (repeat (first | rw [if_pos trivial] | rw [if_pos (by omega)] | rw [if_neg (by omega)]))
 have h1 : (WO W a b).heap[W.heap.size + 1]? = some (.cells (b.map (Value.int .i64)).toArray 3 (0, 0)) := by simp only [WO, halloc, Array.getElem?_push, Array.size_push] <;> (repeat (first | rw [if_pos trivial] | rw [if_pos (by omega)] | rw [if_neg (by omega)]))
 have h2 : (WO W a b).heap[W.heap.size + 2]? = some (.cells #[.slice (some ⟨W.heap.size, 0, none⟩) a.length a.length, .slice (some ⟨W.heap.size + 1, 0, none⟩) b.length b.length] 22 (0, 0)) := by simp only [WO, halloc, Array.getElem?_push, Array.size_push] <;> (repeat (first | rw [if_pos trivial] | rw [if_pos (by omega)] | rw [if_neg (by omega)]))
 have hs := WO_size W a b
 have h0' := (h _ (by omega)).trans h0
 have h1' := (h _ (by omega)).trans h1
 have h2' := (h _ (by omega)).trans h2
 refine lit_L [(a, (some ⟨W.heap.size, 0, none⟩, a.length)), (b, (some ⟨W.heap.size + 1, 0, none⟩, b.length))] (by simp) h2' ?_
 intro x hx
 simp only [List.mem_cons, List.not_mem_nil, or_false] at hx
 rcases hx with rfl | rfl
 · exact ⟨Nat.le_refl _, lit_I a (by omega) h0'⟩
 · exact ⟨Nat.le_refl _, lit_I b (by omega) h1'⟩
theorem one_f (a b : List Int) : dovetaillaw06_one.f 10 [a, b] = some (oT, oN, 0, oR a b) := by kernel_rfl
theorem one_lit (a b : List Int) (ha : a.length ≤ 100) (hb : b.length ≤ 100) (W : World) : Calls Tryd.prog 24 #[.slice (some ⟨W.heap.size + 2, 0, none⟩) 2 2] (WO W a b) fun e w' => ∃ A0 c0 A1 c1 A3 c3, e = .returned (.agg #[.slice A0 2 c0, .slice A1 1 c1, .int .i64 0, .slice A3 2 c3]) ∧
 Aside0 (Kd.C Kd.string w' A0 2 oT ∧ 2 ≤ c0 ∧ Kd.C Kd.string w' A1 1 oN ∧ 1 ≤ c1 ∧ Kd.C k55 w' A3 2 (oR a b) ∧ 2 ≤ c3 ∧ Below W.heap.size W w') := by
 have hV : Kd.V (Kd.slice 3 (Kd.int .i64)) 22 (WO W a b) (WO W a b).heap.size (fun k => k < (WO W a b).heap.size) (.slice (some ⟨W.heap.size + 2, 0, none⟩) [a, b].length 2) [a, b] := Kd.V_mk (Nat.le_refl 2) (fun W' h' => WO_row W a b ha hb W' (fun k hk => h' k hk hk))
 refine (dovetaillaw06_one.calls 10 (fun k => k < (WO W a b).heap.size) _ 2 [a, b] oT oN 0 (oR a b) (WO W a b) hV (one_f a b)).mono ?_
 rintro e w' ⟨v0, v1, v3, rfl, r0, r1, r3, hbl⟩
 obtain ⟨A0, c0, rfl⟩ := Kd.R_slice r0
 obtain ⟨A1, c1, rfl⟩ := Kd.R_slice r1
 obtain ⟨A3, c3, rfl⟩ := Kd.N_slice r3
 exact ⟨A0, c0, A1, c1, A3, c3, rfl, ⟨(Kd.R_reads' r0).2.2, (Kd.R_reads' r0).2.1, (Kd.R_reads' r1).2.2, (Kd.R_reads' r1).2.1, (Kd.N_reads' r3).2.2, (Kd.N_reads' r3).2.1, (WO_below W a b).trans (hbl.mono (WO_below W a b).size)⟩⟩
theorem eq2 (W : World) (a b : Int) : (Op.equalIn 10000 44 (.agg #[.int .i64 a, .int .i64 b]) (.agg #[.int .i64 a, .int .i64 b])).run Tryd.prog W = .ok true W := by
 obtain ⟨i, hi⟩ : ∃ i, Tryd.prog.info? 3 = some i := by
  have : (Tryd.prog.info? 3).isSome = true := by kernel_rfl
  exact Option.isSome_iff_exists.1 this
 have hr := run_equalIn_array (P := Tryd.prog) (w := W) 9999 #[.int .i64 a, .int .i64 b] #[.int .i64 a, .int .i64 b] Tryd.underlying44 hi
 refine hr.trans ?_
 rw [cells_int]
 exact eqItems_same 9998 W [a, b] (List.range 2) (fun i hi => List.mem_range.1 hi)
def awk : Bool := decide (opP oT oN 0 (oR [0, -1, 1] [-1]) = (0, -1)) && decide (opP oT oN 0 (oR [0] [0, -1, -1]) = (4, 1)) && decide (dovetailkit_Ints.f 50 [-1, 0, -1, 1] [-1, 0, -1, 1] = some true)
theorem awk_true : awk = true := by kernel_rfl
set_option maxRecDepth 100000 in
set_option maxHeartbeats 4000000 in
theorem awake_calls (ad : Int → Addr) (w : World) (hs : SentsK ad w) (hg : HandleP w) : Calls Tryd.prog 10 #[] w fun e w' => e = .returned (.bool true) ∧ Below w.heap.size w w' := by
 obtain ⟨⟨h1, h2⟩, h3⟩ : (opP oT oN 0 (oR [0, -1, 1] [-1]) = (0, -1) ∧ opP oT oN 0 (oR [0] [0, -1, -1]) = (4, 1)) ∧ dovetailkit_Ints.f 50 [-1, 0, -1, 1] [-1, 0, -1, 1] = some true := by
  have h := awk_true
  unfold awk at h
  simpa only [Bool.and_eq_true, decide_eq_true_eq] using h
 have KO1 : Aside0 (∀ (W : World) (q : Nat), q = W.heap.size + 2 → Below w.heap.size w W → Calls Tryd.prog 24 #[.slice (some ⟨q, 0, none⟩) 2 2] (((W.alloc (.cells #[.int .i64 0, .int .i64 (-1), .int .i64 1] 3)).alloc (.cells #[.int .i64 (-1)] 3)).alloc (.cells #[.slice (some ⟨W.heap.size, 0, none⟩) 3 3, .slice (some ⟨W.heap.size + 1, 0, none⟩) 1 1] 22)) fun e w' => ∃ A0 c0 A1 c1 A3 c3, e = .returned (.agg #[.slice A0 2 c0, .slice A1 1 c1, .int .i64 0, .slice A3 2 c3]) ∧
  Aside0 (Kd.C Kd.string w' A0 2 oT ∧ 2 ≤ c0 ∧ Kd.C Kd.string w' A1 1 oN ∧ 1 ≤ c1 ∧ Kd.C k55 w' A3 2 (oR [0, -1, 1] [-1]) ∧ 2 ≤ c3 ∧ Below w.heap.size w w')) := ⟨fun W q hq hW => by
  subst hq
  refine (one_lit [0, -1, 1] [-1] (by simp) (by simp) W).mono ?_
  rintro e w' ⟨A0, c0, A1, c1, A3, c3, he, h⟩
  exact ⟨A0, c0, A1, c1, A3, c3, he, ⟨h.out.1, h.out.2.1, h.out.2.2.1, h.out.2.2.2.1, h.out.2.2.2.2.1, h.out.2.2.2.2.2.1, hW.trans (h.out.2.2.2.2.2.2.mono hW.size)⟩⟩⟩
 have KO2 : Aside0 (∀ (W : World) (q : Nat), q = W.heap.size + 2 → Below w.heap.size w W → Calls Tryd.prog 24 #[.slice (some ⟨q, 0, none⟩) 2 2] (((W.alloc (.cells #[.int .i64 0] 3)).alloc (.cells #[.int .i64 0, .int .i64 (-1), .int .i64 (-1)] 3)).alloc (.cells #[.slice (some ⟨W.heap.size, 0, none⟩) 1 1, .slice (some ⟨W.heap.size + 1, 0, none⟩) 3 3] 22)) fun e w' => ∃ A0 c0 A1 c1 A3 c3, e = .returned (.agg #[.slice A0 2 c0, .slice A1 1 c1, .int .i64 0, .slice A3 2 c3]) ∧
  Aside0 (Kd.C Kd.string w' A0 2 oT ∧ 2 ≤ c0 ∧ Kd.C Kd.string w' A1 1 oN ∧ 1 ≤ c1 ∧ Kd.C k55 w' A3 2 (oR [0] [0, -1, -1]) ∧ 2 ≤ c3 ∧ Below w.heap.size w w')) := ⟨fun W q hq hW => by
  subst hq
  refine (one_lit [0] [0, -1, -1] (by simp) (by simp) W).mono ?_
  rintro e w' ⟨A0, c0, A1, c1, A3, c3, he, h⟩
  exact ⟨A0, c0, A1, c1, A3, c3, he, ⟨h.out.1, h.out.2.1, h.out.2.2.1, h.out.2.2.2.1, h.out.2.2.2.2.1, h.out.2.2.2.2.2.1, hW.trans (h.out.2.2.2.2.2.2.mono hW.size)⟩⟩⟩
 have KW1 : Aside0 (∀ (W : World) A0 c0 A1 c1 A3 c3, (Kd.C Kd.string W A0 2 oT ∧ 2 ≤ c0 ∧ Kd.C Kd.string W A1 1 oN ∧ 1 ≤ c1 ∧ Kd.C k55 W A3 2 (oR [0, -1, 1] [-1]) ∧ 2 ≤ c3 ∧ Below w.heap.size w W) → Calls Tryd.prog 25 #[.agg #[.slice A0 2 c0, .slice A1 1 c1, .int .i64 0, .slice A3 2 c3]] W fun e w' => e = .returned (.agg #[.int .i64 0, .int .i64 (-1)]) ∧ Aside0 (Below w.heap.size w w')) := ⟨fun W A0 c0 A1 c1 A3 c3 h => by
  refine (wrong_calls ad A0 c0 oT A1 c1 oN 0 A3 c3 (oR [0, -1, 1] [-1]) W (hs.below h.2.2.2.2.2.2) (hg.below h.2.2.2.2.2.2) h.1 h.2.1 h.2.2.1 h.2.2.2.1 h.2.2.2.2.1 h.2.2.2.2.2.1).mono ?_
  rw [h1]
  exact fun e w' ⟨he, hb⟩ => ⟨he, ⟨h.2.2.2.2.2.2.trans (hb.mono h.2.2.2.2.2.2.size)⟩⟩⟩
 have KW2 : Aside0 (∀ (W : World) A0 c0 A1 c1 A3 c3, (Kd.C Kd.string W A0 2 oT ∧ 2 ≤ c0 ∧ Kd.C Kd.string W A1 1 oN ∧ 1 ≤ c1 ∧ Kd.C k55 W A3 2 (oR [0] [0, -1, -1]) ∧ 2 ≤ c3 ∧ Below w.heap.size w W) → Calls Tryd.prog 25 #[.agg #[.slice A0 2 c0, .slice A1 1 c1, .int .i64 0, .slice A3 2 c3]] W fun e w' => e = .returned (.agg #[.int .i64 4, .int .i64 1]) ∧ Aside0 (Below w.heap.size w w')) := ⟨fun W A0 c0 A1 c1 A3 c3 h => by
  refine (wrong_calls ad A0 c0 oT A1 c1 oN 0 A3 c3 (oR [0] [0, -1, -1]) W (hs.below h.2.2.2.2.2.2) (hg.below h.2.2.2.2.2.2) h.1 h.2.1 h.2.2.1 h.2.2.2.1 h.2.2.2.2.1 h.2.2.2.2.2.1).mono ?_
  rw [h2]
  exact fun e w' ⟨he, hb⟩ => ⟨he, ⟨h.2.2.2.2.2.2.trans (hb.mono h.2.2.2.2.2.2.size)⟩⟩⟩
 have KS : Aside0 (∀ (W : World) (q : Nat), q = W.heap.size → Below w.heap.size w W → Calls Tryd.prog 8 #[.slice (some ⟨q, 0, none⟩) 4 4] (W.alloc (.cells #[.int .i64 (-3), .int .i64 0, .int .i64 (-1), .int .i64 1] 3)) fun e w' => ∃ B, e = .returned (.slice B 4 4) ∧ Aside0 (Kd.C (Kd.int .i64) w' B 4 [-1, 0, -1, 1] ∧ Below w.heap.size w w')) := ⟨fun W q hq hW => by
  subst hq
  have hb' : Below W.heap.size W (W.alloc (.cells #[.int .i64 (-3), .int .i64 0, .int .i64 (-1), .int .i64 1] 3)) := (Below.refl _ W).alloc (Nat.le_refl _) _
  refine (Skeleton_calls (some ⟨W.heap.size, 0, none⟩) 4 [-3, 0, -1, 1] _ (lit_I [-3, 0, -1, 1] (by simp) (World.alloc_heap_new W _)) (Nat.le_refl 4) (by decide)).mono ?_
  rintro e w' ⟨B, cap, he, hR, hb⟩
  exact ⟨B, he, ⟨(Kd.R_reads' hR).2.2, hW.trans ((hb'.trans (hb.mono hb'.size)).mono hW.size)⟩⟩⟩
 have KI : Aside0 (∀ (W : World) (B : Option Addr) (q : Nat), q = W.heap.size → (Kd.C (Kd.int .i64) W B 4 [-1, 0, -1, 1] ∧ Below w.heap.size w W) → Calls Tryd.prog 9 #[.slice B 4 4, .slice (some ⟨q, 0, none⟩) 4 4] (W.alloc (.cells #[.int .i64 (-1), .int .i64 0, .int .i64 (-1), .int .i64 1] 3)) fun e w' => e = .returned (.bool true) ∧ Aside0 (Below w.heap.size w w')) := ⟨fun W B q hq h => by
  subst hq
  have hb' : Below W.heap.size W (W.alloc (.cells #[.int .i64 (-1), .int .i64 0, .int .i64 (-1), .int .i64 1] 3)) := (Below.refl _ W).alloc (Nat.le_refl _) _
  refine (dovetailkit_Ints.calls 50 B 4 [-1, 0, -1, 1] (some ⟨W.heap.size, 0, none⟩) 4 [-1, 0, -1, 1] true _ (Kd.C_below h.1 hb') (Nat.le_refl 4) (lit_I [-1, 0, -1, 1] (by simp) (World.alloc_heap_new W _)) (Nat.le_refl 4) h3).mono ?_
  exact fun e w' ⟨he, hd⟩ => ⟨he, ⟨h.2.trans ((hb'.trans (hd.below.mono hb'.size)).mono h.2.size)⟩⟩⟩
 have B0 : Aside0 (Below w.heap.size w w) := ⟨Below.refl _ _⟩
 clear h1 h2 h3 hs hg
 go_enter Tryd.func10, Tryd.ntmps10
 go_wp2_with (first
  | (go_at_call 24; (with_reducible refine (KO1.out _ _ ?hq B0.out).mono ?_); (case hq => simp); clear B0; rintro e w1 ⟨A0, c0, A1, c1, A3, c3, rfl, t1⟩)
  | (go_at_call 25; (with_reducible refine (KW1.out _ _ _ _ _ _ _ t1.out).mono ?_); clear t1; rintro e w2 ⟨rfl, t2⟩; have hq1 := eq2 w2 0 (-1))
  | (go_at_call 24; (with_reducible refine (KO2.out _ _ ?hq t2.out).mono ?_); (case hq => simp); clear t2; rintro e w3 ⟨A0, c0, A1, c1, A3, c3, rfl, t3⟩)
  | (go_at_call 25; (with_reducible refine (KW2.out _ _ _ _ _ _ _ t3.out).mono ?_); clear t3; rintro e w4 ⟨rfl, t4⟩; have hq2 := eq2 w4 4 1)
  | (go_at_call 8; (with_reducible refine (KS.out _ _ ?hq t4.out).mono ?_); (case hq => simp); clear t4; rintro e w5 ⟨B, rfl, t5⟩)
  | (go_at_call 9; (with_reducible refine (KI.out _ _ _ ?hq t5.out).mono ?_); (case hq => simp); clear t5; rintro e w6 ⟨rfl, t6⟩))
 go_ret
 exact ⟨rfl, t6.out⟩
end Go.Proofs.YtaeaookonhaliaaDoor.R6
/- Rows of cells that own their block, or were cut with their length for a capacity: read, written, gone on with. -/
namespace Go.Proofs.YtaeaookonhaliaaDoor.CO
open Go.RowKit YtaeaookonhaliaaDoorW.PrintWords YtaeaookonhaliaaDoorW.PrintLast YtaeaookonhaliaaDoorW.PrintMore
section
variable {E size base : Nat} {W W' : World} {v : Value} {n : Nat} {cs : List Value}
def CutO (E size base : Nat) (W : World) (v : Value) (n : Nat) (cs : List Value) : Prop :=
 W.ownsRow base E size v n cs ∨ (cs.length = n * size ∧ ∃ g cur, v = .slice (some ⟨g, 0, none⟩) n n ∧ base ≤ g ∧ W.heap[g]? = some (.cells cur E (0, 0)) ∧ n ≤ maxLen ∧ cur.toList.take (n * size) = cs)
theorem CutO.form (h : CutO E size base W v n cs) : (v = .slice none 0 0 ∧ n = 0) ∨ ∃ g c cur, v = .slice (some ⟨g, 0, none⟩) n c ∧ n ≤ c ∧ base ≤ g ∧ W.heap[g]? = some (.cells cur E (0, 0)) ∧ cur.toList.take (n * size) = cs := by
 rcases h with ⟨hl, ⟨e, h0⟩ | ⟨g, cap, cur, e, hb, hg, hn, hc, hs, ht⟩⟩ | ⟨hl, g, cur, e, hb, hg, hn, ht⟩
 · exact .inl ⟨e, h0⟩
 · exact .inr ⟨g, cap, cur, e, hn, hb, hg, ht⟩
 · exact .inr ⟨g, n, cur, e, Nat.le_refl _, hb, hg, ht⟩
theorem CutO.lo (h : CutO E size base W v n cs) (k : Nat) (hk : v.ownBlock = some k) : base ≤ k ∧ k < W.heap.size ∧ ∃ cur, W.heap[k]? = some (.cells cur E (0, 0)) := by
 rcases h.form with ⟨e, h0⟩ | ⟨g, c, cur, e, hc, hb, hg, _⟩
 · subst e; simp [Value.ownBlock] at hk
 · subst e
   obtain rfl : g = k := by simpa [Value.ownBlock] using hk
   exact ⟨hb, (Array.getElem?_eq_some_iff.1 hg).1, cur, hg⟩
theorem CutO.cell {g m c : Nat} (h : CutO E size base W (.slice (some ⟨g, 0, none⟩) m c) n cs) (j : Nat) (hj : j < n * size) : W.cell? ⟨g, j, none⟩ = cs[j]? ∧ W.frozen? ⟨g, j, none⟩ = false := by
 rcases h.form with ⟨e, h0⟩ | ⟨g', c', cur, e, hc, hb, hg, ht⟩
 · cases e
 · injection e with e1 e2 e3
   injection e1 with e1
   injection e1 with e1
   subst e1
   refine ⟨?_, by simp [World.frozen?, hg]⟩
   rw [cell_of_row W g j cur E (0, 0) hg, ← ht, List.getElem?_take, if_pos hj]
   simp
theorem CutO.same (h : CutO E size base W v n cs) (hm : ∀ k, v.ownBlock = some k → W'.heap[k]? = W.heap[k]?) : CutO E size base W' v n cs := by
 rcases h with ⟨hl, ⟨e, h0⟩ | ⟨g', cap, cur, e, hb, hg, hn, hc, hs, ht⟩⟩ | ⟨hl, g', cur, e, hb, hg, hn, ht⟩
 · exact .inl ⟨hl, .inl ⟨e, h0⟩⟩
 · exact .inl ⟨hl, .inr ⟨g', cap, cur, e, hb, (hm g' (by rw [e]; rfl)).trans hg, hn, hc, hs, ht⟩⟩
 · exact .inr ⟨hl, g', cur, e, hb, (hm g' (by rw [e]; rfl)).trans hg, hn, ht⟩
theorem CutO.below (h : CutO E size base W v n cs) (hb : Below W.heap.size W W') : CutO E size base W' v n cs := h.same fun k hk => hb.block k (h.lo k hk).2.1
theorem CutO.alloc (h : CutO E size base W v n cs) (o : Obj) : CutO E size base (W.alloc o) v n cs := h.below ((Below.refl _ W).alloc (Nat.le_refl _) o)
end
end Go.Proofs.YtaeaookonhaliaaDoor.CO
/- opform.Faults: walked. -/
namespace Go.Proofs.YtaeaookonhaliaaDoor.R6
open Go.RowKit Go.Shelf YtaeaookonhaliaaDoorW.PrintWords YtaeaookonhaliaaDoorW.PrintLast YtaeaookonhaliaaDoorW.PrintMore
open B H F CO
attribute [local go_sem] Oper.semAt_some

def prC (L : List (Int × Int)) : List Value := L.flatMap fun p => [.int .i64 p.1, .int .i64 p.2]
structure FM (w : World) (cs : Array Value) (L : List (Int × Int)) (v : Value) (W : World) : Prop where
 low : Below w.heap.size w W
 gb : W.heap[w.heap.size]? = some (.cells cs 29 (0, 0))
 lb : W.heap[w.heap.size + 1]? = some (.cells #[v] 36 (0, 0))
 row : W.ownsRow w.heap.size 43 2 v L.length (prC L)
section
variable {w W W' : World} {cs : Array Value} {L : List (Int × Int)} {v : Value}
theorem FM.sz (h : FM w cs L v W) : w.heap.size + 2 ≤ W.heap.size := by
 have h2 := (Array.getElem?_eq_some_iff.1 h.lb).1
 omega
theorem FM.cells {v0 v1 v2 v3 : Value} (h : FM w #[v0, v1, v2, v3] L v W) : W.cell? ⟨w.heap.size, 0, none⟩ = some v0 ∧ W.cell? ⟨w.heap.size, 1, none⟩ = some v1 ∧ W.cell? ⟨w.heap.size, 2, none⟩ = some v2 ∧ W.cell? ⟨w.heap.size, 3, none⟩ = some v3 ∧ W.cell? ⟨w.heap.size + 1, 0, none⟩ = some v ∧ W.frozen? ⟨w.heap.size + 1, 0, none⟩ = false :=
 ⟨by rw [Lib.cell_of_heap h.gb]; rfl, by rw [Lib.cell_of_heap h.gb]; rfl, by rw [Lib.cell_of_heap h.gb]; rfl, by rw [Lib.cell_of_heap h.gb]; rfl, by rw [Lib.cell_of_heap h.lb]; rfl, frozen0 h.lb⟩
end
section
variable {w W W' : World} {cs : Array Value} {L : List (Int × Int)} {v vs : Value} {ib k bs B : Nat} {Ds : List Nat}
end
end Go.Proofs.YtaeaookonhaliaaDoor.R6
/- kit.Ints, kit.Strings: are two the same? (taken from GramSm and GramKi, for seats without rules' ties) -/
namespace Go.Proofs.YtaeaookonhaliaaDoor.B
open Go.RowKit YtaeaookonhaliaaDoorW.PrintWords YtaeaookonhaliaaDoorW.PrintLast YtaeaookonhaliaaDoorW.PrintMore

theorem wrap_succ (i : Nat) (h : i < 9223372036854775807) : wrap64 ((i : Int) + 1) = ((i + 1 : Nat) : Int) := by unfold wrap64; omega
theorem rd_nat (l : List Int) (i : Nat) (h : i < l.length) : rd l (i : Int) = l[i] := by simp [rd, List.getD_eq_getElem?_getD, List.getElem?_eq_getElem h]
theorem KInts_l (l0 l1 : List Int) (hl : l0.length = l1.length) (hm : l0.length ≤ 9223372036854775807) : ∀ (d i k : Nat), l0.length - i = d → i ≤ l0.length → d < k → dovetailkit_Ints.l0 k l0 l1 (i : Int) = some (decide (l0.drop i = l1.drop i)) := by
 intro d
 induction d with
 | zero =>
  intro i k hi hle hk
  obtain ⟨k, rfl⟩ : ∃ j, k = j + 1 := ⟨k - 1, by omega⟩
  have : i = l0.length := by omega
  subst this
  rw [dovetailkit_Ints.l0, if_neg (by omega), List.drop_length, hl, List.drop_length]
  simp
 | succ d ih =>
  intro i k hi hle hk
  obtain ⟨k, rfl⟩ : ∃ j, k = j + 1 := ⟨k - 1, by omega⟩
  have hlt : i < l0.length := by omega
  have hlt1 : i < l1.length := by omega
  rw [dovetailkit_Ints.l0, if_pos (by omega), if_pos (by omega), if_pos (by omega), List.drop_eq_getElem_cons hlt, List.drop_eq_getElem_cons hlt1, rd_nat l0 i hlt, rd_nat l1 i hlt1]
  by_cases he : l0[i] = l1[i]
  · rw [if_pos he, wrap_succ i (by omega), ih (i + 1) k (by omega) (by omega) (by omega)]
    rw [he]; congr 1; rw [decide_eq_decide]; simp only [List.cons.injEq, true_and]
  · rw [if_neg he]; congr 1; symm; rw [decide_eq_false_iff_not]; intro h; exact he (List.cons.inj h).1
theorem KInts_f (l0 l1 : List Int) (k : Nat) (hm : l0.length ≤ 9223372036854775807) (hk : l0.length < k) : dovetailkit_Ints.f k l0 l1 = some (decide (l0 = l1)) := by
 unfold dovetailkit_Ints.f
 by_cases h : l0.length = l1.length
 · rw [if_pos (by omega)]
   have := KInts_l l0 l1 h hm l0.length 0 k (by omega) (by omega) hk
   simpa using this
 · rw [if_neg (by omega)]
   have : l0 ≠ l1 := fun e => h (by rw [e])
   simp [this]
end Go.Proofs.YtaeaookonhaliaaDoor.B
/- What Lent and Kept stand on, in this seat. -/

/- kit.Lent..: lists in memory of their own, a mark behind each. -/
namespace Go.Proofs.YtaeaookonhaliaaDoor.B
open Go.RowKit YtaeaookonhaliaaDoorW.PrintWords YtaeaookonhaliaaDoorW.PrintLast YtaeaookonhaliaaDoorW.PrintMore

def kmx : Kd (List Int × Bool) where
 sz := 1
 E := [3]
 K := fun w x cs => ∃ A c, cs = [.slice A x.1.length c] ∧ match x.2 with
  | true => x.1.length + 1 ≤ c ∧ Kd.C (Kd.int .i64) w A (x.1.length + 1) (x.1 ++ [-7171])
  | false => x.1.length ≤ c ∧ Kd.C (Kd.int .i64) w A x.1.length x.1
 M := fun w base ok x cs => ∃ A c, cs = [.slice A x.1.length c] ∧ match x.2 with
  | true => Kd.R (Kd.int .i64) 3 w base ok (.slice A (x.1.length + 1) c) (x.1 ++ [-7171])
  | false => Kd.R (Kd.int .i64) 3 w base ok (.slice A x.1.length c) x.1
 K_len := by
  rintro w x cs ⟨A, c, rfl, _⟩
  rfl
 K_one := by
  rintro w x cs ⟨A, c, rfl, _⟩ u hu
  rw [List.mem_singleton.1 hu]
  rfl
 K_below := by
  rintro w w1 ⟨xs, b⟩ cs hb ⟨A, c, rfl, h⟩
  cases b
  · exact ⟨A, c, rfl, h.1, Kd.C_below h.2 hb⟩
  · exact ⟨A, c, rfl, h.1, Kd.C_below h.2 hb⟩
 K_of_M := by
  rintro w base ok ⟨xs, b⟩ cs ⟨A, c, rfl, h⟩
  cases b
  · exact ⟨A, c, rfl, (Kd.R_reads' h).2⟩
  · have := Kd.R_reads' h
    rw [List.length_append, List.length_singleton] at this
    exact ⟨A, c, rfl, this.2⟩
 M_mono := by
  rintro w base ok ok' ⟨xs, b⟩ cs hok ⟨A, c, rfl, h⟩
  cases b
  · exact ⟨A, c, rfl, Kd.R_mono h hok⟩
  · exact ⟨A, c, rfl, Kd.R_mono h hok⟩
 M_bound := by
  rintro w base ok ⟨xs, b⟩ cs ⟨A, c, rfl, h⟩
  cases b
  · exact ⟨A, c, rfl, Kd.R_bound h⟩
  · exact ⟨A, c, rfl, Kd.R_bound h⟩
 M_move := by
  rintro w w1 base ok ⟨xs, b⟩ cs hm ⟨A, c, rfl, h⟩
  cases b
  · exact ⟨A, c, rfl, Kd.R_move h hm⟩
  · exact ⟨A, c, rfl, Kd.R_move h hm⟩
 M_lower := by
  rintro w base base' ok ⟨xs, b⟩ cs hb ⟨A, c, rfl, h⟩
  cases b
  · exact ⟨A, c, rfl, Kd.R_lower h hb⟩
  · exact ⟨A, c, rfl, Kd.R_lower h hb⟩
def kRx : Kd (S55 × Bool) := Kd.iso (Kd.pair (Kd.int .i64) kmx) (fun x => (x.1.f0, (x.1.f1, x.2)))
theorem C_pre {α : Type} {d : Kd α} {w : World} {A : Option Addr} {xs ys : List α} {n : Nat} (h : d.C w A n (xs ++ ys)) : d.C w A xs.length xs := by
 refine ⟨rfl, by have := h.1; have := h.2.1; rw [List.length_append] at *; omega, fun hp => ?_⟩
 obtain ⟨ad, e, hc⟩ := h.2.2 (by have := h.1; rw [List.length_append] at this; omega)
 refine ⟨ad, e, fun j p hj => hc j p ?_⟩
 have hlt := (List.getElem?_eq_some_iff.1 hj).1
 rw [List.getElem?_append_left hlt]; exact hj
def mk1 (l : List S55) : List (S55 × Bool) := l.map fun x => (x, true)
theorem mk1_length (l : List S55) : (mk1 l).length = l.length := by simp [mk1]
def MR (w : World) (A : Option Addr) (c : Nat) (l : List S55) : Prop := l.length + 1 ≤ c ∧ Kd.C kRx w A (l.length + 1) (mk1 l ++ [(⟨-7171, []⟩, false)])
theorem MR.below {w w' : World} {A : Option Addr} {c : Nat} {l : List S55} (h : MR w A c l) (hb : Below w.heap.size w w') : MR w' A c l := ⟨h.1, Kd.C_below h.2 hb⟩
set_option maxHeartbeats 4000000 in
set_option maxRecDepth 100000 in
theorem LentInts_m (A0 : Option Addr) (c0 : Nat) (l : List Int) (w : World) (hr : Kd.C (Kd.int .i64) w A0 l.length l) (hl : l.length < 17592186044415) :
 Calls Tryd.prog 19 #[.slice A0 l.length c0] w fun e w' => ∃ A c, e = .returned (.slice A l.length c) ∧ Aside0 (Kd.R (Kd.int .i64) 3 w' w.heap.size (fun _ => True) (.slice A (l.length + 1) c) (l ++ [(-7171)]) ∧ Below w.heap.size w w') := by
 obtain ⟨y1, hy1⟩ : ∃ y_ : List Int, y_ = ([] : List Int) ++ l := ⟨_, rfl⟩
 obtain ⟨y2, hy2⟩ : ∃ y_ : List Int, y_ = y1 ++ [(-7171)] := ⟨_, rfl⟩
 have q8 : y1.length < 17592186044415 := by rw [hy1]; simpa using hl
 have q9 : ((l.length : Int)) ≤ ((y2.length : Int)) := by rw [hy2, hy1]; simp; omega
 have q7 : ([] : List Int).length + l.length < 17592186044415 := by simpa using hl
 have hy3 : y2.length = l.length + 1 := by rw [hy2, hy1]; simp
 have hy4 : y2 = l ++ [(-7171)] := by rw [hy2, hy1]; simp
 have HR0 := Aside0.mk hr
 have HB := Aside0.mk (Below.refl w.heap.size w)
 have N1 := Aside0.mk hy1
 have N2 := Aside0.mk hy2
 have N3 := Aside0.mk hy3
 have N4 := Aside0.mk hy4
 have Q7 := Aside0.mk q7
 have Q8 := Aside0.mk q8
 have Q9 := Aside0.mk q9
 clear hr hy1 hy2 hy3 hy4 q7 q8 q9 hl
 go_enter Tryd.func19, Tryd.ntmps19
 go_wp2_with (first
  | ((with_reducible refine gate_builtin (b := .append) (xs := #[.tmp 4, .tmp 5]) rfl ?_); at_builtin; refine Kd.R_append_rows (Kd.int .i64) (w0 := w) w.heap.size rfl (.tmp 4) (.tmp 5) 22 3 (.int .i64 0) 8 rfl Tryd.underlying22 info3 rfl (by decide) (by omega) (.slice none 0 0) ([] : List Int) l _ _ _ (fun _ => True) (fun _ => False) rfl rfl ?aO ?aR (fun _ _ h => h) (fun _ h => h.elim) ?aF ?aB ?aS ?aL ?_; (case aR => exact HR0.out); (case aB => exact HB.out); (case aF => exact (fun _ _ => trivial)); (case aO => exact ((Kd.R_nil _ _ _ _ (fun _ => True)))); (case aS => exact Nat.le_refl _); (case aL => have := Q7.out; omega); intro v1 w1 ho hb hg hat; rw [← N1.out] at ho; have n0_ := Aside0.mk hb; have n1_ := Aside0.mk ho; clear HB; have HB := n0_; have HO1 := n1_; clear n0_ n1_ ho hb hg hat)
  | ((with_reducible refine gate_builtin (b := .append) (xs := #[.tmp 7, .tmp 8]) rfl ?_); at_builtin; refine Kd.R_append (Kd.int .i64) (w0 := w) w.heap.size rfl (.tmp 7) (.tmp 8) 22 3 (.int .i64 0) 8 rfl Tryd.underlying22 info3 rfl (by decide) (by omega) v1 y1 (-7171) [.int .i64 (-7171)] (fun _ => True) (fun _ => False) rfl rfl ?aP (fun _ hk => hk.elim) ?aF ?aO ?aB ?aS ?aL ?_; (case aP => exact rfl); (case aB => exact HB.out); (case aF => exact (fun _ _ => trivial)); (case aO => exact HO1.out); (case aS => exact (below_size HB.out)); (case aL => have := Q8.out; omega); intro v2 w2 ho hb hg hat; rw [← N2.out] at ho; have n0_ := Aside0.mk hb; have n1_ := Aside0.mk ho; clear HB HO1; have HB := n0_; have HO2 := n1_; clear n0_ n1_ ho hb hg hat; obtain ⟨Ao, co, eo⟩ := Kd.R_slice HO2.out; subst eo; obtain ⟨i0, hi0, _, hsz0, _⟩ := info_parts info3; have hcut := cut_to (P := Tryd.prog) 22 3 .i64 Tryd.underlying22 hi0 Ao y2.length co (l.length : Int) (by omega) Q9.out (Kd.R_reads' HO2.out).2.1; clear hi0 hsz0))
 go_ret
 refine ⟨Ao, co, rfl, ⟨?_, HB.out⟩⟩
 have h := HO2.out
 rw [N3.out] at h
 rw [← N4.out]
 exact h

end Go.Proofs.YtaeaookonhaliaaDoor.B
/- kit.Kept..: what was lent is as it was. -/
namespace Go.Proofs.YtaeaookonhaliaaDoor.B
open Go.RowKit YtaeaookonhaliaaDoorW.PrintWords YtaeaookonhaliaaDoorW.PrintLast YtaeaookonhaliaaDoorW.PrintMore

theorem cut_cap {P : Program} (t e : TypeId) (kh : IntKind) {i : TypeInfo} (ht : P.underlying t = some (.slice e)) (hi : P.info? e = some i) (A : Option Addr) (n c : Nat) (j : Int) (h0 : 0 ≤ j) (hm : j ≤ c) :
 ∀ W : World, (Instr.slice t (.slice A n c) none (some (.int kh j)) none).run P W = .ok (.slice A j.toNat c) W := by
 intro W
 have hel : P.elem t = e := by simp [Program.elem, ht]
 have hu : P.underlying t = some (.slice (P.elem t)) := by rw [hel]; exact ht
 have ha : (A.map fun x => x.add 0) = A := by cases A <;> simp [Addr.add]
 rw [run_slice_h W t A n c hu kh j h0 hm, hel]
 simp [sizeOf, typeInfo, hi, sliced, Result.andThen, ha]

set_option maxHeartbeats 2000000 in
set_option maxRecDepth 100000 in
theorem KeptInts_yes (A : Option Addr) (c : Nat) (A' : Option Addr) (c' : Nat) (l : List Int) (w : World) (hc : l.length + 1 ≤ c) (hr : Kd.C (Kd.int .i64) w A (l.length + 1) (l ++ [-7171])) (hc' : l.length ≤ c') (hr' : Kd.C (Kd.int .i64) w A' l.length l) :
 Calls Tryd.prog 22 #[.slice A l.length c, .slice A' l.length c'] w fun e w' => e = .returned (.bool true) ∧ Below w.heap.size w w' := by
 have hm := C_max hr'
 have hm1 := C_max hr
 have hm2 : l.length + 1 ≤ 9223372036854775807 := hm1
 have hf := KInts_f l l (l.length + 1) hm (by omega)
 rw [decide_eq_true (rfl : l = l)] at hf
 obtain ⟨ad, rfl, hx⟩ := Kd.at_int hr ((l.length : Nat) : Int) (by omega) (by omega)
 have hmk : w.cell? (ad.add l.length) = some (.int .i64 (-7171)) := by
  rw [Int.toNat_natCast] at hx
  rw [hx]
  simp [rd, List.getD_eq_getElem?_getD]
 have hcall : Calls Tryd.prog 9 #[.slice (some ad) l.length c, .slice A' l.length c'] w fun e w' => e = .returned (.bool true) ∧ Aside0 (Below w.heap.size w w') ∧ w'.cell? (ad.add l.length) = some (.int .i64 (-7171)) := by
  refine (dovetailkit_Ints.calls (l.length + 1) (some ad) c l A' c' l true w (C_pre hr) (by omega) hr' hc' hf).mono ?_
  rintro e w' ⟨he, hb⟩
  have hb' : Below w.heap.size w w' := by first | exact hb | exact hb.below
  exact ⟨he, ⟨hb'⟩, (hb'.cell (World.block_lt_of_cell? w _ hmk)).trans hmk⟩
 obtain ⟨i0, hi0, _, _, _⟩ := info_parts info3
 have hcut : ∀ W : World, (Instr.slice 22 (.slice (some ad) l.length c) none (some (.int .i64 ((l.length : Int) + 1))) none).run Tryd.prog W = .ok (.slice (some ad) (l.length + 1) c) W := fun W => by
  have := cut_cap (P := Tryd.prog) 22 3 .i64 Tryd.underlying22 hi0 (some ad) l.length c ((l.length : Int) + 1) (by omega) (by omega) W
  rwa [show ((l.length : Int) + 1).toNat = l.length + 1 from by omega] at this
 have HC := Aside0.mk hcall
 clear hcall hr hr' hx hf hmk hi0 hm1
 go_enter Tryd.func22, Tryd.ntmps22
 go_wp2_with (go_at_call 9; (with_reducible refine HC.out.mono ?_); rintro e w1 ⟨rfl, hb, f0⟩)
 go_ret
 exact ⟨rfl, hb.out⟩

theorem MR.cells {w : World} {ad : Addr} {c : Nat} {l : List S55} (h : MR w (some ad) c l) (i : Nat) (hi : i < l.length) : ∃ A1 c1, w.cell? (ad.add (i * 2)) = some (.int .i64 l[i].f0) ∧ w.cell? ⟨(ad.add (i * 2)).block, (ad.add (i * 2)).off + 1, none⟩ = some (.slice A1 l[i].f1.length c1) ∧ l[i].f1.length + 1 ≤ c1 ∧ Kd.C (Kd.int .i64) w A1 (l[i].f1.length + 1) (l[i].f1 ++ [-7171]) := by
 obtain ⟨ad', e, hc⟩ := h.2.2.2 (by omega)
 obtain rfl := Option.some.inj e
 obtain ⟨cs, h1, h2, h3⟩ := hc i (l[i], true) (by rw [List.getElem?_append_left (by rw [mk1_length]; exact hi)]; simp [mk1, List.getElem?_eq_getElem hi])
 obtain ⟨a, b, rfl, q1, A1, c1, rfl, q2⟩ := h2
 have q1' : a = [.int .i64 l[i].f0] := q1
 subst q1'
 refine ⟨A1, c1, h3 0 _ rfl, ?_, q2.1, q2.2⟩
 rw [← add_field _ _ 1 (by omega)]
 exact h3 1 _ rfl
end Go.Proofs.YtaeaookonhaliaaDoor.B
/- Lists that own their memory, none sharing with another: what is told of them while they are written and gone on with. -/
namespace Go.Proofs.YtaeaookonhaliaaDoor.AP
open Go.RowKit YtaeaookonhaliaaDoorW.PrintWords YtaeaookonhaliaaDoorW.PrintLast YtaeaookonhaliaaDoorW.PrintMore
open B (getD_lt getD_set C_pre)

abbrev OneV : Type := {v : Value // v.oneCell' = true}
def kV : Kd OneV := Kd.scalar (fun x : OneV => x.1) (fun x => x.2)
def zV : OneV := ⟨.slice none 0 0, rfl⟩
def vd (vs : List OneV) (i : Nat) : Value := (vs.getD i zV).1
def okO (vs : List OneV) (i : Nat) (k : Nat) : Prop := ∀ j, j < vs.length → j ≠ i → some k ≠ (vd vs j).ownBlock

section
variable {IK : IntKind} {E base : Nat} {ok ok' : Nat → Prop} {W W' : World} {v : Value} {X : List Int}
def RC (IK : IntKind) (E : Nat) (W : World) (base : Nat) (ok : Nat → Prop) (v : Value) (X : List Int) : Prop :=
 Kd.R (Kd.int IK) E W base ok v X ∨ ∃ (g : Nat) (cur : Array Value), v = .slice (some ⟨g, 0, none⟩) X.length X.length ∧ ok g ∧ base ≤ g ∧ W.heap[g]? = some (.cells cur E (0, 0)) ∧ X.length ≤ 9223372036854775807 ∧ cur.toList.take X.length = nums IK X
theorem RC.cut_C {g : Nat} {cur : Array Value} (hg : W.heap[g]? = some (.cells cur E (0, 0))) (hm : X.length ≤ 9223372036854775807) (ht : cur.toList.take X.length = nums IK X) : Kd.C (Kd.int IK) W (some ⟨g, 0, none⟩) X.length X := by
 refine ⟨rfl, hm, fun hp => ⟨_, rfl, fun j p hj => ⟨[.int IK p], rfl, rfl, fun i u hu => ?_⟩⟩⟩
 obtain rfl : i = 0 := by
  rcases i with _ | i
  · rfl
  · simp at hu
 have hu' : u = .int IK p := by simpa using hu.symm
 subst hu'
 have hjl := (List.getElem?_eq_some_iff.1 hj).1
 have h1 : (cur.toList.take X.length)[j]? = some (.int IK p) := by rw [ht]; simp [nums, hj]
 rw [List.getElem?_take_of_lt hjl] at h1
 show W.cell? ((⟨g, 0, none⟩ : Addr).add (j * 1 + 0)) = _
 rw [add_plain]
 have h2 : cur[j]? = some (.int IK p) := by rw [← h1]; simp
 simp [World.cell?, hg, h2]
theorem RC.lo (h : RC IK E W base ok v X) (k : Nat) (hk : v.ownBlock = some k) : ok k ∧ base ≤ k ∧ k < W.heap.size := by
 rcases h with h | ⟨g, cur, rfl, h1, h2, h3, h4, h5⟩
 · obtain ⟨inner, ho⟩ := Kd.R_own h
   exact ⟨h.1 k hk, own_base ho k hk, own_lt ho k hk⟩
 · have : g = k := by simpa [Value.ownBlock] using hk
   subst this
   exact ⟨h1, h2, (Array.getElem?_eq_some_iff.1 h3).1⟩
theorem RC.reads (h : RC IK E W base ok v X) : ∃ A c, v = .slice A X.length c ∧ X.length ≤ c ∧ Kd.C (Kd.int IK) W A X.length X := by
 rcases h with h | ⟨g, cur, rfl, h1, h2, h3, h4, h5⟩
 · exact Kd.R_reads h
 · exact ⟨_, _, rfl, Nat.le_refl _, RC.cut_C h3 h4 h5⟩
theorem RC.form (h : RC IK E W base ok v X) (hp : 0 < X.length) : ∃ g c, v = .slice (some ⟨g, 0, none⟩) X.length c ∧ base ≤ g := by
 rcases h with h | ⟨g, cur, rfl, h1, h2, h3, h4, h5⟩
 · obtain ⟨g, c, e, hb, _⟩ := Kd.R_form h hp
   exact ⟨g, c, e, hb⟩
 · exact ⟨g, _, rfl, h2⟩
theorem RC.cell {g n c : Nat} (h : RC IK E W base ok (.slice (some ⟨g, 0, none⟩) n c) X) (k : Nat) (hk : k < n) : W.cell? ⟨g, k, none⟩ = some (.int IK (X.getD k 0)) ∧ W.frozen? ⟨g, k, none⟩ = false := by
 rcases h with h | ⟨g', cur, e, h1, h2, h3, h4, h5⟩
 · have := Kd.R_celln 0 h (k : Int) (by omega) (by omega)
   rw [Int.toNat_natCast] at this
   exact this
 · injection e with e1 e2 e3
   injection e1 with e1
   injection e1 with e1
   subst e1 e2
   have h6 : (cur.toList.take X.length)[k]? = some (.int IK (X.getD k 0)) := by
    rw [h5]
    simp only [nums, List.getElem?_map, List.getElem?_eq_getElem hk, Option.map_some]
    rw [List.getD_eq_getElem?_getD, List.getElem?_eq_getElem hk]; rfl
   rw [List.getElem?_take_of_lt hk] at h6
   have h7 : cur[k]? = some (.int IK (X.getD k 0)) := by rw [← h6]; simp
   exact ⟨by simp [World.cell?, h3, h7], by simp [World.frozen?, h3]⟩
theorem RC.putn {g n c : Nat} (h : RC IK E W base ok (.slice (some ⟨g, 0, none⟩) n c) X) (k : Nat) (x : Int) : RC IK E (W.setCell ⟨g, k, none⟩ (.int IK x)) base ok (.slice (some ⟨g, 0, none⟩) n c) (X.set k x) := by
 rcases h with h | ⟨g', cur, e, h1, h2, h3, h4, h5⟩
 · have := Kd.R_putn h (k : Int) x
   rw [Int.toNat_natCast] at this
   exact .inl this
 · injection e with e1 e2 e3
   injection e1 with e1
   injection e1 with e1
   subst e1 e2 e3
   refine .inr ⟨g, cur.setIfInBounds k (.int IK x), by rw [List.length_set], h1, h2, blk_put h3 k _ rfl, by rw [List.length_set]; exact h4, ?_⟩
   rw [List.length_set, Array.toList_setIfInBounds, List.take_set, h5]
   simp [nums, List.map_set]
theorem RC.step (h : RC IK E W base ok v X) (hm : ∀ k, ok k → k < W.heap.size → W'.heap[k]? = W.heap[k]?) : RC IK E W' base ok v X := by
 rcases h with h | ⟨g, cur, rfl, h1, h2, h3, h4, h5⟩
 · exact .inl (Kd.R_step h hm)
 · exact .inr ⟨g, cur, rfl, h1, h2, (hm g h1 (Array.getElem?_eq_some_iff.1 h3).1).trans h3, h4, h5⟩
theorem RC.weak (h : RC IK E W base ok v X) (hk : ∀ k, v.ownBlock = some k → ok' k) : RC IK E W base ok' v X := by
 rcases h with h | ⟨g, cur, rfl, h1, h2, h3, h4, h5⟩
 · exact .inl (Kd.R_of_own (enc := Value.int IK) (h1 := fun _ => rfl) (Kd.own_of_R h) hk)
 · exact .inr ⟨g, cur, rfl, hk g rfl, h2, h3, h4, h5⟩
theorem RC.below (h : RC IK E W base ok v X) (hb : Below W.heap.size W W') : RC IK E W' base ok v X := h.step (fun k _ hk => hb.block k hk)
theorem RC.lower {base' : Nat} (h : RC IK E W base ok v X) (hb : base' ≤ base) : RC IK E W base' ok v X := by
 rcases h with h | ⟨g, cur, rfl, h1, h2, h3, h4, h5⟩
 · exact .inl (Kd.R_lower h hb)
 · exact .inr ⟨g, cur, rfl, h1, Nat.le_trans hb h2, h3, h4, h5⟩
end

section
variable {IK : IntKind} {E base : Nat} {vs : List OneV} {Xs : List (List Int)} {W W' w : World} {A : Option Addr}

def Own (IK : IntKind) (E base : Nat) (vs : List OneV) (Xs : List (List Int)) (W : World) : Prop := ∀ i, i < vs.length → RC IK E W base (okO vs i) (vd vs i) (Xs.getD i [])
theorem Own.store (h : Own IK E base vs Xs W) (hl : Xs.length = vs.length) (i : Nat) (hi : i < vs.length) (g n c : Nat) (hv : vd vs i = .slice (some ⟨g, 0, none⟩) n c) (k : Nat) (x : Int) : Own IK E base vs (Xs.set i ((Xs.getD i []).set k x)) (W.setCell ⟨g, k, none⟩ (.int IK x)) := by
 intro j hj
 rw [getD_set]
 by_cases hij : i = j
 · subst hij
   rw [if_pos ⟨rfl, by omega⟩]
   have := h i hi
   rw [hv] at this ⊢
   exact this.putn k x
 · rw [if_neg (fun hh => hij hh.1)]
   refine RC.step (h j hj) (fun k' hk' _ => Below.heap_setCell _ _ _ _ (fun e => ?_))
   have := hk' i hi hij
   rw [hv] at this
   exact this (by simp [Value.ownBlock]; exact e)
theorem Own.lo (h : Own IK E base vs Xs W) (i : Nat) (hi : i < vs.length) (k : Nat) (hk : (vd vs i).ownBlock = some k) : base ≤ k ∧ k < W.heap.size := by
 exact (RC.lo (h i hi) k hk).2
def All (A : Option Addr) (vs : List OneV) (W : World) : Prop := Kd.C kV W A vs.length vs
theorem All.cell (h : All A vs W) (ad : Addr) (hA : A = some ad) (i : Nat) (hi : i < vs.length) : W.cell? (ad.add i) = some (vd vs i) := by
 obtain ⟨ad', c, ha, hc, hk, hx⟩ := Kd.C_get h zV (i : Int) (by omega) (by omega)
 obtain rfl := Option.some.inj (ha.symm.trans hA)
 have hk' : c = [(vs.getD ((i : Int)).toNat zV).1] := hk
 have := hx 0 _ (by rw [hk']; rfl)
 rw [Int.toNat_natCast] at this
 have e : i * kV.sz + 0 = i := by show i * 1 + 0 = i; omega
 rw [e] at this
 exact this
theorem All.addr (h : All A vs W) (hp : 0 < vs.length) : ∃ ad, A = some ad := by
 obtain ⟨ad, e, _⟩ := h.2.2 hp
 exact ⟨ad, e⟩
theorem All.lt (h : All A vs W) (ad : Addr) (hA : A = some ad) (hp : 0 < vs.length) : ad.block < W.heap.size := by
 have := World.block_lt_of_cell? W _ (h.cell ad hA 0 hp)
 rwa [add_block] at this
theorem All.move (h : All A vs W) (hm : ∀ ad, A = some ad → 0 < vs.length → W'.heap[ad.block]? = W.heap[ad.block]?) : All A vs W' := by
 refine ⟨h.1, h.2.1, fun hp => ?_⟩
 obtain ⟨ad, e, hc⟩ := h.2.2 hp
 refine ⟨ad, e, fun j p hj => ?_⟩
 obtain ⟨c, h1, h2, h3⟩ := hc j p hj
 refine ⟨c, h1, h2, fun i u hu => ?_⟩
 rw [← h3 i u hu]
 exact World.cell?_of_block (by rw [add_block]; exact hm ad e hp)
def Rds (IK : IntKind) (W : World) (v : Value) (X : List Int) : Prop := ∃ A c, v = .slice A X.length c ∧ X.length ≤ c ∧ Kd.C (Kd.int IK) W A X.length X
theorem Rds.cell {v : Value} {X : List Int} (h : Rds IK W v X) (hp : 0 < X.length) : ∃ ad c, v = .slice (some ad) X.length c ∧ ∀ q, q < X.length → W.cell? (ad.add q) = some (.int IK (X.getD q 0)) := by
 obtain ⟨A, c, hv, hc, hr⟩ := h
 obtain ⟨ad, e, _⟩ := hr.2.2 hp
 subst e
 refine ⟨ad, c, hv, fun q hq => ?_⟩
 obtain ⟨ad', cs, ha, hcl, hk, hx⟩ := Kd.C_get hr 0 (q : Int) (by omega) (by omega)
 obtain rfl := Option.some.inj ha
 have hk' : cs = [.int IK (X.getD ((q : Int)).toNat 0)] := hk
 have := hx 0 _ (by rw [hk']; rfl)
 rw [Int.toNat_natCast] at this
 have e : q * (Kd.int IK).sz + 0 = q := by show q * 1 + 0 = q; omega
 rw [e] at this
 exact this
theorem Rds.cells {v : Value} {X : List Int} (h : Rds IK W v X) (hm : ∀ ad n c, v = .slice (some ad) n c → ∀ q, q < X.length → W'.cell? (ad.add q) = W.cell? (ad.add q)) : Rds IK W' v X := by
 obtain ⟨A, c, hv, hc, hr⟩ := h
 refine ⟨A, c, hv, hc, hr.1, hr.2.1, fun hp => ?_⟩
 obtain ⟨ad, e, hx⟩ := hr.2.2 hp
 refine ⟨ad, e, fun j p hj => ?_⟩
 obtain ⟨cs, h1, h2, h3⟩ := hx j p hj
 have hjl := (List.getElem?_eq_some_iff.1 hj).1
 refine ⟨cs, h1, h2, fun i u hu => ?_⟩
 have hi : i < 1 := by
  have := (List.getElem?_eq_some_iff.1 hu).1
  have h1' : cs.length = 1 := h1
  omega
 have hoff : j * (Kd.int IK).sz + i = j := by show j * 1 + i = j; omega
 have := h3 i u hu
 rw [hoff] at this ⊢
 rw [hm ad X.length c (by rw [hv, e]) j hjl]
 exact this
theorem Rds.block {v : Value} {X : List Int} (h : Rds IK W v X) (hm : ∀ k, v.ownBlock = some k → W'.heap[k]? = W.heap[k]?) : Rds IK W' v X :=
 h.cells (fun ad n c hv q _ => World.cell?_of_block (by rw [add_block]; exact hm ad.block (by rw [hv]; rfl)))
theorem Own.reads (h : Own IK E base vs Xs W) (i : Nat) (hi : i < vs.length) : Rds IK W (vd vs i) (Xs.getD i []) := by
 obtain ⟨A, c, hv, hc, hr⟩ := RC.reads (h i hi)
 exact ⟨A, c, hv, hc, hr⟩
end
end Go.Proofs.YtaeaookonhaliaaDoor.AP
/- Lists that own their memory, written full and gone on with: the states of both loops, one append. -/
namespace Go.Proofs.YtaeaookonhaliaaDoor.AP
open Go.RowKit YtaeaookonhaliaaDoorW.PrintWords YtaeaookonhaliaaDoorW.PrintLast YtaeaookonhaliaaDoorW.PrintMore
open B (getD_lt getD_set C_pre)

section
variable {IK : IntKind} {E base : Nat} {vs : List OneV} {W W' w wo wq : World} {A : Option Addr} {n : Nat → Nat}

def mark (p q : Nat) : Int := 1000 * (p : Int) + (q : Int)
def mark2 (p q : Nat) : Int := 500000 + 1000 * (p : Int) + (q : Int)
structure Old (base : Nat) (vs : List OneV) (w W : World) : Prop where
 low : Below base w W
 old : ∀ k, k < w.heap.size → (∀ j, j < vs.length → (vd vs j).ownBlock ≠ some k) → W.heap[k]? = w.heap[k]?
theorem Old.refl (base : Nat) (vs : List OneV) (w : World) : Old base vs w w := ⟨Below.refl _ _, fun _ _ _ => rfl⟩
def S1 (IK : IntKind) (E base : Nat) (w : World) (A : Option Addr) (vs : List OneV) (n : Nat → Nat) (i k : Nat) (W : World) : Prop :=
 (∃ Xs : List (List Int), Xs.length = vs.length ∧ (∀ p, p < vs.length → (Xs.getD p []).length = n p) ∧ (∀ p q, p < vs.length → q < n p → (p < i ∨ p = i ∧ q < k) → (Xs.getD p []).getD q 0 = mark p q) ∧ Own IK E base vs Xs W) ∧ All A vs W ∧ Old base vs w W
theorem S1.start {Xs : List (List Int)} (h : Own IK E base vs Xs w) (hl : Xs.length = vs.length) (hA : All A vs w) : S1 IK E base w A vs (fun p => (Xs.getD p []).length) 0 0 w :=
 ⟨⟨Xs, hl, fun _ _ => rfl, fun p q _ _ hh => by omega, h⟩, hA, Old.refl _ _ _⟩
theorem S1.next {i k : Nat} (h : S1 IK E base w A vs n i k W) (hk : n i ≤ k) : S1 IK E base w A vs n (i + 1) 0 W := by
 obtain ⟨⟨Xs, h1, h2, h3, h4⟩, h5, h6⟩ := h
 refine ⟨⟨Xs, h1, h2, fun p q hp hq hh => h3 p q hp hq ?_, h4⟩, h5, h6⟩
 rcases hh with hh | hh
 · by_cases e : p = i
   · subst e; exact .inr ⟨rfl, by omega⟩
   · exact .inl (by omega)
 · omega
theorem S1.sl {i k : Nat} (h : S1 IK E base w A vs n i k W) (hi : i < vs.length) : ∃ A' c, vd vs i = .slice A' (n i) c := by
 obtain ⟨⟨Xs, h1, h2, h3, h4⟩, h5, h6⟩ := h
 obtain ⟨A', c, e, _⟩ := RC.reads (h4 i hi)
 exact ⟨A', c, by rw [e, h2 i hi]⟩
theorem S1.step {i k : Nat} (h : S1 IK E base w A vs n i k W) (hi : i < vs.length) (hk : k < n i) (hb : ∀ ad, A = some ad → ∀ j, j < vs.length → (vd vs j).ownBlock ≠ some ad.block) :
 ∃ g c y, vd vs i = .slice (some ⟨g, 0, none⟩) (n i) c ∧ W.cell? ⟨g, k, none⟩ = some (.int IK y) ∧ W.frozen? ⟨g, k, none⟩ = false ∧ S1 IK E base w A vs n i (k + 1) (W.setCell ⟨g, k, none⟩ (.int IK (mark i k))) := by
 obtain ⟨⟨Xs, h1, h2, h3, h4⟩, h5, h6⟩ := h
 obtain ⟨g, c, e, hbg⟩ := RC.form (h4 i hi) (by rw [h2 i hi]; omega)
 rw [h2 i hi] at e
 have hR := h4 i hi
 rw [e] at hR
 obtain ⟨hc, hf⟩ := hR.cell k hk
 refine ⟨g, c, _, e, hc, hf, ⟨Xs.set i ((Xs.getD i []).set k (mark i k)), by rw [List.length_set]; exact h1, fun p hp => ?_, fun p q hp hq hh => ?_, h4.store h1 i hi g (n i) c e k _⟩, ?_, ⟨h6.low.setCell hbg _, fun k' hk' hne => (Below.heap_setCell _ _ _ _ (fun e2 => hne i hi (by rw [e]; exact congrArg some e2.symm))).trans (h6.old k' hk' hne)⟩⟩
 · rw [getD_set]
   by_cases hpi : i = p
   · subst hpi; rw [if_pos ⟨rfl, by omega⟩, List.length_set]; exact h2 i hi
   · rw [if_neg (fun hh => hpi hh.1)]; exact h2 p hp
 · rw [getD_set]
   by_cases hpi : i = p
   · subst hpi
     rw [if_pos ⟨rfl, by omega⟩, getD_set]
     by_cases hkq : k = q
     · subst hkq; rw [if_pos ⟨rfl, by rw [h2 i hi]; omega⟩]
     · rw [if_neg (fun hh => hkq hh.1)]
       exact h3 i q hi hq (by omega)
   · rw [if_neg (fun hh => hpi hh.1)]
     exact h3 p q hp hq (by omega)
 · refine h5.move fun ad ha _ => Below.heap_setCell _ _ _ _ ?_
   intro e2
   have := hb ad ha i hi
   rw [e] at this
   exact this (by simp [Value.ownBlock]; exact e2.symm)

theorem Rds.blk {v : Value} {X : List Int} (h : Rds IK W v X) (hm : ∀ k, k < W.heap.size → v.ownBlock = some k → W'.heap[k]? = W.heap[k]?) : Rds IK W' v X := by
 refine h.cells (fun ad n c hv q hq => ?_)
 obtain ⟨ad', c', hv', hcl⟩ := h.cell (by omega)
 have : some ad = some ad' := by rw [hv] at hv'; injection hv'
 obtain rfl := Option.some.inj this
 have hlt := World.block_lt_of_cell? W _ (hcl q hq)
 rw [add_block] at hlt
 exact World.cell?_of_block (by rw [add_block]; exact hm ad.block hlt (by rw [hv]; rfl))
structure J (IK : IntKind) (E base : Nat) (wo : World) (v : Value) (X : List Int) (T : Nat → Int) (q : Nat) (l : Value) (wq : World) : Prop where
 own : wq.ownsRow base E 1 l (X.length + q) ((X ++ (List.range q).map T).map (Value.int IK)) ∨ (q = 0 ∧ l = v ∧ (∃ g, l = .slice (some ⟨g, 0, none⟩) X.length X.length ∧ base ≤ g))
 rds : Rds IK wq v X
 form : X = [] ∨ ∃ g c, v = .slice (some ⟨g, 0, none⟩) X.length c
 blk : ∀ k, l.ownBlock = some k → some k = v.ownBlock ∨ wo.heap.size ≤ k
 old : ∀ k, k < wo.heap.size → some k ≠ v.ownBlock → wq.heap[k]? = wo.heap[k]?
 low : Below base wo wq
theorem J.start {ok : Nat → Prop} {v : Value} {X : List Int} {T : Nat → Int} (h : RC IK E wo base ok v X) : J IK E base wo v X T 0 v wo := by
 obtain ⟨A', c, hv, hc, hr⟩ := h.reads
 refine ⟨?_, ⟨A', c, hv, hc, hr⟩, ?_, fun k hk => .inl hk.symm, fun _ _ _ => rfl, Below.refl _ _⟩
 · rcases h with h | ⟨g, cur, e, _, h2, _⟩
   · have := Kd.own_of_R (enc := Value.int IK) (h1 := fun _ => rfl) h
     exact .inl (by simpa [encs] using this)
   · exact .inr ⟨rfl, rfl, g, e, h2⟩
 · cases hX : X with
   | nil => exact .inl rfl
   | cons y r =>
    obtain ⟨g, c', e, _⟩ := h.form (by rw [hX]; simp)
    rw [hX] at e
    exact .inr ⟨g, c', e⟩
theorem J.alloc {v l : Value} {X : List Int} {T : Nat → Int} {q : Nat} (h : J IK E base wo v X T q l wq) (hbase : base ≤ wo.heap.size) (o : Obj) : J IK E base wo v X T q l (wq.alloc o) := by
 have hsz := h.low.size
 refine ⟨h.own.imp (fun h => h.alloc o) id, h.rds.blk (fun k hk _ => Below.heap_alloc wq o k hk), h.form, h.blk, fun k hk hne => ?_, h.low.alloc (by omega) o⟩
 rw [Below.heap_alloc wq o k (by omega)]
 exact h.old k hk hne
theorem J.room {v : Value} {X : List Int} {T : Nat → Int} {q g cap : Nat} (h : J IK E base wo v X T q (.slice (some ⟨g, 0, none⟩) (X.length + q) cap) wq) (hbase : base ≤ wo.heap.size) (ho : W'.ownsRow base E 1 (.slice (some ⟨g, 0, none⟩) (X.length + q + 1) cap) (X.length + q + 1) ((X ++ (List.range (q + 1)).map T).map (Value.int IK))) (hg : wq.grownBy W' (some g)) :
 J IK E base wo v X T (q + 1) (.slice (some ⟨g, 0, none⟩) (X.length + q + 1) cap) W' := by
 have hsz := h.low.size
 have hgb := h.blk g rfl
 have hbg := own_base ho g rfl
 refine ⟨.inl ho, ?_, h.form, fun k hk => ?_, fun k hk hne => ?_, h.low.grown hg (by omega) (fun k hk => by injection hk with hk; omega)⟩
 · by_cases hgv : some g = v.ownBlock
   · refine h.rds.cells (fun ad n c hv j hj => ?_)
     obtain ⟨ad', c', hv', hcl⟩ := h.rds.cell (by omega)
     have e1 : some ad = some ad' := by rw [hv] at hv'; injection hv'
     obtain rfl := Option.some.inj e1
     rw [hcl j hj]
     rcases h.form with hX | ⟨gv, cv, hf⟩
     · rw [hX] at hj; simp at hj
     · have e2 : some ad = some ⟨gv, 0, none⟩ := by rw [hv] at hf; injection hf
       obtain rfl := Option.some.inj e2
       have e3 : g = gv := by rw [hv] at hgv; simpa [Value.ownBlock] using hgv
       subst e3
       have := ho.cellAt j (by omega)
       have e4 : (⟨g, 0, none⟩ : Addr).add j = ⟨g, j, none⟩ := by simp [Addr.add]; omega
       rw [e4, this, List.getElem?_map, List.getElem?_append_left hj, List.getElem?_eq_getElem hj, List.getD_eq_getElem?_getD, List.getElem?_eq_getElem hj]
       rfl
   · exact h.rds.blk (fun k hk hkv => hg.block k hk (by rw [← hkv]; exact fun e => hgv e.symm))
 · have : g = k := by simpa [Value.ownBlock] using hk
   rw [← this]; exact hgb
 · rw [hg.block k (by omega) (fun e => by
    injection e with e
    subst e
    rcases hgb with h1 | h1
    · exact hne h1
    · omega)]
   exact h.old k hk hne
theorem J.grow {v l l' : Value} {X : List Int} {T : Nat → Int} {q : Nat} (h : J IK E base wo v X T q l wq) (hbase : base ≤ wo.heap.size) (ho : W'.ownsRow wq.heap.size E 1 l' (X.length + q + 1) ((X ++ (List.range (q + 1)).map T).map (Value.int IK))) (hg : wq.grownBy W' none) :
 J IK E base wo v X T (q + 1) l' W' := by
 have hsz := h.low.size
 refine ⟨.inl (ho.mono (by omega)), h.rds.blk (fun k hk _ => hg.block k hk (by simp)), h.form, fun k hk => ?_, fun k hk hne => ?_, h.low.grown hg (by omega) (fun k hk => by cases hk)⟩
 · right
   have := own_base ho k hk
   omega
 · rw [hg.block k (by omega) (by simp)]
   exact h.old k hk hne
theorem wp_J {ops : Array Oper} {rest : List Oper} {o : Oper} {a : Act} {Q : Exit → Act → World → Prop} (hgd : o.guard = none) (s x : Operand) (t : TypeId) (hop : o.op = .call { callee := .builtin .append, args := #[s, x], argTypes := #[t, t] })
 (ht : Tryd.prog.underlying t = some (.slice E)) (i : TypeInfo) (z : Value) (hi : Tryd.prog.info? E = some i) (hi1 : i.zero = some z) (hi2 : i.size = 1) (hi3 : i.bytes = 8) (hz : z.cells.size = 1)
 {v l : Value} {X : List Int} {T : Nat → Int} {q : Nat} (h : J IK E base wo v X T q l wq) (hbase : base ≤ wo.heap.size) (hs : a.eval s = l) (hx : a.eval x = .slice (some ⟨wq.heap.size, 0, none⟩) 1 1) (hb : X.length + q + 1 ≤ 1000000000)
 (K : ∀ l' w', J IK E base wo v X T (q + 1) l' w' → wpList Tryd.prog ops Q rest (a.put o.dst l') w') : wpList Tryd.prog ops Q (o :: rest) a (wq.alloc (.cells #[.int IK (T q)] E)) := by
 have h1 := h.alloc hbase (.cells #[.int IK (T q)] E)
 have hnews : ∀ j u, [Value.int IK (T q)][j]? = some u → (wq.alloc (.cells #[.int IK (T q)] E)).cell? ((⟨wq.heap.size, 0, none⟩ : Addr).add j) = some u := by
  intro j u hj
  have : j = 0 := by have := (List.getElem?_eq_some_iff.1 hj).1; simpa using this
  subst this
  have : u = .int IK (T q) := by simpa using hj.symm
  subst this
  show (wq.alloc (.cells #[.int IK (T q)] E)).cell? ⟨wq.heap.size, 0, none⟩ = _
  go_simp
 have hlist : (X ++ (List.range q).map T).map (Value.int IK) ++ [.int IK (T q)] = (X ++ (List.range (q + 1)).map T).map (Value.int IK) := by simp [List.range_succ]
 have hlen : ((X ++ (List.range q).map T).map (Value.int IK)).length = X.length + q := by simp
 have hone : ∀ u ∈ [Value.int IK (T q)], u.oneCell' = true := fun u hu => by rw [List.mem_singleton.1 hu]; rfl
 rcases id h1.own with hown0 | ⟨rfl, hlv, g, hlg, hbg⟩
 rcases id hown0 with ⟨_, ⟨rfl, h0⟩ | ⟨g, cap, cur, rfl, _, _, hn, hcap, _⟩⟩
 · refine wpList_append_grows _ hgd s x t hop E i z 1 8 ht hi hi1 hi2 hi3 hz (by decide) none 0 0 [] hs (fun _ => ⟨rfl, rfl⟩) rfl (fun b hb => by cases hb) ⟨wq.heap.size, 0, none⟩ 1 1 [.int IK (T q)] hx rfl hnews hone (by decide) (by decide) (by decide) fun l' w' ho hg => ?_
   refine K l' w' (h1.grow hbase ?_ hg)
   have e0 : (X ++ (List.range q).map T).map (Value.int IK) = [] := List.eq_nil_of_length_eq_zero (by rw [hlen]; exact h0)
   rw [← hlist, e0, h0]
   exact ho
 · by_cases hr : X.length + q + 1 ≤ cap
   · refine wpList_append_fits _ hgd s x t hop base E i 1 ht hi hi2 g (X.length + q) cap _ hs hown0 ⟨wq.heap.size, 0, none⟩ 1 1 [.int IK (T q)] hx rfl hnews hone hr fun w' ho hg => ?_
     rw [hlist] at ho
     exact K _ w' (h1.room hbase ho hg)
   · have hown := hown0
     refine wpList_append_grows _ hgd s x t hop E i z 1 8 ht hi hi1 hi2 hi3 hz (by decide) (some ⟨g, 0, none⟩) (X.length + q) cap _ hs (fun e => by cases e) (by rw [hlen]; omega) (fun b hb j u hj => ?_) ⟨wq.heap.size, 0, none⟩ 1 1 [.int IK (T q)] hx rfl hnews hone (by omega) (by unfold maxLen; omega) (by omega) fun l' w' ho hg => ?_
     · obtain rfl := Option.some.inj hb
       have hj' := (List.getElem?_eq_some_iff.1 hj).1
       rw [hlen] at hj'
       have := hown.cellAt j (by omega)
       rw [hj] at this
       have e4 : (⟨g, 0, none⟩ : Addr).add j = ⟨g, j, none⟩ := by simp [Addr.add]; omega
       rw [e4]; exact this
     · rw [hlist] at ho
       exact K l' w' (h1.grow hbase ho hg)
 · subst hlg
   refine wpList_append_grows _ hgd s x t hop E i z 1 8 ht hi hi1 hi2 hi3 hz (by decide) (some ⟨g, 0, none⟩) X.length X.length (X.map (Value.int IK)) hs (fun e => by cases e) (by simp) (fun b hb j u hj => ?_) ⟨wq.heap.size, 0, none⟩ 1 1 [.int IK (T 0)] hx rfl hnews hone (by omega) (by unfold maxLen; omega) (by omega) fun l' w' ho hg => ?_
   · obtain rfl := Option.some.inj hb
     have hj' := (List.getElem?_eq_some_iff.1 hj).1
     rw [List.length_map] at hj'
     obtain ⟨ad', c', hv', hcl⟩ := h1.rds.cell (by omega)
     have e1 : (some ⟨g, 0, none⟩ : Option Addr) = some ad' := by
      have := congrArg (fun u : Value => match u with | .slice A _ _ => A | _ => none) (hlv.trans hv')
      exact this
     obtain rfl := Option.some.inj e1
     rw [hcl j hj']
     rw [List.getElem?_map, List.getElem?_eq_getElem hj'] at hj
     rw [← hj, List.getD_eq_getElem?_getD, List.getElem?_eq_getElem hj']; rfl
   · have e0 : X.map (Value.int IK) ++ [.int IK (T 0)] = (X ++ (List.range (0 + 1)).map T).map (Value.int IK) := by simp [List.range_succ]
     rw [e0] at ho
     exact K l' w' (h1.grow (l' := l') hbase ho hg)
end
theorem J.sl {IK : IntKind} {E base : Nat} {wo wq : World} {v l : Value} {X : List Int} {T : Nat → Int} {q : Nat} (h : J IK E base wo v X T q l wq) : ∃ A c, l = .slice A (X.length + q) c := by
 rcases h.own with ho | ⟨rfl, _, g, e, _⟩
 · rcases ho.2 with ⟨rfl, h0⟩ | ⟨g, cap, cur, rfl, _⟩
   · rw [h0]; exact ⟨_, _, rfl⟩
   · exact ⟨_, _, rfl⟩
 · exact ⟨_, _, e⟩
end Go.Proofs.YtaeaookonhaliaaDoor.AP
/- Lists that own their memory, gone on with one by one: the state of the loop, one step. -/
namespace Go.Proofs.YtaeaookonhaliaaDoor.AP
open Go.RowKit YtaeaookonhaliaaDoorW.PrintWords YtaeaookonhaliaaDoorW.PrintLast YtaeaookonhaliaaDoorW.PrintMore
open B (getD_lt getD_set C_pre)

section
variable {IK : IntKind} {E ES base : Nat} {vs : List OneV} {Xs : List (List Int)} {W W' w wo wq : World} {A : Option Addr}

def Dis (vs : List OneV) : Prop := ∀ p j, p < vs.length → j < vs.length → j ≠ p → ∀ k, (vd vs p).ownBlock = some k → some k ≠ (vd vs j).ownBlock
theorem Own.dis (h : Own IK E base vs Xs W) : Dis vs := fun p j hp hj hne k hk => (RC.lo (h p hp) k hk).1 j hj hne
def S3 (IK : IntKind) (E ES base : Nat) (w : World) (A : Option Addr) (vs : List OneV) (Xs : List (List Int)) (i : Nat) (mv : Value) (W : World) : Prop :=
 (∃ us : List OneV, us.length = i ∧ Kd.R kV ES W base (fun k => w.heap.size ≤ k) mv us ∧ (∀ p, p < i → Rds IK W (vd us p) (Xs.getD p [] ++ (List.range 30).map (mark2 p))) ∧ (∀ p, p < i → ∀ k, (vd us p).ownBlock = some k → k < W.heap.size ∧ (∀ j, i ≤ j → j < vs.length → some k ≠ (vd vs j).ownBlock) ∧ mv.ownBlock ≠ some k)) ∧
 (∀ p, i ≤ p → p < vs.length → RC IK E W base (okO vs p) (vd vs p) (Xs.getD p [])) ∧ (∀ p, p < vs.length → Rds IK W (vd vs p) (Xs.getD p [])) ∧
 (∀ p, p < vs.length → ∀ k, (vd vs p).ownBlock = some k → k < W.heap.size ∧ mv.ownBlock ≠ some k) ∧ (∀ ad, A = some ad → 0 < vs.length → ad.block < W.heap.size ∧ mv.ownBlock ≠ some ad.block) ∧ All A vs W ∧ Old base vs w W
theorem S3.start (h : Own IK E base vs Xs W) (hA : All A vs W) (hB : Old base vs w W) : S3 IK E ES base w A vs Xs 0 (.slice none 0 0) W :=
 ⟨⟨[], rfl, Kd.R_nil _ _ _ _ _, fun p hp => by omega, fun p hp => by omega⟩, fun p _ hp => h p hp, fun p hp => h.reads p hp, fun p hp k hk => ⟨(h.lo p hp k hk).2, by simp [Value.ownBlock]⟩, fun ad ha hp => ⟨hA.lt ad ha hp, by simp [Value.ownBlock]⟩, hA, hB⟩
theorem S3.goes {i : Nat} {mv : Value} (h : S3 IK E ES base w A vs Xs i mv wo) (hi : i < vs.length) : J IK E base wo (vd vs i) (Xs.getD i []) (mark2 i) 0 (vd vs i) wo := J.start (h.2.1 i (Nat.le_refl _) hi)
theorem vd_left (us : List OneV) (x : OneV) (p : Nat) (hp : p < us.length) : vd (us ++ [x]) p = vd us p := by
 unfold vd
 rw [getD_lt _ _ _ (by rw [List.length_append]; omega), getD_lt _ _ _ hp, List.getElem_append_left hp]
theorem vd_last (us : List OneV) (x : OneV) : vd (us ++ [x]) us.length = x.1 := by
 unfold vd
 rw [getD_lt _ _ _ (by rw [List.length_append]; simp), List.getElem_append_right (Nat.le_refl _)]
 simp
theorem wp_more {ops : Array Oper} {rest : List Oper} {o : Oper} {a : Act} {Q : Exit → Act → World → Prop} (hgd : o.guard = none) (s x : Operand) (t : TypeId) (hop : o.op = .call { callee := .builtin .append, args := #[s, x], argTypes := #[t, t] })
 (ht : Tryd.prog.underlying t = some (.slice ES)) (hinfo : (Tryd.prog.info? ES).map (fun i => (i.zero, i.size, i.bytes)) = some (some (.slice none 0 0), 1, 24)) (hbase : base ≤ w.heap.size) (hm : vs.length ≤ 1000000)
 (hb : ∀ ad, A = some ad → ∀ j, j < vs.length → (vd vs j).ownBlock ≠ some ad.block) (hdis : Dis vs)
 {i : Nat} {mv l : Value} (h : S3 IK E ES base w A vs Xs i mv wo) (hi : i < vs.length) (hJ : J IK E base wo (vd vs i) (Xs.getD i []) (mark2 i) 30 l wq) (hs : a.eval s = mv) (hx : a.eval x = .slice (some ⟨wq.heap.size, 0, none⟩) 1 1)
 (K : ∀ mv' w', S3 IK E ES base w A vs Xs (i + 1) mv' w' → wpList Tryd.prog ops Q rest (a.put o.dst mv') w') : wpList Tryd.prog ops Q (o :: rest) a (wq.alloc (.cells #[l] ES)) := by
 obtain ⟨⟨us, hul, hR, hU, hUb⟩, hrow, hrd, hvb, hAb, hAll, hlow⟩ := h
 have hJown := hJ.own.resolve_right (fun e => by have := e.1; omega)
 have hone : l.oneCell' = true := by
  rcases hJown.2 with ⟨rfl, _⟩ | ⟨g, cap, cur, rfl, _⟩ <;> rfl
 have hq := hJ.low.size
 have hmvlt : ∀ k, mv.ownBlock = some k → k < wo.heap.size := fun k hk => Kd.R_lt hR k hk
 have hRt : Kd.R kV ES wo base (fun k => mv.ownBlock = some k) mv us := Kd.R_of_own (Kd.own_of_R hR) (fun k hk => hk)
 have hRq : Kd.R kV ES wq base (fun k => w.heap.size ≤ k) mv us := Kd.R_mono (Kd.R_step hRt (fun k hk hlt => hJ.old k hlt (fun e => (hvb i hi k e.symm).2 hk))) (fun k hk => hR.1 k hk)
 have hwb := hlow.low.size
 refine Kd.R_append kV (w0 := w) base hgd s x t ES (.slice none 0 0) 24 hop ht hinfo rfl (by decide) (by decide) mv us ⟨l, hone⟩ [l] (fun k => w.heap.size ≤ k) (fun _ => False) hs hx rfl (fun _ hk => hk.elim) (fun k hk => by omega) hRq (hlow.low.trans hJ.low) (by omega) (by omega) fun mv' w' hR' hB' hg hat => K mv' w' ?_
 have hgs := hg.size
 have tr : ∀ k, k < wo.heap.size → some k ≠ (vd vs i).ownBlock → mv.ownBlock ≠ some k → w'.heap[k]? = wo.heap[k]? := fun k h1 h2 h3 => by
  rw [hg.block k (by omega) (fun e => h3 e.symm)]
  exact hJ.old k h1 h2
 have hmv' : ∀ k, k < wq.heap.size → mv.ownBlock ≠ some k → mv'.ownBlock ≠ some k := fun k h1 h2 e => by
  rcases hat with h3 | ⟨b, h3, h4⟩
  · exact h2 (h3 ▸ e)
  · rw [h3] at e
    injection e with e
    omega
 have hlr : Rds IK wq l (Xs.getD i [] ++ (List.range 30).map (mark2 i)) := by
  have ho := hJown
  have hlen : ((Xs.getD i [] ++ (List.range 30).map (mark2 i))).length = (Xs.getD i []).length + 30 := by simp
  have : Kd.R (Kd.int IK) E wq base (fun _ => True) l (Xs.getD i [] ++ (List.range 30).map (mark2 i)) := Kd.R_of_own (enc := Value.int IK) (h1 := fun _ => rfl) (by rw [hlen]; exact ho) (fun _ _ => trivial)
  obtain ⟨A', c, hv, hc, hr⟩ := Kd.R_reads this
  exact ⟨A', c, hv, hc, hr⟩
 have hlb : ∀ k, l.ownBlock = some k → k < wq.heap.size ∧ mv.ownBlock ≠ some k ∧ ∀ j, i + 1 ≤ j → j < vs.length → some k ≠ (vd vs j).ownBlock := fun k hk => by
  refine ⟨own_lt hJown k hk, fun e => ?_, fun j hj1 hj2 e => ?_⟩
  · have := hmvlt k e
    rcases hJ.blk k hk with h1 | h1
    · exact (hvb i hi k h1.symm).2 e
    · omega
  · rcases hJ.blk k hk with h1 | h1
    · exact hdis i j hi hj2 (by omega) k h1.symm e
    · have := (hvb j hj2 k e.symm).1
      omega
 have hvr : ∀ p, p < vs.length → Rds IK w' (vd vs p) (Xs.getD p []) := fun p hp => by
  by_cases e : p = i
  · subst e
    exact hJ.rds.blk (fun k hk hkv => hg.block k hk (fun e => (hvb p hp k hkv).2 e.symm))
  · exact (hrd p hp).blk (fun k hk hkv => tr k hk (hdis p i hp hi (fun e' => e e'.symm) k hkv) (hvb p hp k hkv).2)
 refine ⟨⟨us ++ [⟨l, hone⟩], by rw [List.length_append, hul]; rfl, hR', fun p hp => ?_, fun p hp k hk => ?_⟩, fun p hp1 hp2 => ?_, hvr, fun p hp k hk => ?_, fun ad ha hp => ?_, ?_, hB', fun k hk hne => (tr k (by omega) (fun e => hne i hi e.symm) (fun e => by have := hR.1 k e; omega)).trans (hlow.old k hk hne)⟩
 · by_cases e : p = i
   · subst e
     rw [← hul, vd_last, hul]
     exact hlr.blk (fun k hk hkv => hg.block k hk (fun e => (hlb k hkv).2.1 e.symm))
   · rw [vd_left us _ p (by omega)]
     exact (hU p (by omega)).blk (fun k hk hkv => by
      obtain ⟨h1, h2, h3⟩ := hUb p (by omega) k hkv
      exact tr k h1 (h2 i (Nat.le_refl _) hi) h3)
 · by_cases e : p = i
   · subst e
     rw [← hul, vd_last] at hk
     obtain ⟨h1, h2, h3⟩ := hlb k hk
     exact ⟨by omega, h3, hmv' k h1 h2⟩
   · rw [vd_left us _ p (by omega)] at hk
     obtain ⟨h1, h2, h3⟩ := hUb p (by omega) k hk
     exact ⟨by omega, fun j hj1 hj2 => h2 j (by omega) hj2, hmv' k (by omega) h3⟩
 · have h0 := hrow p (by omega) hp2
   have h1 : RC IK E wo base (fun k => (vd vs p).ownBlock = some k) (vd vs p) (Xs.getD p []) := h0.weak (fun k hk => hk)
   have h2 := h1.step (W' := w') (fun k hk hlt => tr k hlt (hdis p i hp2 hi (by omega) k hk) (hvb p hp2 k hk).2)
   exact h2.weak (fun k hk => (h0.lo k hk).1)
 · obtain ⟨h1, h2⟩ := hvb p hp k hk
   exact ⟨by omega, hmv' k (by omega) h2⟩
 · obtain ⟨h1, h2⟩ := hAb ad ha hp
   exact ⟨by omega, hmv' _ (by omega) h2⟩
 · refine hAll.move fun ad ha hp => ?_
   obtain ⟨h1, h2⟩ := hAb ad ha hp
   exact tr _ h1 (fun e => hb ad ha i hi e.symm) h2
end
end Go.Proofs.YtaeaookonhaliaaDoor.AP
/- kit.ApartInts: lists that own their memory, none sharing with another: true. -/
namespace Go.Proofs.YtaeaookonhaliaaDoor.AP
open Go.RowKit YtaeaookonhaliaaDoorW.PrintWords YtaeaookonhaliaaDoorW.PrintLast YtaeaookonhaliaaDoorW.PrintMore
open B (getD_lt getD_set C_pre)

theorem infoEI : (Tryd.prog.info? 3).map (fun i => (i.zero, i.size, i.bytes)) = some (some (.int .i64 0), 1, 8) := by kernel_rfl
theorem infoSI : (Tryd.prog.info? 22).map (fun i => (i.zero, i.size, i.bytes)) = some (some (.slice none 0 0), 1, 24) := by kernel_rfl
set_option maxHeartbeats 4000000 in
set_option maxRecDepth 100000 in
theorem ApartInts_keeps (base : Nat) (vs : List OneV) (Xs : List (List Int)) (A : Option Addr) (cA : Nat) (w : World) (hm : vs.length ≤ 1000) (hcA : vs.length ≤ cA) (hA : All A vs w) (hb : ∀ ad, A = some ad → ∀ j, j < vs.length → (vd vs j).ownBlock ≠ some ad.block) (ho : Own .i64 3 base vs Xs w) (hl : Xs.length = vs.length) (hn : ∀ p, p < vs.length → (Xs.getD p []).length ≤ 2000000) (hbase : base ≤ w.heap.size) :
 Calls Tryd.prog 23 #[.slice A vs.length cA] w fun e w' => e = .returned (.bool true) ∧ Old base vs w w' := by
 obtain ⟨n, hnn⟩ : ∃ n : Nat → Nat, n = fun p => (Xs.getD p []).length := ⟨_, rfl⟩
 have st := S1.start ho hl hA
 rw [← hnn] at st
 have hn' : ∀ p, p < vs.length → n p ≤ 2000000 := by rw [hnn]; exact hn
 have hdis := ho.dis
 obtain ⟨i0, hi0, hz0, hs0, hb0⟩ := info_parts infoEI
 have ST := Aside0.mk st
 have HB := Aside0.mk hb
 have HN := Aside0.mk hn'
 have HD := Aside0.mk hdis
 have HI := Aside0.mk hi0
 have HZ := Aside0.mk hz0
 have HS := Aside0.mk hs0
 have HBY := Aside0.mk hb0
 have HBASE := Aside0.mk hbase
 clear st hb hn' hdis hi0 hz0 hs0 hb0 ho hl hn hnn hA hbase
 go_enter Tryd.func23, Tryd.ntmps23
 go_wp2_with fail
 go_loopw [3, 4] (fun i _ wr => ∃ p : Nat, p ≤ vs.length ∧ i = .int .i64 p ∧ Aside0 (S1 .i64 3 base w A vs n p 0 wr)) (fun i _ _ => vs.length - (intOf i).toNat)
 case atStart => exact ⟨0, Nat.zero_le _, rfl, ST⟩
 case round =>
  clear ST
  obtain ⟨p, hp, rfl, tr⟩ := hrel
  by_cases hlt : p < vs.length
  · have hnp := HN.out p hlt
    go_wp2_with fail
    go_loopw [4] (fun k wq => ∃ q : Nat, q ≤ n p ∧ k = .int .i64 q ∧ Aside0 (S1 .i64 3 base w A vs n p q wq)) (fun k _ => n p - (intOf k).toNat)
    case atStart => exact ⟨0, Nat.zero_le _, rfl, tr⟩
    case round =>
     clear tr
     obtain ⟨q, hq, rfl, tq⟩ := hrel
     obtain ⟨ad, rfl⟩ := tq.out.2.1.addr (by omega)
     have f0 := tq.out.2.1.cell ad rfl p hlt
     by_cases hlt2 : q < n p
     · obtain ⟨g, c, y, hv, hc, hf, hs⟩ := tq.out.step hlt hlt2 HB.out
       rw [hv] at f0
       unfold mark at hs
       have HSS := Aside0.mk hs
       clear hs hv
       go_wp2_with fail
       go_roundw
       case measure => simp [intOf]; omega
       case rel => exact ⟨q + 1, by omega, rfl, HSS⟩
     · obtain ⟨A', c, hv⟩ := tq.out.sl hlt
       rw [hv] at f0
       have HSS := Aside0.mk (tq.out.next (by omega))
       clear hv
       go_wp2_with fail
       go_roundw
       case measure => simp [intOf]; omega
       case rel => exact ⟨p + 1, by omega, rfl, HSS⟩
  · have hpm : p = vs.length := by omega
    subst hpm
    obtain ⟨⟨Ys, y1, y2, y3, y4⟩, y5, y6⟩ := tr.out
    have S0 := Aside0.mk (S3.start (ES := 22) y4 y5 y6)
    have Y2 := Aside0.mk y2
    have Y3 := Aside0.mk y3
    clear y1 y2 y3 y4 y5 y6 tr
    go_wp2_with fail
    go_loopw [5, 6, 7, 8] (fun mv i _ _ wr => ∃ p : Nat, p ≤ vs.length ∧ i = .int .i64 p ∧ Aside0 (S3 .i64 3 22 base w A vs Ys p mv wr)) (fun _ i _ _ _ => vs.length - (intOf i).toNat)
    case atStart => exact ⟨0, Nat.zero_le _, rfl, S0⟩
    case round =>
     clear S0
     obtain ⟨p, hp, rfl, tr⟩ := hrel
     by_cases hlt : p < vs.length
     · have hnp := HN.out p hlt
       have hyl := Y2.out p hlt
       obtain ⟨ad, rfl⟩ := tr.out.2.2.2.2.2.1.addr (by omega)
       have f0 := tr.out.2.2.2.2.2.1.cell ad rfl p hlt
       have g0 := tr.out.goes hlt
       obtain ⟨Yp, hYp⟩ : ∃ Y : List Int, Y = Ys.getD p [] := ⟨_, rfl⟩
       rw [← hYp] at hyl g0
       have G0 := Aside0.mk g0
       have HYP := Aside0.mk hYp
       have HYL := Aside0.mk (show ∀ j, j < 30 → Yp.length + j + 1 ≤ 1000000000 by omega)
       clear g0 hYp
       obtain ⟨wo, rfl⟩ : ∃ wo : World, wo = wr := ⟨_, rfl⟩
       obtain ⟨mo, rfl⟩ : ∃ mo : Value, mo = u5 := ⟨_, rfl⟩
       clear hyl
       go_wp2_with fail
       go_loopw [7, 8] (fun l k wq => ∃ q : Nat, q ≤ 30 ∧ k = .int .i64 q ∧ Aside0 (J .i64 3 base wo (vd vs p) Yp (mark2 p) q l wq)) (fun _ k _ => 30 - (intOf k).toNat)
       case atStart => exact ⟨0, by omega, rfl, G0⟩
       case round =>
        clear G0 f0
        obtain ⟨q, hq, rfl, tq⟩ := hrel
        by_cases hlt2 : q < 30
        · go_wp2_with ((with_reducible refine gate_builtin (b := .append) (xs := #[.tmp 52, .tmp 58]) rfl ?_); at_builtin; go_loud (refine wp_J (v := vd vs p) (X := Yp) (T := mark2 p) (q := q) rfl (.tmp 52) (.tmp 58) 22 rfl Tryd.underlying22 i0 (.int .i64 0) HI.out HZ.out HS.out HBY.out rfl tq.out (Nat.le_trans HBASE.out tr.out.2.2.2.2.2.2.low.size) rfl rfl (HYL.out q hlt2) ?_); rintro l' w' hJ'; have T2 := Aside0.mk hJ'; clear hJ')
          go_roundw
          case measure => simp [intOf]; omega
          case rel => exact ⟨q + 1, by omega, rfl, T2⟩
        · have hq30 : q = 30 := by omega
          subst hq30
          obtain ⟨Al, cl, hal⟩ := tq.out.sl
          subst hal
          have TQ := Aside0.mk (show J .i64 3 base wo (vd vs p) (Ys.getD p []) (mark2 p) 30 (.slice Al (Yp.length + 30) cl) wr by rw [← HYP.out]; exact tq.out)
          go_wp2_with ((with_reducible refine gate_builtin (b := .append) (xs := #[.tmp 60, .tmp 62]) rfl ?_); at_builtin; go_loud (refine wp_more rfl (.tmp 60) (.tmp 62) 50 rfl Tryd.underlying50 infoSI HBASE.out (by omega) HB.out HD.out tr.out hlt TQ.out rfl rfl ?_); rintro mv' w' h3; have T3 := Aside0.mk h3; clear h3)
          go_roundw
          case measure => simp [intOf]; omega
          case rel => exact ⟨p + 1, by omega, rfl, T3⟩
     · have hpm : p = vs.length := by omega
       subst hpm
       obtain ⟨⟨us, hul, hR, hU, _⟩, _, hV, _, _, hAll, hlow⟩ := tr.out
       obtain ⟨Am, cm, hmv⟩ := Kd.R_slice hR
       subst hmv
       obtain ⟨_, hcm, hCm⟩ := Kd.R_reads' hR
       rw [hul] at hcm hCm
       have hus : All Am us wr := by unfold All; rw [hul]; exact hCm
       have HUS := Aside0.mk hus
       have HU := Aside0.mk hU
       have HV := Aside0.mk hV
       have HALL := Aside0.mk hAll
       have HLOW := Aside0.mk hlow
       have HUL := Aside0.mk hul
       clear hR hU hV hAll hlow hus hCm
       rw [hul]
       clear hul tr
       go_wp2_with fail
       go_loop [9, 10, 11, 12] (fun i _ _ _ => ∃ p : Nat, p ≤ vs.length ∧ i = .int .i64 p) (fun i _ _ _ => vs.length - (intOf i).toNat)
       case atStart => exact ⟨0, Nat.zero_le _, rfl⟩
       case round =>
        obtain ⟨p, hp, rfl⟩ := hrel
        by_cases hlt : p < vs.length
        · have hnp := HN.out p hlt
          have hyl := Y2.out p hlt
          obtain ⟨ad, rfl⟩ := HALL.out.addr (by omega)
          obtain ⟨am, rfl⟩ := HUS.out.addr (by have := HUL.out; omega)
          have f0 := HALL.out.cell ad rfl p hlt
          have f1 := HUS.out.cell am rfl p (by have := HUL.out; omega)
          have hv := HV.out p hlt
          have hu := HU.out p hlt
          obtain ⟨au, cu, eu, hcu⟩ := hu.cell (by simp)
          have hul2 : (Ys.getD p [] ++ (List.range 30).map (mark2 p)).length = n p + 30 := by rw [List.length_append, hyl, List.length_map, List.length_range]
          rw [hul2] at eu hcu
          have hlenu : n p + 30 ≤ cu ∨ True := .inr trivial
          have fu : ∀ q, q < n p → wr.cell? (au.add q) = some (.int .i64 (1000 * (p : Int) + (q : Int))) := fun q hq => by
           rw [hcu q (by omega), getD_lt _ _ _ (by rw [hul2]; omega), List.getElem_append_left (by rw [hyl]; exact hq)]
           have := Y3.out p q hlt hq (.inl hlt)
           rw [getD_lt _ _ _ (by rw [hyl]; exact hq)] at this
           rw [this]; rfl
          have ft : ∀ q, q < 30 → wr.cell? (au.add (n p + q)) = some (.int .i64 (500000 + 1000 * (p : Int) + (q : Int))) := fun q hq => by
           rw [hcu (n p + q) (by omega), getD_lt _ _ _ (by rw [hul2]; omega), List.getElem_append_right (by rw [hyl]; omega)]
           rw [List.getElem_map, List.getElem_range]
           have : n p + q - (Ys.getD p []).length = q := by omega
           rw [this]; rfl
          obtain ⟨Av, cv, ev, hcv, _⟩ := hv
          rw [hyl] at ev
          have fv : ∀ q, q < n p → ∃ av, Av = some av ∧ wr.cell? (av.add q) = some (.int .i64 (1000 * (p : Int) + (q : Int))) := fun q hq => by
           obtain ⟨av, c', e', hx⟩ := (HV.out p hlt).cell (by rw [hyl]; omega)
           have e2 : Av = some av := by rw [ev] at e'; injection e'
           refine ⟨av, e2, ?_⟩
           rw [hx q (by rw [hyl]; exact hq)]
           have := Y3.out p q hlt hq (.inl hlt)
           rw [this]; rfl
          rw [ev] at f0
          rw [eu] at f1
          have FU := Aside0.mk fu
          have FT := Aside0.mk ft
          have FV := Aside0.mk fv
          clear fu ft fv hu hcu eu ev hul2 hyl hcv hlenu
          go_wp2_with fail
          go_loop [11] (fun k => ∃ q : Nat, q ≤ n p ∧ k = .int .i64 q) (fun k => n p - (intOf k).toNat)
          case atStart => exact ⟨0, Nat.zero_le _, rfl⟩
          case round =>
           obtain ⟨q, hq, rfl⟩ := hrel
           by_cases hlt2 : q < n p
           · obtain ⟨av, rfl, g1⟩ := FV.out q hlt2
             have g2 := FU.out q hlt2
             have b0 : (0 : Int) ≤ 1000 * (p : Int) + (q : Int) := by omega
             have b1 : 1000 * (p : Int) + (q : Int) ≤ 100000000 := by omega
             go_wp2_with fail
             go_round
             case measure => simp [intOf]; omega
             case rel => exact ⟨q + 1, by omega, rfl⟩
           · have hqn : q = n p := by omega
             subst hqn
             go_wp2_with fail
             go_loop [12] (fun k => ∃ q : Nat, q ≤ 30 ∧ k = .int .i64 q) (fun k => 30 - (intOf k).toNat)
             case atStart => exact ⟨0, by omega, rfl⟩
             case round =>
              obtain ⟨q, hq, rfl⟩ := hrel
              by_cases hlt3 : q < 30
              · have g1 := FT.out q hlt3
                have b0 : (0 : Int) ≤ 500000 + 1000 * (p : Int) + (q : Int) := by omega
                have b1 : 500000 + 1000 * (p : Int) + (q : Int) ≤ 100000000 := by omega
                go_wp2_with fail
                go_round
                case measure => simp [intOf]; omega
                case rel => exact ⟨q + 1, by omega, rfl⟩
              · go_wp2_with fail
                go_round
                case measure => simp [intOf]; omega
                case rel => exact ⟨p + 1, by omega, rfl⟩
        · go_wp2_with fail
          go_ret
          exact ⟨rfl, HLOW.out⟩
end Go.Proofs.YtaeaookonhaliaaDoor.AP
/- dovetaillaw06.OpformSides: what lies while it runs. -/
namespace Go.Proofs.YtaeaookonhaliaaDoor.R6
open Go.RowKit Go.Shelf YtaeaookonhaliaaDoorW.PrintWords YtaeaookonhaliaaDoorW.PrintLast YtaeaookonhaliaaDoorW.PrintMore
open B H F CO AP
structure SB (w : World) (rv : Value) (u : Int) (W : World) : Prop where
 low : Below w.heap.size w W
 rb : Box w.heap.size #[rv] 22 W
 ub : Box (w.heap.size + 1) #[.int .i64 u] 3 W
 bb : Box (w.heap.size + 2) #[.bool false] 4 W
section
variable {w W W' : World} {rv : Value} {u : Int}
theorem SB.start (w : World) (rv : Value) (u : Int) : SB w rv u (((w.alloc (.cells #[rv] 22)).alloc (.cells #[.int .i64 u] 3)).alloc (.cells #[.bool false] 4)) := by
 have h2 := World.alloc_heap_new ((w.alloc (.cells #[rv] 22)).alloc (.cells #[.int .i64 u] 3)) (.cells #[.bool false] 4)
 rw [World.size_alloc, World.size_alloc] at h2
 exact ⟨(((Below.refl _ w).alloc (Nat.le_refl _) _).alloc (by simp) _).alloc (by simp; omega) _, (Below.heap_alloc _ _ _ (by simp; omega)).trans (heap_alloc2_old w _ _), (Below.heap_alloc _ _ _ (by simp)).trans (heap_alloc2_new w _ _), h2⟩
theorem SB.sz (h : SB w rv u W) : w.heap.size + 3 ≤ W.heap.size := by
 have h2 := (Array.getElem?_eq_some_iff.1 h.bb).1
 omega
theorem SB.base (h : SB w rv u W) (base : Nat) (hb : Below base W W') (h0 : w.heap.size + 3 ≤ base) : SB w rv u W' :=
 ⟨h.low.trans (hb.mono (by omega)), (hb.block _ (by omega)).trans h.rb, (hb.block _ (by omega)).trans h.ub, (hb.block _ (by omega)).trans h.bb⟩
theorem SB.more (h : SB w rv u W) (hb : Below W.heap.size W W') : SB w rv u W' := h.base W.heap.size hb h.sz
theorem SB.cells (h : SB w rv u W) : W.cell? ⟨w.heap.size, 0, none⟩ = some rv ∧ W.cell? ⟨w.heap.size + 1, 0, none⟩ = some (.int .i64 u) ∧ W.cell? ⟨w.heap.size + 2, 0, none⟩ = some (.bool false) ∧ W.frozen? ⟨w.heap.size + 1, 0, none⟩ = false ∧ W.frozen? ⟨w.heap.size + 2, 0, none⟩ = false :=
 ⟨h.rb.cell 0 _ rfl, h.ub.cell 0 _ rfl, h.bb.cell 0 _ rfl, frozen0 h.ub, frozen0 h.bb⟩
theorem SB.far (h : SB w rv u W) {p : Addr} (hp : w.heap.size + 3 ≤ p.block) (v : Value) : SB w rv u (W.setCell p v) :=
 ⟨h.low.setCell (by omega) v, blk_far h.rb (by omega) v, blk_far h.ub (by omega) v, blk_far h.bb (by omega) v⟩
theorem SB.put (h : SB w rv u W) (x : Int) : SB w rv x (W.setCell ⟨w.heap.size + 1, 0, none⟩ (.int .i64 x)) :=
 ⟨h.low.setCell (p := ⟨w.heap.size + 1, 0, none⟩) (by simp) _, blk_far h.rb (by simp) _, by unfold Box; simpa using blk_set h.ub 0 (.int .i64 x), blk_far h.bb (by simp) _⟩
theorem SB.grown {row : Option Nat} {B : Nat} (h : SB w rv u W) (hB : w.heap.size ≤ B) (hg : W.grownBy W' row) (hr : ∀ r, row = some r → B ≤ r ∧ ∃ o : Obj, W.heap[r]? = some o ∧ o.isCells = false) : SB w rv u W' :=
 ⟨h.low.grown hg h.low.size (fun r e => Nat.le_trans hB (hr r e).1), grown_cells hg hr h.rb, grown_cells hg hr h.ub, grown_cells hg hr h.bb⟩
end
def Mid (lo hi : Nat) (v : Value) (X : List Int) (W : World) : Prop := RC .i64 3 W lo (fun k => lo ≤ k ∧ k < hi) v X
theorem Mid.below {lo hi : Nat} {v : Value} {X : List Int} {W W' : World} (h : Mid lo hi v X W) (hb : Below W.heap.size W W') : Mid lo hi v X W' := RC.below h hb
theorem Mid.of {lo : Nat} {ok : Nat → Prop} {v : Value} {X : List Int} {W : World} (h : Kd.R (Kd.int .i64) 3 W lo ok v X) : Mid lo W.heap.size v X W := (show RC .i64 3 W lo ok v X from .inl h).weak (fun k hk => (RC.lo (.inl h) k hk).2)
theorem Mid.clip {lo : Nat} {ok : Nat → Prop} {A : Option Addr} {n c : Nat} {X : List Int} {W : World} (hn : n = X.length) (h : Kd.R (Kd.int .i64) 3 W lo ok (.slice A n c) X) : Mid lo W.heap.size (.slice A n n) X W := by
 subst hn
 have ho := Kd.own_of_R (enc := Value.int .i64) (h1 := fun _ => rfl) h
 rcases ho with ⟨hl, ⟨e, h0⟩ | ⟨g, cap, cur, e, hb, hg, hn, hc, hs, ht⟩⟩
 · injection e with e1 e2 e3
   have hX : X = [] := List.eq_nil_of_length_eq_zero e2
   subst e1 hX
   exact .inl (Kd.R_nil _ _ _ _ _)
 · injection e with e1 e2 e3
   subst e1
   refine .inr ⟨g, cur, rfl, ⟨hb, (Array.getElem?_eq_some_iff.1 hg).1⟩, hb, hg, by unfold maxLen at hc; omega, ?_⟩
   rw [Nat.mul_one] at ht
   exact ht
theorem Mid.reads {lo hi : Nat} {A : Option Addr} {n c : Nat} {X : List Int} {W : World} (hn : n = X.length) (h : Mid lo hi (.slice A n c) X W) : Kd.C (Kd.int .i64) W A n X := by
 obtain ⟨A', c', e, _, hr⟩ := RC.reads h
 injection e with e1 e2 e3
 subst e1
 rw [hn]; exact hr
structure SD (w : World) (rv : Value) (u : Int) (l : List Int) (B : Option Addr) (d : Nat) (S T V : Option Addr) (b : Nat) (C : Option Addr) (cc z1 z2 z3 : Nat) (W : World) : Prop where
 sb : SB w rv u W
 rin : Mid (w.heap.size + 3) z1 (.slice B (l.length + 1) d) (l ++ [-7171]) W
 rs : Mid z1 z2 (.slice S l.length l.length) (l.map mx) W
 rt : Mid z2 z3 (.slice T l.length l.length) (l.map mx) W
 rv : Kd.C (Kd.int .i64) W V l.length (l.map mx)
 bx : Box b #[.slice C l.length cc] 22 W
 rc : Kd.C (Kd.int .i64) W C l.length l
 zs : w.heap.size + 3 ≤ z1 ∧ z1 ≤ z2 ∧ z2 ≤ z3 ∧ z3 ≤ b ∧ ∀ ad, C = some ad → z3 ≤ ad.block ∧ ad.block < W.heap.size
theorem SD.more {w : World} {rv : Value} {u : Int} {l : List Int} {B : Option Addr} {d : Nat} {S T V : Option Addr} {b : Nat} {C : Option Addr} {cc z1 z2 z3 : Nat} {W W' : World} (h : SD w rv u l B d S T V b C cc z1 z2 z3 W) (hb : Below W.heap.size W W') : SD w rv u l B d S T V b C cc z1 z2 z3 W' :=
 ⟨h.sb.more hb, h.rin.below hb, h.rs.below hb, h.rt.below hb, Kd.C_below h.rv hb, h.bx.below hb, Kd.C_below h.rc hb, h.zs.1, h.zs.2.1, h.zs.2.2.1, h.zs.2.2.2.1, fun ad e => ⟨(h.zs.2.2.2.2 ad e).1, Nat.lt_of_lt_of_le (h.zs.2.2.2.2 ad e).2 hb.size⟩⟩
structure PH (w : World) (rv : Value) (u : Int) (l : List Int) (q b : Nat) (C : Option Addr) (cc z : Nat) (W : World) : Prop where
 sb : SB w rv u W
 qb : ∃ cur, W.heap[q]? = some (.cells cur 3 (0, 0)) ∧ l.length ≤ cur.size
 bx : Box b #[.slice C l.length cc] 22 W
 rc : Kd.C (Kd.int .i64) W C l.length l
 zs : w.heap.size + 3 ≤ q ∧ q < b ∧ b < z ∧ z ≤ W.heap.size ∧ ∀ ad, C = some ad → q < ad.block ∧ ad.block < z
section
variable {w : World} {rv : Value} {u : Int} {l : List Int} {q b : Nat} {C : Option Addr} {cc z : Nat} {W W' : World}
theorem PH.base (h : PH w rv u l q b C cc z W) (base : Nat) (hb : Below base W W') (h0 : z ≤ base) : PH w rv u l q b C cc z W' := by
 obtain ⟨h1, h2, h3, h4, h5⟩ := h.zs
 refine ⟨h.sb.base base hb (by omega), ?_, (hb.block _ (by omega)).trans h.bx, C_block h.rc (fun ad e => hb.block _ (by have := (h5 ad e).2; omega)), h1, h2, h3, Nat.le_trans h4 hb.size, h5⟩
 obtain ⟨cur, hq, hl⟩ := h.qb
 exact ⟨cur, (hb.block _ (by omega)).trans hq, hl⟩
theorem PH.more (h : PH w rv u l q b C cc z W) (hb : Below W.heap.size W W') : PH w rv u l q b C cc z W' := h.base _ hb h.zs.2.2.2.1
theorem PH.far (h : PH w rv u l q b C cc z W) {p : Addr} (hp : z ≤ p.block) (v : Value) : PH w rv u l q b C cc z (W.setCell p v) := by
 exact h.base z ((Below.refl _ W).setCell hp v) (Nat.le_refl _)
theorem PH.put (h : PH w rv u l q b C cc z W) (x : Int) : PH w rv x l q b C cc z (W.setCell ⟨w.heap.size + 1, 0, none⟩ (.int .i64 x)) := by
 obtain ⟨h1, h2, h3, h4, h5⟩ := h.zs
 refine ⟨h.sb.put x, ?_, blk_far h.bx (by simp; omega) _, C_block h.rc (fun ad e => Below.heap_setCell _ _ _ _ (by have := (h5 ad e).1; simp; omega)), h1, h2, h3, by simpa using h4, h5⟩
 obtain ⟨cur, hq, hl⟩ := h.qb
 exact ⟨cur, blk_far hq (by simp; omega) _, hl⟩
theorem PH.qput (h : PH w rv u l q b C cc z W) (i : Nat) (v : Value) : PH w rv u l q b C cc z (W.setCell ⟨q, i, none⟩ v) := by
 obtain ⟨h1, h2, h3, h4, h5⟩ := h.zs
 refine ⟨h.sb.far (by exact h1) v, ?_, blk_far h.bx (by simp; omega) _, C_block h.rc (fun ad e => Below.heap_setCell _ _ _ _ (by have := (h5 ad e).1; simp; omega)), h1, h2, h3, by simpa using h4, h5⟩
 obtain ⟨cur, hq, hl⟩ := h.qb
 exact ⟨_, blk_set hq i v, by rw [Array.size_setIfInBounds]; exact hl⟩
theorem PH.grown {row : Option Nat} {B : Nat} (h : PH w rv u l q b C cc z W) (hB : w.heap.size ≤ B) (hg : W.grownBy W' row) (hr : ∀ r, row = some r → B ≤ r ∧ ∃ o : Obj, W.heap[r]? = some o ∧ o.isCells = false) : PH w rv u l q b C cc z W' := by
 obtain ⟨h1, h2, h3, h4, h5⟩ := h.zs
 refine ⟨h.sb.grown hB hg hr, ?_, grown_cells hg hr h.bx, ?_, h1, h2, h3, Nat.le_trans h4 hg.size, h5⟩
 · obtain ⟨cur, hq, hl⟩ := h.qb
   exact ⟨cur, grown_cells hg hr hq, hl⟩
 · by_cases hl : 0 < l.length
   · obtain ⟨ad, e, hc⟩ := h.rc.2.2 hl
     have h6 : ∃ v, W.cell? (ad.add 0) = some v := by
      obtain ⟨c, c1, c2, c3⟩ := hc 0 l[0] (List.getElem?_eq_getElem hl)
      have c1' : c.length = 1 := c1
      obtain ⟨v, hv⟩ : ∃ v, c[0]? = some v := ⟨c[0], List.getElem?_eq_getElem (by omega)⟩
      exact ⟨v, c3 0 v hv⟩
     refine C_block h.rc (fun ad' e' => ?_)
     obtain rfl := Option.some.inj (e.symm.trans e')
     obtain ⟨v, hv⟩ := h6
     have hblk : ∃ cells t fr, W.heap[ad.block]? = some (.cells cells t fr) := by
      have e0 : ad.add 0 = ad := by unfold Addr.add; rw [if_pos rfl]
      rw [e0] at hv
      unfold World.cell? at hv
      split at hv
      · rename_i cells t fr hh
        exact ⟨_, _, _, hh⟩
      · cases hv
     obtain ⟨cells, t, fr, hh⟩ := hblk
     exact (grown_cells hg hr hh).trans hh.symm
   · have h0 : l = [] := List.eq_nil_of_length_eq_zero (by omega)
     subst h0
     exact ⟨h.rc.1, h.rc.2.1, fun hp => absurd hp (by simp)⟩
def ksOf (b : Nat) (C : Option Addr) : List Nat := b :: match C with | some ad => [ad.block] | none => []
theorem ksOf_C {b : Nat} {C : Option Addr} (ad : Addr) (h : C = some ad) : ad.block ∈ ksOf b C := by subst h; simp [ksOf]
theorem PH.ks (h : PH w rv u l q b C cc z W) : ∀ k ∈ ksOf b C, w.heap.size + 3 ≤ k ∧ k < z := by
 obtain ⟨h1, h2, h3, h4, h5⟩ := h.zs
 intro k hk
 unfold ksOf at hk
 rcases List.mem_cons.1 hk with rfl | hk
 · omega
 · cases C with
   | none => cases hk
   | some ad =>
    obtain rfl := List.mem_singleton.1 hk
    have := h5 ad rfl
    omega
theorem PH.qcell (h : PH w rv u l q b C cc z W) (i : Nat) (hi : i < l.length) : (∃ v, W.cell? ⟨q, i, none⟩ = some v) ∧ W.frozen? ⟨q, i, none⟩ = false := by
 obtain ⟨cur, hq, hl⟩ := h.qb
 refine ⟨⟨cur[i], ?_⟩, by simp [World.frozen?, hq]⟩
 rw [cell_of_row W q i cur _ _ hq, Array.getElem?_eq_getElem]
end
structure Q2 (w : World) (rv : Value) (x : Int) (l : List Int) (q b : Nat) (C : Option Addr) (cc z NB : Nat) (m : Int) (AB D : Nat) (a k : Int) (W : World) : Prop where
 ph : PH w rv x l q b C cc z W
 nb : Box NB #[.int .i64 m] 3 W
 ab : Box AB #[.int .i64 a] 3 W
 kb : Box (AB + 1) #[.int .i64 k] 3 W
 dd : W.heap[D]? = some (.deferred (some []))
 zs : z ≤ NB ∧ NB < D ∧ D < AB
section
variable {w : World} {rv : Value} {x : Int} {l : List Int} {q b : Nat} {C : Option Addr} {cc z NB : Nat} {m : Int} {AB D : Nat} {a k : Int} {W W' : World}
theorem Q2.start (hp : PH w rv x l q b C cc z W) (hn : Box NB #[.int .i64 m] 3 W) (hd : W.heap[D]? = some (.deferred (some []))) (hz : z ≤ NB) (hND : NB + 1 ≤ D) : Q2 w rv x l q b C cc z NB m W.heap.size D 0 0 ((W.alloc (.cells #[.int .i64 0] 3)).alloc (.cells #[.int .i64 0] 3)) := by
 have hb : Below W.heap.size W ((W.alloc (.cells #[.int .i64 0] 3)).alloc (.cells #[.int .i64 0] 3)) := ((Below.refl _ W).alloc (Nat.le_refl _) _).alloc (by simp) _
 have hD := (Array.getElem?_eq_some_iff.1 hd).1
 exact ⟨hp.more hb, hn.below hb, heap_alloc2_old W _ _, heap_alloc2_new W _ _, (hb.block D hD).trans hd, hz, by omega, hD⟩
theorem Q2.grown {row : Option Nat} {B : Nat} (h : Q2 w rv x l q b C cc z NB m AB D a k W) (hB : AB ≤ B) (hg : W.grownBy W' row) (hr : ∀ r, row = some r → B ≤ r ∧ ∃ o : Obj, W.heap[r]? = some o ∧ o.isCells = false) : Q2 w rv x l q b C cc z NB m AB D a k W' := by
 have h1 := h.ph.zs
 have h2 := h.zs
 exact ⟨h.ph.grown (B := B) (by omega) hg hr, grown_cells hg hr h.nb, grown_cells hg hr h.ab, grown_cells hg hr h.kb, (hg.block D (Array.getElem?_eq_some_iff.1 h.dd).1 (fun e => by have := (hr D e.symm).1; omega)).trans h.dd, h2⟩
theorem Q2.putK (h : Q2 w rv x l q b C cc z NB m AB D a k W) (k' : Int) : Q2 w rv x l q b C cc z NB m AB D a k' (W.setCell ⟨AB + 1, 0, none⟩ (.int .i64 k')) := by
 have h2 := h.zs
 exact ⟨h.ph.far (by show z ≤ AB + 1; omega) _, blk_far h.nb (by show NB ≠ AB + 1; omega) _, blk_far h.ab (by show AB ≠ AB + 1; omega) _, by unfold Box; simpa using blk_set h.kb 0 (.int .i64 k'), (Below.heap_setCell _ _ _ _ (by show D ≠ AB + 1; omega)).trans h.dd, h2⟩
theorem Q2.putA (h : Q2 w rv x l q b C cc z NB m AB D a k W) (a' : Int) : Q2 w rv x l q b C cc z NB m AB D a' k (W.setCell ⟨AB, 0, none⟩ (.int .i64 a')) := by
 have h2 := h.zs
 exact ⟨h.ph.far (by show z ≤ AB; omega) _, blk_far h.nb (by show NB ≠ AB; omega) _, by unfold Box; simpa using blk_set h.ab 0 (.int .i64 a'), blk_far h.kb (by show AB + 1 ≠ AB; omega) _, (Below.heap_setCell _ _ _ _ (by show D ≠ AB; omega)).trans h.dd, h2⟩
theorem Q2.cells (h : Q2 w rv x l q b C cc z NB m AB D a k W) : W.cell? ⟨w.heap.size, 0, none⟩ = some rv ∧ W.cell? ⟨w.heap.size + 1, 0, none⟩ = some (.int .i64 x) ∧ W.cell? ⟨NB, 0, none⟩ = some (.int .i64 m) ∧ W.cell? ⟨AB, 0, none⟩ = some (.int .i64 a) ∧ W.cell? ⟨AB + 1, 0, none⟩ = some (.int .i64 k) ∧ W.frozen? ⟨AB, 0, none⟩ = false ∧ W.frozen? ⟨AB + 1, 0, none⟩ = false ∧ W.cell? ⟨w.heap.size + 1 + 1, 0, none⟩ = some (.bool false) ∧ W.frozen? ⟨w.heap.size + 1 + 1, 0, none⟩ = false :=
 ⟨h.ph.sb.cells.1, h.ph.sb.cells.2.1, h.nb.cell 0 _ rfl, h.ab.cell 0 _ rfl, h.kb.cell 0 _ rfl, frozen0 h.ab, frozen0 h.kb, h.ph.sb.cells.2.2.1, h.ph.sb.cells.2.2.2.2⟩
theorem Q2.ks (h : Q2 w rv x l q b C cc z NB m AB D a k W) (j : Nat) (hj : AB ≤ j) (v : Value) : KS (ksOf b C) W (W.setCell ⟨j, 0, none⟩ v) := fun k hk => Below.heap_setCell _ _ _ _ (by have := h.ph.ks k hk; have := h.zs; show k ≠ j; omega)
theorem Q2.more (h : Q2 w rv x l q b C cc z NB m AB D a k W) (hb : Below W.heap.size W W') : Q2 w rv x l q b C cc z NB m AB D a k W' :=
 ⟨h.ph.more hb, h.nb.below hb, h.ab.below hb, h.kb.below hb, (hb.block D (Array.getElem?_eq_some_iff.1 h.dd).1).trans h.dd, h.zs⟩
def kOf (AB : Nat) (W : World) : Nat := match W.cell? ⟨AB + 1, 0, none⟩ with | some (.int _ x) => x.toNat | _ => 0
theorem Q2.kOf (h : Q2 w rv x l q b C cc z NB m AB D a k W) : R6.kOf AB W = k.toNat := by
 unfold R6.kOf
 rw [h.cells.2.2.2.2.1]
end
theorem tmTo_neg {l : List Int} {k j : Nat} (h : tmTo l k = tmTo l l.length) (h1 : k ≤ j) (h2 : j < l.length) : l.getD j 0 < 0 := by
 by_cases hn : 0 ≤ l.getD j 0
 · have h3 := (tmTo_prefix l (show j + 1 ≤ l.length from h2)).length_le
   rw [tmTo_succ, if_pos hn, List.length_append] at h3
   have h4 := (tmTo_prefix l h1).length_le
   rw [h] at h4
   simp at h3
   omega
 · omega
end Go.Proofs.YtaeaookonhaliaaDoor.R6
