/- Texts of this claim, one behind the other. -/
import Derived.Test.YthjhaogfpdkhbaaDoorMShT1
import Derived.Test.YthjhaogfpdkhbaaDoorMShT2
import Derived.Lib.LazyBuf
import Derived.StillTailTactics
import Derived.Lib.AppendStr
import Derived.Test.YthjhaogfpdkhbaaDoorProg
import Derived.Below
import Derived.Deep.Draws
import Derived.Deep.AppendLies
import Derived.Maps.AppendAt
import Derived.OwnWalk
import Derived.Laws.BytesArg
import Derived.Laws.MakeOwn
import Derived.Laws.OwnMore
import Derived.Deep.OwnRows
import Derived.Tactics
import Derived.Lib.ConvBytes
import Derived.Laws.Slices
import Derived.WalkKit
import Derived.KernelRfl
import Derived.RowKit3
import Derived.Deep.LoopGhost
import Derived.Deep.QuietTactic
import Derived.BigQuiet
import Derived.WideLaws
import Derived.Deep.DeepCutAuto
import Derived.Deep.CutBlock
import Derived.Deep.RegionHeld3
import Derived.Laws.Rows
import Derived.ArgAppend
import Derived.Laws.IdiomCopy
import Derived.OrdersHeld
import Derived.Laws.BitsLemmas
import Derived.RowKit
namespace Go.Proofs.YthjhaogfpdkhbaaDoorW.PrintLast
theorem i32_w (n : Int) : IntKind.i32.wrap n = Go.RowKit.wrap32 n := by unfold Go.RowKit.wrap32; exact IntKind.wrap_i32 n
end Go.Proofs.YthjhaogfpdkhbaaDoorW.PrintLast
/- strings.Builder made by the call itself: copyCheck, WriteByte, WriteString, String by contract (turned from the shelf's worked text). -/
set_option linter.unusedVariables false
namespace Go.Proofs.YthjhaogfpdkhbaaDoor.H
open Go.RowKit

theorem infoByte : (Tryd.prog.info? 5).map (fun i => (i.zero, i.size, i.bytes)) = some (some (.int .u8 0), 1, 1) := by kernel_rfl
theorem sizeBuilder : (Tryd.prog.info? 103).map (fun i => i.size) = some 2 := by kernel_rfl
theorem liesBuilder : liesAt Tryd.prog Tryd.prog.depth 103 (2 / Tryd.prog.cellsOf 103) 0 103 1 = true := by kernel_rfl

def KeptX (b : Nat) (w w' : World) : Prop := ∀ i cs t fr, w.heap[i]? = some (.cells cs t fr) → t ≠ 5 → i ≠ b → w'.heap[i]? = some (.cells cs t fr)
theorem KeptX.refl (b : Nat) (w : World) : KeptX b w w := fun _ _ _ _ h _ _ => h
theorem KeptX.trans {b : Nat} {w w1 w2 : World} (h : KeptX b w w1) (k : KeptX b w1 w2) : KeptX b w w2 := fun i cs t fr hi ht hb => k i cs t fr (h i cs t fr hi ht hb) ht hb
theorem KeptX.set (b o : Nat) (w : World) (v : Value) : KeptX b w (w.setCell ⟨b, o, none⟩ v) := fun i cs t fr hi _ hb => (Below.heap_setCell _ _ _ _ (fun e => hb (by simpa using e))).trans hi
theorem KeptX.alloc (b : Nat) (w : World) (o : Obj) : KeptX b w (w.alloc o) := fun i cs t fr hi _ _ => by
 have hlt : i < w.heap.size := (Array.getElem?_eq_some_iff.1 hi).1
 rw [Lib.alloc_old w o i hlt]; exact hi
theorem KeptX.grown {b B : Nat} {w w' : World} {v : Value} {n : Nat} {xs : List Value} (hown : w.ownsRow B 5 1 v n xs) (hg : w.grownBy w' v.ownBlock) : KeptX b w w' := fun i cs t fr hi ht _ => by
 have hlt : i < w.heap.size := (Array.getElem?_eq_some_iff.1 hi).1
 rw [hg.block i hlt (fun e => Lib.ownBlock_ne hown hi ht e.symm)]; exact hi

set_option maxHeartbeats 1000000 in
set_option maxRecDepth 100000 in
theorem copyCheck_used (b : Nat) (w : World) (h0 : w.cell? ⟨b, 0, none⟩ = some (.pointer (some ⟨b, 0, none⟩))) :
 Calls Tryd.prog 89 #[.pointer (some ⟨b, 0, none⟩)] w fun e w' => e = .returned (.tuple #[]) ∧ w' = w := by
 obtain ⟨j, hj, _⟩ := Option.map_eq_some_iff.1 sizeBuilder
 go_enter Tryd.func89, Tryd.ntmps89
 go_wp2
 rw [Lib.run_neq_ptr_same w _ Tryd.underlying100 hj]
 go_wp2
 go_end0
 exact ⟨rfl, rfl⟩

set_option maxHeartbeats 1000000 in
set_option maxRecDepth 100000 in
theorem copyCheck_fresh (b : Nat) (w : World) (h0 : w.cell? ⟨b, 0, none⟩ = some (.pointer none)) (hsh : w.shape? b = some (103, 2)) (hfz : w.frozen? ⟨b, 0, none⟩ = false) :
 Calls Tryd.prog 89 #[.pointer (some ⟨b, 0, none⟩)] w fun e w' => e = .returned (.tuple #[]) ∧ w' = w.setCell ⟨b, 0, none⟩ (.pointer (some ⟨b, 0, none⟩)) := by
 obtain ⟨j, hj, hjs⟩ := Option.map_eq_some_iff.1 sizeBuilder
 go_enter Tryd.func89, Tryd.ntmps89
 go_wp2
 rw [Lib.run_to_unsafe w ⟨b, 0, none⟩ Tryd.underlying100 Tryd.underlying159 hj (by rw [hjs]; decide) hsh (Nat.zero_lt_succ 1)]
 simp only [Result.andThen]
 rw [Oper.upon_value]
 go_wp2
 rw [run_callFunc_extern Tryd.func103 (by kernel_rfl) (by kernel_rfl) (by kernel_rfl) (e := Extern.AbiNoEscape.same) (by kernel_rfl)]
 rw [Lib.run_noEscape]
 simp only [Result.andThen]
 rw [Oper.upon_value]
 go_wp2
 rw [Lib.run_from_unsafe w ⟨b, 0, none⟩ Tryd.underlying159 Tryd.underlying100 hj hsh liesBuilder]
 simp only [Result.andThen]
 rw [Oper.upon_value]
 go_wp2
 go_end0
 exact ⟨rfl, rfl⟩

theorem copyCheck (B b : Nat) (bs : List Value) (w : World) (h : Lib.IsBuilder 103 5 B b bs w) :
 Calls Tryd.prog 89 #[.pointer (some ⟨b, 0, none⟩)] w fun e w' => e = .returned (.tuple #[]) ∧ (Lib.BuilderAt 103 5 B b (.pointer (some ⟨b, 0, none⟩)) bs w' ∧ Below B w w' ∧ KeptX b w w') := by
 rcases h with h | h
 · refine (copyCheck_fresh b w h.cell0 h.shape h.frozen0).mono ?_
   rintro e w' ⟨rfl, rfl⟩
   exact ⟨rfl, h.used _, (Below.refl B w).setCell (p := ⟨b, 0, none⟩) h.1 _, KeptX.set _ _ _ _⟩
 · refine (copyCheck_used b w h.cell0).mono ?_
   rintro e w' ⟨rfl, rfl⟩
   exact ⟨rfl, h, Below.refl B _, KeptX.refl _ _⟩

set_option maxHeartbeats 2000000 in
set_option maxRecDepth 100000 in
theorem writeByte (B b : Nat) (bs : List Value) (c : Int) (w : World) (h : Lib.IsBuilder 103 5 B b bs w) (hlen : bs.length + 1 ≤ 140737488355328) (hBw : B ≤ w.heap.size) :
 Calls Tryd.prog 63 #[.pointer (some ⟨b, 0, none⟩), .int .u8 c] w fun e w' => e = .returned .nilIface ∧ (Lib.BuilderAt 103 5 B b (.pointer (some ⟨b, 0, none⟩)) (bs ++ [.int .u8 c]) w' ∧ Below B w w' ∧ KeptX b w w') := by
 obtain ⟨i0, hi, hz0, hz1, hz2⟩ := info_parts infoByte
 go_enter Tryd.func63, Tryd.ntmps63
 go_wp2_with (go_at_call 89; refine (copyCheck B b bs _ h).mono ?_)
 rintro e w1 ⟨rfl, h1, hb1, hkx⟩
 obtain ⟨hB, v, hbk, hown, hne⟩ := h1
 have c0 : w1.cell? ⟨b, 0, none⟩ = some (.pointer (some ⟨b, 0, none⟩)) := by rw [Lib.cell_of_heap hbk]; rfl
 have c1 : w1.cell? ⟨b, 1, none⟩ = some v := by rw [Lib.cell_of_heap hbk]; rfl
 go_wp2_with (at_builtin; refine wpList_append_own _ rfl _ _ 101 rfl B 5 i0 (.int .u8 0) 1 1 Tryd.underlying101 hi hz0 hz1 hz2 rfl (by decide) _ _ _ rfl (hown.alloc _) ⟨w1.heap.size, 0, none⟩ 1 1 [.int .u8 c] rfl rfl ?c1 ?c2 ?c3 ?c4 ?c5 ?_)
 case c1 =>
  intro j u hj
  match j, hj with
  | 0, hj => simp at hj; subst hj; simp [Addr.add]
 case c2 => intro u hu; simp at hu; subst hu; rfl
 case c3 => unfold maxLen; omega
 case c4 => omega
 case c5 => have := hb1.size; simp; omega
 intro v' w2 hown' hgrow _
 have hlt : b < w1.heap.size := by
  rcases Nat.lt_or_ge b w1.heap.size with h' | h'
  · exact h'
  · simp [Array.getElem?_eq_none h'] at hbk
 have hb2 : w2.heap[b]? = some (.cells #[.pointer (some ⟨b, 0, none⟩), v] 103 (0, 0)) := by
  rw [hgrow.block b (by simp; omega) (fun e => hne e.symm), Lib.alloc_old w1 _ b hlt]
  exact hbk
 have d0 : w2.cell? ⟨b, 0, none⟩ = some (.pointer (some ⟨b, 0, none⟩)) := by rw [Lib.cell_of_heap hb2]; rfl
 have d1 : w2.cell? ⟨b, 1, none⟩ = some v := by rw [Lib.cell_of_heap hb2]; rfl
 have f1 : w2.frozen? ⟨b, 1, none⟩ = false := Lib.frozen_of_heap hb2 1
 obtain ⟨g, cap, rfl⟩ : ∃ g cap, v' = .slice (some ⟨g, 0, none⟩) (bs.length + 1) cap := by
  rcases hown'.2 with ⟨_, h0⟩ | ⟨g, cap, cur, hv, _⟩
  · omega
  · exact ⟨g, cap, hv⟩
 go_wp2
 go_ret
 refine ⟨rfl, ?_, ?_, ((hkx.trans (KeptX.alloc _ _ _)).trans (KeptX.grown (hown.alloc _) hgrow)).trans (KeptX.set _ _ _ _)⟩
 · exact Lib.BuilderAt.put (T := 103) (e := 5) hB hb2 (bs' := bs ++ [.int .u8 c]) (by simpa using hown') (by decide)
 · exact ((hb1.alloc (by have := hb1.size; omega) _).grown hgrow (by have := hb1.size; simp; omega) (fun k hk => (hown.lt k hk).1)).setCell (p := ⟨b, 1, none⟩) hB _

set_option maxHeartbeats 2000000 in
set_option maxRecDepth 100000 in
theorem writeString (B b : Nat) (bs : List Value) (s : ByteArray) (w : World) (h : Lib.IsBuilder 103 5 B b bs w) (hlen : bs.length + s.size ≤ 140737488355328) (hBw : B ≤ w.heap.size) :
 Calls Tryd.prog 64 #[.pointer (some ⟨b, 0, none⟩), .string s] w fun e w' => e = .returned (.tuple #[.int .i64 s.size, .nilIface]) ∧ (Lib.BuilderAt 103 5 B b (.pointer (some ⟨b, 0, none⟩)) (bs ++ Lib.strCells s) w' ∧ Below B w w' ∧ KeptX b w w') := by
 obtain ⟨i0, hi, hz0, hz1, hz2⟩ := info_parts infoByte
 go_enter Tryd.func64, Tryd.ntmps64
 go_wp2_with (go_at_call 89; refine (copyCheck B b bs _ h).mono ?_)
 rintro e w1 ⟨rfl, h1, hb1, hkx⟩
 obtain ⟨hB, v, hbk, hown, hne⟩ := h1
 have c0 : w1.cell? ⟨b, 0, none⟩ = some (.pointer (some ⟨b, 0, none⟩)) := by rw [Lib.cell_of_heap hbk]; rfl
 have c1 : w1.cell? ⟨b, 1, none⟩ = some v := by rw [Lib.cell_of_heap hbk]; rfl
 go_wp2_with (at_builtin; refine Lib.wpList_append_own_string _ rfl _ _ 101 9 rfl B 5 i0 Tryd.underlying101 Tryd.underlying9 hi hz0 hz1 hz2 _ _ _ rfl hown s rfl ?c3 ?c4 ?c5 ?_)
 case c3 => unfold maxLen; omega
 case c4 => omega
 case c5 => have := hb1.size; omega
 intro v' w2 hown' hgrow _
 have hlt : b < w1.heap.size := by
  rcases Nat.lt_or_ge b w1.heap.size with h' | h'
  · exact h'
  · simp [Array.getElem?_eq_none h'] at hbk
 have hb2 : w2.heap[b]? = some (.cells #[.pointer (some ⟨b, 0, none⟩), v] 103 (0, 0)) := by
  rw [hgrow.block b hlt (fun e => hne e.symm)]
  exact hbk
 have d0 : w2.cell? ⟨b, 0, none⟩ = some (.pointer (some ⟨b, 0, none⟩)) := by rw [Lib.cell_of_heap hb2]; rfl
 have d1 : w2.cell? ⟨b, 1, none⟩ = some v := by rw [Lib.cell_of_heap hb2]; rfl
 have f1 : w2.frozen? ⟨b, 1, none⟩ = false := Lib.frozen_of_heap hb2 1
 obtain ⟨ao, n', cap, rfl⟩ : ∃ ao n' cap, v' = .slice ao n' cap := by
  rcases hown'.2 with ⟨hv, _⟩ | ⟨g, cap, cur, hv, _⟩
  · exact ⟨_, _, _, hv⟩
  · exact ⟨_, _, _, hv⟩
 go_wp2
 go_ret2
 refine ⟨rfl, ?_, ?_, (hkx.trans (KeptX.grown hown hgrow)).trans (KeptX.set _ _ _ _)⟩
 · exact Lib.BuilderAt.put (T := 103) (e := 5) hB hb2 (bs' := bs ++ Lib.strCells s) (by simpa [Lib.strCells_length] using hown') (by decide)
 · exact (hb1.grown hgrow (by have := hb1.size; omega) (fun k hk => (hown.lt k hk).1)).setCell (p := ⟨b, 1, none⟩) hB _

set_option maxHeartbeats 1000000 in
set_option maxRecDepth 100000 in
theorem string_some (B b : Nat) (l : List UInt8) (w : World) (h : Lib.IsBuilder 103 5 B b (Lib.byteCells l) w) (h0 : l ≠ []) :
 Calls Tryd.prog 65 #[.pointer (some ⟨b, 0, none⟩)] w fun e w' => e = .returned (.string ⟨l.toArray⟩) ∧ Below B w w' := by
 obtain ⟨p, hB, v, hbk, hown, hne⟩ : ∃ p, Lib.BuilderAt 103 5 B b p (Lib.byteCells l) w := by
  rcases h with h | h
  · exact ⟨_, h⟩
  · exact ⟨_, h⟩
 have hl0 : l.length ≠ 0 := by simpa using h0
 rw [Lib.byteCells_length] at hown
 obtain ⟨g, cap, cur, rfl, hbg, hg, hnc, hcm, hcs, htake⟩ : ∃ g cap cur, v = .slice (some ⟨g, 0, none⟩) l.length cap ∧ B ≤ g ∧ w.heap[g]? = some (.cells cur 5 (0, 0)) ∧ l.length ≤ cap ∧ cap ≤ maxLen ∧ cur.size = cap * 1 ∧ cur.toList.take (l.length * 1) = Lib.byteCells l := by
  rcases hown.2 with ⟨_, hz⟩ | ⟨g, cap, cur, hv, r⟩
  · exact absurd hz hl0
  · exact ⟨g, cap, cur, hv, r⟩
 have c1 : w.drew.cell? ⟨b, 1, none⟩ = some (.slice (some ⟨g, 0, none⟩) l.length cap) := by
  have : w.drew.heap[b]? = some (.cells #[p, .slice (some ⟨g, 0, none⟩) l.length cap] 103 (0, 0)) := hbk
  rw [Lib.cell_of_heap this]; rfl
 have hSD : (Builtin.unsafeSliceData_ #[101] 135 #[.slice (some ⟨g, 0, none⟩) l.length cap]).run Tryd.prog w.drew = .ok (.pointer (some ⟨g, 0, none⟩)) w.drew :=
  Lib.run_unsafeSliceData_row _ _ _ _ _ _ (by omega)
 have hUS : (Builtin.unsafeString_ #[135, 3] 9 #[.pointer (some ⟨g, 0, none⟩), .int .i64 l.length]).run Tryd.prog w.drew = .ok (.string ⟨l.toArray⟩) (w.drew.freeze ⟨g, 0, none⟩ l.length) := by
  refine Lib.run_unsafeString_row w.drew 135 3 9 5 Tryd.underlying135 (by kernel_rfl) g cur.size (by have hg' : w.drew.heap[g]? = some (.cells cur 5 (0, 0)) := hg; simp [World.shape?, hg']) l h0 (by omega) (by unfold maxLen at hcm; omega) ?_
  intro j x hx
  have := hown.cells (g := g) rfl j (.int .u8 x.toNat) (by simp [Lib.byteCells, hx])
  exact this
 go_enter Tryd.func65, Tryd.ntmps65
 go_wp2
 go_region
 all_goals (go_wp2; go_ret; exact ⟨rfl, Lib.below_freeze (Below.drew (Below.refl B w)) (p := ⟨g, 0, none⟩) hbg _⟩)


theorem unsafeString_none (W : World) (q : Option Addr) : (Builtin.unsafeString_ #[135, 3] 9 #[.pointer q, .int .i64 0]).run Tryd.prog W = .ok (.string .empty) W :=
 Lib.run_unsafeString_none W _ _ _ q

set_option maxHeartbeats 2000000 in
set_option maxRecDepth 100000 in
theorem string_nil (B b : Nat) (p : Value) (w : World) (hbk : w.heap[b]? = some (.cells #[p, .slice none 0 0] 103 (0, 0))) :
 Calls Tryd.prog 65 #[.pointer (some ⟨b, 0, none⟩)] w fun e w' => e = .returned (.string ⟨#[]⟩) ∧ Below B w w' := by
 have hUS := unsafeString_none
 have c1 : w.drew.cell? ⟨b, 1, none⟩ = some (.slice none 0 0) := by
  have : w.drew.heap[b]? = some (.cells #[p, .slice none 0 0] 103 (0, 0)) := hbk
  rw [Lib.cell_of_heap this]; rfl
 have hSD : (Builtin.unsafeSliceData_ #[101] 135 #[.slice none 0 0]).run Tryd.prog w.drew = .ok (.pointer none) w.drew := rfl
 go_enter Tryd.func65, Tryd.ntmps65
 go_wp2
 go_region
 all_goals (go_wp2; go_ret; exact ⟨rfl, Below.drew (Below.refl B w)⟩)

set_option maxHeartbeats 2000000 in
set_option maxRecDepth 100000 in
theorem string_noroom (B b g : Nat) (p : Value) (cur : Array Value) (w : World) (hBw : B ≤ w.heap.size) (hbk : w.heap[b]? = some (.cells #[p, .slice (some ⟨g, 0, none⟩) 0 0] 103 (0, 0))) (hg : w.heap[g]? = some (.cells cur 5 (0, 0))) :
 Calls Tryd.prog 65 #[.pointer (some ⟨b, 0, none⟩)] w fun e w' => e = .returned (.string ⟨#[]⟩) ∧ Below B w w' := by
 have hUS := unsafeString_none
 have hlt : b < w.heap.size := by
  rcases Nat.lt_or_ge b w.heap.size with h' | h'
  · exact h'
  · simp [Array.getElem?_eq_none h'] at hbk
 have c1 : w.drew.cell? ⟨b, 1, none⟩ = some (.slice (some ⟨g, 0, none⟩) 0 0) := by
  have : w.drew.heap[b]? = some (.cells #[p, .slice (some ⟨g, 0, none⟩) 0 0] 103 (0, 0)) := hbk
  rw [Lib.cell_of_heap this]; rfl
 have hSD : (Builtin.unsafeSliceData_ #[101] 135 #[.slice (some ⟨g, 0, none⟩) 0 0]).run Tryd.prog w.drew = .ok (.pointer (some ⟨w.drew.heap.size, 0, none⟩)) (w.drew.alloc (.view ⟨g, 0, none⟩ 5)) :=
  Lib.run_unsafeSliceData_zero w.drew _ _ 5 Tryd.underlying135 ⟨g, 0, none⟩ 0 (5, cur.size) (by have hg' : w.drew.heap[g]? = some (.cells cur 5 (0, 0)) := hg; simp [World.shape?, hg'])
 have c2 : (w.drew.alloc (.view ⟨g, 0, none⟩ 5)).cell? ⟨b, 1, none⟩ = some (.slice (some ⟨g, 0, none⟩) 0 0) := by
  have : (w.drew.alloc (.view ⟨g, 0, none⟩ 5)).heap[b]? = _ := (Lib.alloc_old w.drew _ b hlt).trans hbk
  rw [Lib.cell_of_heap this]; rfl
 have c3 : (w.alloc (.view ⟨g, 0, none⟩ 5)).drew.cell? ⟨b, 1, none⟩ = some (.slice (some ⟨g, 0, none⟩) 0 0) := c2
 have c0 : w.cell? ⟨b, 1, none⟩ = some (.slice (some ⟨g, 0, none⟩) 0 0) := c1
 go_enter Tryd.func65, Tryd.ntmps65
 go_wp2
 go_region
 all_goals (go_wp2; go_ret; exact ⟨rfl, (Below.drew (Below.refl B w)).alloc hBw _⟩)

set_option maxHeartbeats 2000000 in
set_option maxRecDepth 100000 in
theorem string_room (B b g cap : Nat) (p : Value) (w : World) (hc0 : cap ≠ 0) (hbk : w.heap[b]? = some (.cells #[p, .slice (some ⟨g, 0, none⟩) 0 cap] 103 (0, 0))) :
 Calls Tryd.prog 65 #[.pointer (some ⟨b, 0, none⟩)] w fun e w' => e = .returned (.string ⟨#[]⟩) ∧ Below B w w' := by
 have hUS := unsafeString_none
 have c1 : w.drew.cell? ⟨b, 1, none⟩ = some (.slice (some ⟨g, 0, none⟩) 0 cap) := by
  have : w.drew.heap[b]? = some (.cells #[p, .slice (some ⟨g, 0, none⟩) 0 cap] 103 (0, 0)) := hbk
  rw [Lib.cell_of_heap this]; rfl
 have hSD : (Builtin.unsafeSliceData_ #[101] 135 #[.slice (some ⟨g, 0, none⟩) 0 cap]).run Tryd.prog w.drew = .ok (.pointer (some ⟨g, 0, none⟩)) w.drew :=
  Lib.run_unsafeSliceData_row _ _ _ _ _ _ hc0
 clear hc0
 go_enter Tryd.func65, Tryd.ntmps65
 go_wp2
 go_region
 all_goals (go_wp2; go_ret; exact ⟨rfl, Below.drew (Below.refl B w)⟩)

theorem string_empty (B b : Nat) (w : World) (h : Lib.IsBuilder 103 5 B b [] w) (hBw : B ≤ w.heap.size) :
 Calls Tryd.prog 65 #[.pointer (some ⟨b, 0, none⟩)] w fun e w' => e = .returned (.string ⟨#[]⟩) ∧ Below B w w' := by
 obtain ⟨p, hB, v, hbk, hown, hne⟩ : ∃ p, Lib.BuilderAt 103 5 B b p [] w := by
  rcases h with h | h
  · exact ⟨_, h⟩
  · exact ⟨_, h⟩
 rcases hown.2 with ⟨rfl, _⟩ | ⟨g, cap, cur, rfl, hbg, hg, _, _, _, _⟩
 · exact string_nil B b p w hbk
 · by_cases hc0 : cap = 0
   · subst hc0
     exact string_noroom B b g p cur w hBw hbk hg
   · exact string_room B b g cap p w hc0 hbk

theorem string_any (B b : Nat) (l : List UInt8) (w : World) (h : Lib.IsBuilder 103 5 B b (Lib.byteCells l) w) (hBw : B ≤ w.heap.size) :
 Calls Tryd.prog 65 #[.pointer (some ⟨b, 0, none⟩)] w fun e w' => e = .returned (.string ⟨l.toArray⟩) ∧ Below B w w' := by
 cases l with
 | nil => exact string_empty B b w h hBw
 | cons x r => exact string_some B b (x :: r) w h (by simp)

end Go.Proofs.YthjhaogfpdkhbaaDoor.H
/- words.Quote: what it answers, for every text that it may quote. -/
namespace Go.Proofs.YthjhaogfpdkhbaaDoor.H
open Go.RowKit

def BU (B b : Nat) (l : List UInt8) (w : World) : Prop := Lib.IsBuilder 103 5 B b (Lib.byteCells l) w
theorem wByte (B b : Nat) (l : List UInt8) (c : UInt8) (w : World) (h : BU B b l w) (hlen : l.length + 1 ≤ 140737488355328) (hBw : B ≤ w.heap.size) :
 Calls Tryd.prog 63 #[.pointer (some ⟨b, 0, none⟩), .int .u8 c.toNat] w fun e w' => e = .returned .nilIface ∧ BU B b (l ++ [c]) w' ∧ Below B w w' ∧ KeptX b w w' := by
 refine (writeByte B b (Lib.byteCells l) c.toNat w h (by rw [Lib.byteCells_length]; exact hlen) hBw).mono ?_
 rintro e w' ⟨rfl, h1, hb, hkx⟩
 refine ⟨rfl, .inr ?_, hb, hkx⟩
 have : Lib.byteCells (l ++ [c]) = Lib.byteCells l ++ [.int .u8 c.toNat] := by simp [Lib.byteCells]
 rw [this]; exact h1
theorem wByteN (B b : Nat) (l : List UInt8) (n : Nat) (hn : n < 256) (w : World) (h : BU B b l w) (hlen : l.length + 1 ≤ 140737488355328) (hBw : B ≤ w.heap.size) :
 Calls Tryd.prog 63 #[.pointer (some ⟨b, 0, none⟩), .int .u8 n] w fun e w' => e = .returned .nilIface ∧ BU B b (l ++ [UInt8.ofNat n]) w' ∧ Below B w w' ∧ KeptX b w w' := by
 have := wByte B b l (UInt8.ofNat n) w h hlen hBw
 rw [UInt8.toNat_ofNat_of_lt' hn] at this
 exact this
theorem wStr (B b : Nat) (l : List UInt8) (s : ByteArray) (w : World) (h : BU B b l w) (hlen : l.length + s.size ≤ 140737488355328) (hBw : B ≤ w.heap.size) :
 Calls Tryd.prog 64 #[.pointer (some ⟨b, 0, none⟩), .string s] w fun e w' => e = .returned (.tuple #[.int .i64 s.size, .nilIface]) ∧ BU B b (l ++ s.data.toList) w' ∧ Below B w w' ∧ KeptX b w w' := by
 refine (writeString B b (Lib.byteCells l) s w h (by rw [Lib.byteCells_length]; exact hlen) hBw).mono ?_
 rintro e w' ⟨rfl, h1, hb, hkx⟩
 refine ⟨rfl, .inr ?_, hb, hkx⟩
 have : Lib.byteCells (l ++ s.data.toList) = Lib.byteCells l ++ Lib.strCells s := by simp [Lib.byteCells, Lib.strCells]
 rw [this]; exact h1
theorem wText (B b : Nat) (l : List UInt8) (w : World) (h : BU B b l w) (hBw : B ≤ w.heap.size) :
 Calls Tryd.prog 65 #[.pointer (some ⟨b, 0, none⟩)] w fun e w' => e = .returned (.string ⟨l.toArray⟩) ∧ Below B w w' := string_any B b l w h hBw
theorem BU_new (w : World) : BU w.heap.size w.heap.size [] (w.alloc (.cells #[.pointer none, .slice none 0 0] 103)) := Lib.fresh_isBuilder _ _ w
theorem BU_drew {B b : Nat} {l : List UInt8} {w : World} (h : BU B b l w) : BU B b l w.drew := by
 rcases h with h | h
 · exact .inl h.drew
 · exact .inr h.drew

theorem BU_lt {B b : Nat} {l : List UInt8} {w : World} (h : BU B b l w) : b < w.heap.size := by
 rcases h with h | h
 · exact h.lt
 · exact h.lt
theorem BA_below {B b : Nat} {p : Value} {l : List Value} {w w' : World} (h : Lib.BuilderAt 103 5 B b p l w) (hb : Below w.heap.size w w') : Lib.BuilderAt 103 5 B b p l w' := by
 have hlt := h.lt
 obtain ⟨h1, v, h2, h3, h4⟩ := h
 exact ⟨h1, v, (hb.block b hlt).trans h2, h3.kept ⟨hb.os, hb.tape, hb.output, hb.size, fun i hi _ => hb.block i hi⟩ (row := none) (by cases v.ownBlock <;> simp), h4⟩
theorem BU_below {B b : Nat} {l : List UInt8} {w w' : World} (h : BU B b l w) (hb : Below w.heap.size w w') : BU B b l w' := by
 rcases h with h | h
 · exact .inl (BA_below h hb)
 · exact .inr (BA_below h hb)
theorem below_drew {B : Nat} {w W : World} (h : Below B w W) : Below B w W.drew := ⟨h.os, h.tape, h.output, h.size, h.block⟩
theorem wrapU8 (x : Int) (h0 : 0 ≤ x) (h1 : x ≤ 255) : IntKind.u8.wrap x = x := by
 simp only [IntKind.wrap, IntKind.bits, IntKind.signed]
 simp
 omega
set_option maxHeartbeats 4000000 in
set_option maxRecDepth 100000 in
theorem Quote_calls (s : ByteArray) (w : World) (hs : 4 * s.size + 2 ≤ 140737488355328) :
 Calls Tryd.prog 60 #[.string s] w fun e w' => e = .returned (.string ⟨(P.quoteL s.data.toList).toArray⟩) ∧ Below w.heap.size w w' := by
 have h1 := BU_new w
 go_enter Tryd.func60, Tryd.ntmps60
 go_wp2_with (go_at_call 63; refine (wByteN w.heap.size w.heap.size [] 34 (by omega) _ h1 (by simp) (by simp)).mono ?_; rintro e w1 ⟨rfl, hb1, hw1, _⟩)
 go_loopw [9] (fun i wr => ∃ k : Nat, k ≤ s.size ∧ i = .int .i64 k ∧ BU w.heap.size w.heap.size (P.quoteTo (s.data.toList.take k)) wr ∧ Below w.heap.size w wr) (fun i _ => s.size - (intOf i).toNat)
 case atStart => exact ⟨0, Nat.zero_le _, rfl, hb1, ((Below.refl _ w).alloc (Nat.le_refl _) _).trans hw1⟩
 case round =>
  clear h1 hb1 hw1
  obtain ⟨k, hk, rfl, hbu, hbe⟩ := hrel
  have hlen := P.quoteTo_length (s.data.toList.take k)
  have htl := P.take_len s k
  have hsz := hbe.size
  by_cases hlt : k < s.size
  · have hsn := P.quoteTo_snoc (s.data.toList.take k) s[k]
    have hts := P.take_snoc s k hlt
    rw [← hts] at hsn
    have HS := Lib.hid hsn
    clear hsn hts
    have hcb := s[k].toNat_lt
    generalize hcc : s[k] = c at *
    have e0 : ∀ (n : Nat) (hn : n < 256), (c = UInt8.ofNat n ↔ c.toNat = n) := fun n hn => ⟨fun h => by rw [h, UInt8.toNat_ofNat_of_lt' hn], fun h => UInt8.toNat_inj.mp (by rw [h, UInt8.toNat_ofNat_of_lt' hn])⟩
    have x34 := e0 34 (by omega)
    have x92 := e0 92 (by omega)
    have x10 := e0 10 (by omega)
    clear e0
    have hext : (s.extract k (k + 1)).data.toList = [c] := by rw [P.extract_one s k hlt, hcc]
    have hex1 := P.size_one s k hlt
    have HC := Lib.hid hcc
    have HX := Lib.hid hext
    have HX1 := Lib.hid hex1
    clear hext hex1
    by_cases hc1 : c.toNat = 34 ∨ c.toNat = 92
    · have hq := P.qb_esc c (by rcases hc1 with h | h; exact .inl (x34.mpr h); exact .inr (x92.mpr h))
      have HQ := Lib.hid hq
      have ee : ((c.toNat : Int) == 34) = true ∨ ((c.toNat : Int) == 34) = false ∧ ((c.toNat : Int) == 92) = true := by
       rcases hc1 with h | h
       · exact .inl (beq_iff_eq.2 (by omega))
       · exact .inr ⟨beq_eq_false_iff_ne.2 (by omega), beq_iff_eq.2 (by omega)⟩
      clear hq x34 x92 x10 hc1
      rcases ee with e1 | ⟨e1, e2⟩
      all_goals
       go_wp2_with fail
       refine (wStr w.heap.size w.heap.size _ _ _ hbu ?_ hsz).mono ?_
       · rw [P.size_append, HX1.out]
         have : (⟨#[92]⟩ : ByteArray).size = 1 := rfl
         omega
       rintro e w2 ⟨rfl, hb2, hw2, _⟩
       go_wp2_with fail
       go_roundw
       case measure => simp [intOf]; omega
       case rel =>
        refine ⟨k + 1, by omega, by go_num, ?_, hbe.trans hw2⟩
        rw [HS.out, HQ.out]
        have hfin : (({ data := #[92] } : ByteArray) ++ s.extract k (k + 1)).data.toList = [92, c] := by rw [P.data_append, HX.out]; rfl
        rw [hfin] at hb2
        exact hb2
    · have f1 : ((c.toNat : Int) == 34) = false := beq_eq_false_iff_ne.2 (by omega)
      have f2 : ((c.toNat : Int) == 92) = false := beq_eq_false_iff_ne.2 (by omega)
      have hn : ¬ (c = 34 ∨ c = 92) := fun h => hc1 (h.imp x34.mp x92.mp)
      by_cases hc2 : c.toNat = 10
      · have f3 : ((c.toNat : Int) == 10) = true := beq_iff_eq.2 (by omega)
        have HQ := Lib.hid (P.qb_nl c hn (x10.mpr hc2))
        clear x34 x92 x10 hc1 hc2 hn
        go_wp2_with fail
        refine (wStr w.heap.size w.heap.size _ _ _ hbu ?_ hsz).mono ?_
        · have : (⟨#[92, 110]⟩ : ByteArray).size = 2 := rfl
          omega
        rintro e w2 ⟨rfl, hb2, hw2, _⟩
        go_wp2_with fail
        go_roundw
        case measure => simp [intOf]; omega
        case rel =>
         refine ⟨k + 1, by omega, by go_num, ?_, hbe.trans hw2⟩
         rw [HS.out, HQ.out]
         exact hb2
      · have f3 : ((c.toNat : Int) == 10) = false := beq_eq_false_iff_ne.2 (by omega)
        have hn2 : ¬ c = 10 := fun h => hc2 (x10.mp h)
        by_cases hc3 : c.toNat < 32 ∨ 126 < c.toNat
        · have HQ := Lib.hid (P.qb_hex c hn hn2 (by rcases hc3 with h | h; exact .inl (UInt8.lt_iff_toNat_lt.mpr h); exact .inr (UInt8.lt_iff_toNat_lt.mpr h)))
          have ee : decide ((c.toNat : Int) < 32) = true ∨ decide ((c.toNat : Int) < 32) = false ∧ decide (126 < (c.toNat : Int)) = true := by
           rcases hc3 with h | h
           · exact .inl (by simp; omega)
           · rcases Nat.lt_or_ge c.toNat 32 with h' | h'
             · exact .inl (by simp; omega)
             · exact .inr ⟨by simp; omega, by simp; omega⟩
          clear x34 x92 x10 hc1 hc2 hn hn2 hc3
          have g1 : IntKind.u8.wrap ((c.toNat : Int) / 16 + 1) = (c.toNat : Int) / 16 + 1 := wrapU8 _ (by omega) (by omega)
          have g2 : (0 : Int) ≤ (c.toNat : Int) / 16 := by omega
          have g3 : (c.toNat : Int) / 16 + 1 ≤ 16 := by omega
          have g4 : (c.toNat : Int) / 16 ≤ (c.toNat : Int) / 16 + 1 := by omega
          have g5 : ((c.toNat : Int) / 16).toNat = c.toNat / 16 := by omega
          have g6 : ((c.toNat : Int) / 16 + 1).toNat = c.toNat / 16 + 1 := by omega
          have g7 : ¬ 9223372036854775807 < 2 + (min (c.toNat / 16 + 1) 16 - c.toNat / 16) := by omega
          have b1 : bits .and .u8 (c.toNat : Int) 15 = (c.toNat : Int) % 16 := u8_and15 _ (by omega) (by omega)
          have b2 : IntKind.u8.wrap ((c.toNat : Int) % 16 + 1) = (c.toNat : Int) % 16 + 1 := wrapU8 _ (by omega) (by omega)
          have b3 : (0 : Int) ≤ (c.toNat : Int) % 16 := by omega
          have b4 : (c.toNat : Int) % 16 + 1 ≤ 16 := by omega
          have b5 : (c.toNat : Int) % 16 ≤ (c.toNat : Int) % 16 + 1 := by omega
          have b6 : ((c.toNat : Int) % 16).toNat = c.toNat % 16 := by omega
          have b7 : ((c.toNat : Int) % 16 + 1).toNat = c.toNat % 16 + 1 := by omega
          have b8 : ¬ 9223372036854775807 < 2 + (min (c.toNat / 16 + 1) 16 - c.toNat / 16) + (min (c.toNat % 16 + 1) 16 - c.toNat % 16) := by omega
          rcases ee with e1 | ⟨e1, e2⟩
          all_goals
           go_wp2_with fail
           go_still_tail 14, (by kernel_rfl)
           change wpList _ _ _ _ _ wr.drew
           go_wp2_with fail
           refine (wStr w.heap.size w.heap.size _ _ _ (BU_drew hbu) ?_ hsz).mono ?_
           · rw [P.size_append, P.size_append]
             have q1 := P.size_one P.digits (c.toNat / 16) (by show c.toNat / 16 < 16; omega)
             have q2 := P.size_one P.digits (c.toNat % 16) (by show c.toNat % 16 < 16; omega)
             unfold P.digits at q1 q2
             have : (⟨#[92, 120]⟩ : ByteArray).size = 2 := rfl
             omega
           rintro e w2 ⟨rfl, hb2, hw2, _⟩
           clear g1 g2 g3 g4 g5 g6 g7 b1 b2 b3 b4 b5 b6 b7 b8
           go_wp2_with fail
           go_roundw
           case measure => simp [intOf]; omega
           case rel =>
            refine ⟨k + 1, by omega, by go_num, ?_, (below_drew hbe).trans hw2⟩
            rw [HS.out, HQ.out]
            rw [P.data_append, P.data_append] at hb2
            have d1 := P.digit_at (c.toNat / 16) (by omega)
            have d2 := P.digit_at (c.toNat % 16) (by omega)
            have d3 : P.quoteTo (s.data.toList.take k) ++ [92, 120, P.hexd (c.toNat / 16), P.hexd (c.toNat % 16)] = P.quoteTo (s.data.toList.take k) ++ ([92, 120] ++ (P.digits.extract (c.toNat / 16) (c.toNat / 16 + 1)).data.toList ++ (P.digits.extract (c.toNat % 16) (c.toNat % 16 + 1)).data.toList) := by rw [d1, d2]; rfl
            rw [d3]
            exact hb2
        · have HQ := Lib.hid (P.qb_one c hn hn2 (fun h => hc3 (h.imp UInt8.lt_iff_toNat_lt.mp UInt8.lt_iff_toNat_lt.mp)))
          have f4 : decide ((c.toNat : Int) < 32) = false := by simp; omega
          have f5 : decide (126 < (c.toNat : Int)) = false := by simp; omega
          clear x34 x92 x10 hc1 hc2 hn hn2 hc3
          go_wp2_with fail
          refine (wByte w.heap.size w.heap.size _ c _ hbu (by omega) hsz).mono ?_
          rintro e w2 ⟨rfl, hb2, hw2, _⟩
          go_wp2_with fail
          go_roundw
          case measure => simp [intOf]; omega
          case rel =>
           refine ⟨k + 1, by omega, by go_num, ?_, hbe.trans hw2⟩
           rw [HS.out, HQ.out]
           exact hb2
  · go_wp2_with fail
    refine (wByteN w.heap.size w.heap.size _ 34 (by omega) _ hbu (by omega) hsz).mono ?_
    rintro e w2 ⟨rfl, hb2, hw2, _⟩
    go_wp2_with fail
    refine (wText w.heap.size w.heap.size _ _ hb2 (by have := hw2.size; omega)).mono ?_
    rintro e w3 ⟨rfl, hw3⟩
    go_wp2
    go_ret
    have hfin : P.quoteTo (s.data.toList.take k) ++ [UInt8.ofNat 34] = P.quoteL s.data.toList := by
     obtain rfl : k = s.size := by omega
     rw [P.take_all]; rfl
    refine ⟨?_, (hbe.trans hw2).trans hw3⟩
    show Ending.returned (.string ⟨(P.quoteTo (s.data.toList.take k) ++ [UInt8.ofNat 34]).toArray⟩) = _
    rw [hfin]
end Go.Proofs.YthjhaogfpdkhbaaDoor.H
/- words.Write: what it answers, for all words that it may write. -/
namespace Go.Proofs.YthjhaogfpdkhbaaDoor.H
open Go.RowKit YthjhaogfpdkhbaaDoorW.PrintWords YthjhaogfpdkhbaaDoorW.PrintLast YthjhaogfpdkhbaaDoorW.PrintMore
open B

theorem bt_eq (s : ByteArray) (k : Nat) (h : k < s.size) : bt s (k : Int) = (s[k].toNat : Int) := by
 have := bt_at s (k : Int) (by simpa using h)
 simpa using this.symm
theorem plain_f (s : ByteArray) (k : Nat) (h : k < s.size) : words_plain.f (bt s (k : Int)) = some (P.plainB s[k]) := by
 rw [bt_eq s k h]
 unfold words_plain.f P.plainB
 have h1 : (32 < s[k]) ↔ ((s[k].toNat : Int) > 32) := by rw [UInt8.lt_iff_toNat_lt]; simp; omega
 have h2 : (s[k] < 127) ↔ ((s[k].toNat : Int) < 127) := by rw [UInt8.lt_iff_toNat_lt]; simp; omega
 have h3 : (s[k] == 34) = ((s[k].toNat : Int) == 34) := by
  rw [Bool.eq_iff_iff, beq_iff_eq, beq_iff_eq, ← UInt8.toNat_inj]
  simp; omega
 by_cases c1 : (s[k].toNat : Int) > 32
 · by_cases c2 : (s[k].toNat : Int) < 127
   · rw [if_pos c1, if_pos c2, decide_eq_true (h1.mpr c1), decide_eq_true (h2.mpr c2), h3]; simp [bne]
   · rw [if_pos c1, if_neg c2, decide_eq_false (fun h => c2 (h2.mp h))]; simp
 · rw [if_neg c1, decide_eq_false (fun h => c1 (h1.mp h))]; simp
theorem Plain_l (s : ByteArray) (hs : s.size ≤ 140737488355328) (d : Nat) : ∀ i : Nat, s.size - i = d → i ≤ s.size → words_Plain.l0 (d + 1) s (s.size : Int) (i : Int) = some ((s.data.toList.drop i).all P.plainB && P.noHash s.data.toList) := by
 induction d with
 | zero =>
  intro i hi hle
  have : i = s.size := by omega
  subst this
  simp only [words_Plain.l0]
  rw [if_neg (by omega), List.drop_of_length_le (by simp)]
  cases hd : s.data.toList with
  | nil =>
   have : s.toList = [] := (P.toList_data s).trans hd
   rw [if_pos this]; rfl
  | cons c r =>
   have h0 : 0 < s.size := by
    have : s.data.toList.length = s.size := by simp
    rw [hd] at this; simp at this; omega
   have hne : ¬ s.toList = [] := by
    intro h
    rw [P.toList_data, hd] at h; cases h
   rw [if_neg hne, if_pos (by omega)]
   have hb := bt_eq s 0 h0
   have h00 : s[0] = c := by
    have : s.data.toList[0]? = some c := by rw [hd]; rfl
    have h2 : s.data.toList[0]? = some s[0] := by rw [List.getElem?_eq_getElem (by simpa using h0)]; rfl
    rw [h2] at this; exact Option.some.inj this
   rw [show (0 : Int) = ((0 : Nat) : Int) from rfl, hb, h00]
   have : (c == 35) = ((c.toNat : Int) == 35) := by
    rw [Bool.eq_iff_iff, beq_iff_eq, beq_iff_eq, ← UInt8.toNat_inj]; simp; omega
   simp [P.noHash, bne, this]
 | succ d ih =>
  intro i hi hle
  have hlt : i < s.size := by omega
  rw [words_Plain.l0]
  rw [if_pos (by omega), if_pos (by omega), if_pos (by omega), plain_f s i hlt]
  simp only [Option.bind_some]
  have hdr : s.data.toList.drop i = s[i] :: s.data.toList.drop (i + 1) := by rw [List.drop_eq_getElem_cons (by simpa using hlt)]; rfl
  rw [hdr, List.all_cons]
  cases hp : P.plainB s[i] with
  | false => simp
  | true =>
   rw [if_pos rfl]
   have hw : wrap64 ((i : Int) + 1) = ((i + 1 : Nat) : Int) := by unfold wrap64; omega
   rw [hw, ih (i + 1) (by omega) (by omega)]
   simp
theorem Plain_f (s : ByteArray) (hs : s.size ≤ 140737488355328) : words_Plain.f (s.size + 1) s = some (P.plainL s.data.toList) := by
 have := Plain_l s hs s.size 0 (by omega) (by omega)
 unfold words_Plain.f P.plainL
 rw [List.drop_zero] at this
 exact this
def wl (x : S87) : List UInt8 × Bool := (x.f0.data.toList, x.f1)

end Go.Proofs.YthjhaogfpdkhbaaDoor.H
/- words.Quote and words.Write in the print's form. -/
namespace Go.Proofs.YthjhaogfpdkhbaaDoor.B
open Go.RowKit YthjhaogfpdkhbaaDoorW.PrintWords YthjhaogfpdkhbaaDoorW.PrintLast YthjhaogfpdkhbaaDoorW.PrintMore
open H

def words_Quote.f (a0 : ByteArray) : Option ByteArray := if 4 * a0.size + 2 ≤ 140737488355328 then some ⟨(P.quoteL a0.data.toList).toArray⟩ else none
def words_Write.f (l0 : List S87) : Option ByteArray := if P.boundL (l0.map wl) ≤ 140737488355328 then some ⟨(P.writeL (l0.map wl)).toArray⟩ else none
end Go.Proofs.YthjhaogfpdkhbaaDoor.B
/- The reference of layer 2 in plain Lean: its printed functions answer what the definitions say. -/
namespace Go.Proofs.YthjhaogfpdkhbaaDoor.B
open Go.RowKit YthjhaogfpdkhbaaDoorW.PrintWords YthjhaogfpdkhbaaDoorW.PrintLast YthjhaogfpdkhbaaDoorW.PrintMore
open H

def nb (l : List UInt8) : List Int := l.map fun b => (b.toNat : Int)
theorem nb_length (l : List UInt8) : (nb l).length = l.length := by simp [nb]
theorem nb_append (a b : List UInt8) : nb (a ++ b) = nb a ++ nb b := by simp [nb]
theorem nb_str (l : List UInt8) : strOfNums (nb l) = ⟨l.toArray⟩ := Go.Lib.Lz.strOfNums_map l
theorem wrapI (i : Nat) (h : i < 140737488355329) : wrap64 ((i : Int) + 1) = ((i + 1 : Nat) : Int) := by unfold wrap64; omega

theorem rplain_f (s : ByteArray) (k : Nat) (h : k < s.size) : dovetailref02_plain.f (bt s (k : Int)) = some (P.plainB s[k]) := by
 rw [← plain_f s k h, bt_eq s k h]
 unfold dovetailref02_plain.f words_plain.f
 by_cases c1 : (s[k].toNat : Int) > 32
 · rw [if_pos (show (s[k].toNat : Int) ≥ 33 by omega), if_pos c1]
   by_cases c2 : (s[k].toNat : Int) < 127
   · rw [if_pos (show (s[k].toNat : Int) ≤ 126 by omega), if_pos c2]
   · rw [if_neg (show ¬ (s[k].toNat : Int) ≤ 126 by omega), if_neg c2]
 · rw [if_neg (show ¬ (s[k].toNat : Int) ≥ 33 by omega), if_neg c1]
theorem first_hash (s : ByteArray) (h0 : 0 < s.size) : (bt s 0 != 35) = P.noHash s.data.toList := by
 have hb := bt_eq s 0 h0
 cases hd : s.data.toList with
 | nil =>
  have : s.data.toList.length = s.size := by simp
  rw [hd] at this; simp at this; omega
 | cons c r =>
  have h00 : s[0] = c := by
   have : s.data.toList[0]? = some c := by rw [hd]; rfl
   have h2 : s.data.toList[0]? = some s[0] := by rw [List.getElem?_eq_getElem (by simpa using h0)]; rfl
   rw [h2] at this; exact Option.some.inj this
  rw [show (0 : Int) = ((0 : Nat) : Int) from rfl, hb, h00]
  have : (c == 35) = ((c.toNat : Int) == 35) := by
   rw [Bool.eq_iff_iff, beq_iff_eq, beq_iff_eq, ← UInt8.toNat_inj]; simp; omega
  simp [P.noHash, bne, this]
theorem rPlain_l (s : ByteArray) (hs : s.size ≤ 140737488355328) (d : Nat) : ∀ (k i : Nat), s.size - i = d → i ≤ s.size → d < k → dovetailref02_Plain.l0 k s (i : Int) = some ((s.data.toList.drop i).all P.plainB && P.noHash s.data.toList) := by
 induction d with
 | zero =>
  intro k i hi hle hk
  obtain ⟨k, rfl⟩ : ∃ m, k = m + 1 := ⟨k - 1, by omega⟩
  have : i = s.size := by omega
  subst this
  simp only [dovetailref02_Plain.l0]
  rw [if_neg (by omega), List.drop_of_length_le (by simp)]
  by_cases h0 : 0 < s.size
  · rw [if_pos (show (s.size : Int) > 0 by omega), if_pos (show 0 < (s.size : Int) by omega), first_hash s h0]; rfl
  · rw [if_neg (show ¬ (s.size : Int) > 0 by omega)]
    have : s.data.toList = [] := List.eq_nil_of_length_eq_zero (by rw [Array.length_toList]; show s.size = 0; omega)
    rw [this]; rfl
 | succ d ih =>
  intro k i hi hle hk
  obtain ⟨k, rfl⟩ : ∃ m, k = m + 1 := ⟨k - 1, by omega⟩
  have hlt : i < s.size := by omega
  simp only [dovetailref02_Plain.l0]
  rw [if_pos (by omega), if_pos (by omega), rplain_f s i hlt]
  simp only [Option.bind_some]
  have hdr : s.data.toList.drop i = s[i] :: s.data.toList.drop (i + 1) := by rw [List.drop_eq_getElem_cons (by simpa using hlt)]; rfl
  rw [hdr, List.all_cons]
  cases hp : P.plainB s[i] with
  | false => simp
  | true =>
   rw [if_pos rfl, wrapI i (by omega), ih k (i + 1) (by omega) (by omega) (by omega)]
   simp
theorem rPlain_f (s : ByteArray) (hs : s.size ≤ 140737488355328) (k : Nat) (hk : s.size < k) : dovetailref02_Plain.f k s = some (P.plainL s.data.toList) := by
 have := rPlain_l s hs s.size k 0 (by omega) (by omega) hk
 unfold dovetailref02_Plain.f P.plainL
 rw [List.drop_zero] at this
 exact this
theorem figure_f (n : Nat) (h : n < 16) : dovetailref02_figure.f (n : Int) = some ((P.hexd n).toNat : Int) := by
 have h2 : ∀ m : Fin 16, dovetailref02_figure.f ((m.val : Nat) : Int) = some ((P.hexd m.val).toNat : Int) := by decide +kernel
 exact h2 ⟨n, h⟩
theorem byteNe (c : UInt8) (n : Nat) (hn : n < 256) : (c = UInt8.ofNat n ↔ (c.toNat : Int) = n) := by
 rw [← UInt8.toNat_inj, UInt8.toNat_ofNat_of_lt' hn]; omega
theorem rQuote_l (s : ByteArray) (hs : s.size ≤ 35184372088831) (d : Nat) : ∀ (k i : Nat) (pre : List UInt8), s.size - i = d → i ≤ s.size → 3 * d < k → pre.length + 4 * d + 1 ≤ 140737488355328 →
 dovetailref02_Quote.l0 k s (nb pre) (i : Int) = some ⟨(pre ++ (s.data.toList.drop i).flatMap P.qb ++ [34]).toArray⟩ := by
 induction d with
 | zero =>
  intro k i pre hi hle hk hp
  obtain ⟨k, rfl⟩ : ∃ m, k = m + 1 := ⟨k - 1, by omega⟩
  have : i = s.size := by omega
  subst this
  simp only [dovetailref02_Quote.l0]
  rw [if_neg (by omega), List.drop_of_length_le (by simp), nb_length, if_pos (by omega)]
  have : nb pre ++ [34] = nb (pre ++ [34]) := by rw [nb_append]; rfl
  rw [this, nb_str]
  simp
 | succ d ih =>
  intro k i pre hi hle hk hp
  obtain ⟨k, rfl⟩ : ∃ m, k = m + 3 := ⟨k - 3, by omega⟩
  have hlt : i < s.size := by omega
  have hdr : s.data.toList.drop i = s[i] :: s.data.toList.drop (i + 1) := by rw [List.drop_eq_getElem_cons (by simpa using hlt)]; rfl
  rw [hdr, List.flatMap_cons, ← List.append_assoc]
  have hb := bt_eq s i hlt
  generalize s[i] = c at *
  have hc := c.toNat_lt
  have key : ∀ (k' : Nat), 3 * d < k' → dovetailref02_Quote.l0 k' s (nb pre ++ nb (P.qb c)) (wrap64 ((i : Int) + 1)) = some ⟨(pre ++ P.qb c ++ (s.data.toList.drop (i + 1)).flatMap P.qb ++ [34]).toArray⟩ := by
   intro k' hk'
   rw [← nb_append, wrapI i (by omega)]
   have := P.qb_length c
   exact ih k' (i + 1) (pre ++ P.qb c) (by omega) (by omega) hk' (by rw [List.length_append]; omega)
  simp only [dovetailref02_Quote.l0]
  rw [if_pos (by omega), if_pos (by omega), hb]
  have e34 := byteNe c 34 (by omega)
  have e92 := byteNe c 92 (by omega)
  have e10 := byteNe c 10 (by omega)
  have l32 : c < 32 ↔ (c.toNat : Int) < 32 := by rw [UInt8.lt_iff_toNat_lt]; simp; omega
  have l126 : 126 < c ↔ (c.toNat : Int) > 126 := by rw [UInt8.lt_iff_toNat_lt]; simp; omega
  have hesc : ∀ (x : Bool), ((x = true) ↔ (c = 34 ∨ c = 92)) → dovetailref02_Quote.j1 (k + 2) s (nb pre) (i : Int) (c.toNat : Int) x = some ⟨(pre ++ P.qb c ++ (s.data.toList.drop (i + 1)).flatMap P.qb ++ [34]).toArray⟩ := by
   intro x hx
   simp only [dovetailref02_Quote.j1, Option.bind_some]
   by_cases hxe : x = true
   · rw [if_pos hxe, nb_length]
     have hq := P.qb_esc c (hx.mp hxe)
     have : ([92, (c.toNat : Int)] : List Int) = nb (P.qb c) := by rw [hq]; rfl
     rw [this, if_pos (by rw [nb_length, hq]; simp; omega)]
     exact key _ (by omega)
   · rw [if_neg hxe]
     have hne : ¬ (c = 34 ∨ c = 92) := fun h => hxe (hx.mpr h)
     by_cases h10 : (c.toNat : Int) = 10
     · rw [if_pos h10, nb_length]
       have hq := P.qb_nl c hne (e10.mpr h10)
       have : ([92, 110] : List Int) = nb (P.qb c) := by rw [hq]; rfl
       rw [this, if_pos (by rw [nb_length, hq]; simp; omega)]
       exact key _ (by omega)
     · rw [if_neg h10]
       have hn10 : ¬ c = 10 := fun h => h10 (e10.mp h)
       have hj2 : ∀ (y : Bool), ((y = true) ↔ (c < 32 ∨ 126 < c)) → dovetailref02_Quote.j2 (k + 1) s (nb pre) (i : Int) (c.toNat : Int) y = some ⟨(pre ++ P.qb c ++ (s.data.toList.drop (i + 1)).flatMap P.qb ++ [34]).toArray⟩ := by
        intro y hy
        simp only [dovetailref02_Quote.j2]
        by_cases hye : y = true
        · rw [if_pos hye]
          have w1 : wrap64 (c.toNat : Int) = (c.toNat : Int) := by unfold wrap64; omega
          rw [w1]
          have t1 : wrap64 (Int.tdiv (c.toNat : Int) 16) = ((c.toNat / 16 : Nat) : Int) := by
           rw [Int.tdiv_eq_ediv_of_nonneg (by omega)]; unfold wrap64; omega
          have t2 : Int.tmod (c.toNat : Int) 16 = ((c.toNat % 16 : Nat) : Int) := by
           rw [Int.tmod_eq_emod_of_nonneg (by omega)]; omega
          rw [t1, t2, figure_f _ (by omega), figure_f _ (by omega)]
          simp only [Option.bind_some]
          have hq := P.qb_hex c hne hn10 (hy.mp hye)
          have : ([92, 120, ((P.hexd (c.toNat / 16)).toNat : Int), ((P.hexd (c.toNat % 16)).toNat : Int)] : List Int) = nb (P.qb c) := by rw [hq]; rfl
          rw [this, nb_length, if_pos (by rw [nb_length, hq]; simp; omega)]
          exact key _ (by omega)
        · rw [if_neg hye, nb_length, if_pos (by omega)]
          have hq := P.qb_one c hne hn10 (fun h => hye (hy.mpr h))
          have : ([(c.toNat : Int)] : List Int) = nb (P.qb c) := by rw [hq]; rfl
          rw [this]
          exact key _ (by omega)
       by_cases h32 : (c.toNat : Int) < 32
       · rw [if_pos h32]; exact hj2 true ⟨fun _ => .inl (l32.mpr h32), fun _ => rfl⟩
       · rw [if_neg h32]
         refine hj2 _ ?_
         rw [decide_eq_true_iff, l32, l126]
         omega
  by_cases h34 : (c.toNat : Int) = 34
  · rw [if_pos h34]; exact hesc true ⟨fun _ => .inl (e34.mpr h34), fun _ => rfl⟩
  · rw [if_neg h34]
    refine hesc _ ?_
    rw [beq_iff_eq]
    constructor
    · intro h; exact .inr (e92.mpr h)
    · rintro (h | h)
      · exact absurd (e34.mp h) h34
      · exact e92.mp h
theorem rQuote_f (s : ByteArray) (hs : s.size ≤ 35184372088831) (k : Nat) (hk : 3 * s.size < k) : dovetailref02_Quote.f k s = some ⟨(P.quoteL s.data.toList).toArray⟩ := by
 have := rQuote_l s hs s.size k 0 [34] (by omega) (by omega) hk (by simp; omega)
 unfold dovetailref02_Quote.f
 rw [List.drop_zero] at this
 simpa [P.quoteL, P.quoteTo, nb] using this
end Go.Proofs.YthjhaogfpdkhbaaDoor.B
/- Names: their places, and which lists of names are right. -/
set_option linter.unusedSimpArgs false
namespace Go.Proofs.YthjhaogfpdkhbaaDoor.B
open Go.RowKit YthjhaogfpdkhbaaDoorW.PrintWords YthjhaogfpdkhbaaDoorW.PrintLast YthjhaogfpdkhbaaDoorW.PrintMore

theorem toL_eq (a b : ByteArray) : a.toList = b.toList ↔ a = b := by
 constructor
 · intro h
   rw [ByteArray.toList_eq, ByteArray.toList_eq] at h
   have := Array.ext' h
   cases a; cases b; simp_all
 · rintro rfl; rfl

def place (l : List ByteArray) (s : ByteArray) (i : Nat) : Int := if (l.drop i).findIdx (fun x => decide (s = x)) < (l.drop i).length then ((i + (l.drop i).findIdx (fun x => decide (s = x)) : Nat) : Int) else -1
theorem place_end (l : List ByteArray) (s : ByteArray) : place l s l.length = -1 := by simp [place]
theorem place_step (l : List ByteArray) (s : ByteArray) (i : Nat) (h : i < l.length) : place l s i = if s = l[i] then (i : Int) else place l s (i + 1) := by
 unfold place
 rw [List.drop_eq_getElem_cons h, List.findIdx_cons, List.length_cons]
 by_cases c : s = l[i]
 · rw [if_pos c, decide_eq_true c, cond_true, if_pos (by omega)]; rfl
 · rw [if_neg c, decide_eq_false c, cond_false]
   by_cases c2 : (l.drop (i + 1)).findIdx (fun x => decide (s = x)) < (l.drop (i + 1)).length
   · rw [if_pos (by omega), if_pos c2]; congr 1; omega
   · rw [if_neg (by omega), if_neg c2]
theorem place_nonneg (l : List ByteArray) (s : ByteArray) : 0 ≤ place l s 0 ↔ s ∈ l := by
 have : (l.findIdx (fun x => decide (s = x)) < l.length) ↔ s ∈ l := by
  rw [List.findIdx_lt_length]; simp
 unfold place
 rw [List.drop_zero, ← this]
 split <;> omega
theorem Index_l (l : List ByteArray) (s : ByteArray) (hm : l.length ≤ 9223372036854775807) : ∀ (d i k : Nat), l.length - i = d → i ≤ l.length → d < k → slices_Index_string_string.l0 k l s (l.length : Int) (i : Int) = some (place l s i) := by
 intro d
 induction d with
 | zero =>
  intro i k hi hle hk
  obtain ⟨k, rfl⟩ : ∃ j, k = j + 1 := ⟨k - 1, by omega⟩
  have : i = l.length := by omega
  subst this
  rw [slices_Index_string_string.l0, if_neg (by omega), place_end]
 | succ d ih =>
  intro i k hi hle hk
  obtain ⟨k, rfl⟩ : ∃ j, k = j + 1 := ⟨k - 1, by omega⟩
  have hlt : i < l.length := by omega
  rw [slices_Index_string_string.l0, if_pos (by omega), if_pos (by omega), if_pos (by omega), rdS_D, getD_lt _ _ _ hlt, place_step l s i hlt]
  by_cases c : s = l[i]
  · rw [if_pos ((toL_eq _ _).2 c), if_pos c]
  · rw [if_neg (fun h => c ((toL_eq _ _).1 h)), if_neg c, w64 i (by omega), ih (i + 1) k (by omega) (by omega) (by omega)]
theorem Index_f (l : List ByteArray) (s : ByteArray) (k : Nat) (hm : l.length ≤ 9223372036854775807) (hk : l.length < k) : slices_Index_string_string.f k l s = some (place l s 0) := by
 unfold slices_Index_string_string.f
 have := Index_l l s hm l.length 0 k (by omega) (by omega) hk
 simpa using this
def faultAt (l : List ByteArray) (i : Nat) : Bool := decide ((l.getD i ByteArray.empty).size = 0) || decide (32 < (l.getD i ByteArray.empty).size) || (l.take i).any (fun x => decide (l.getD i ByteArray.empty = x))
def namesOK (l : List ByteArray) : Bool := (List.range l.length).all fun i => !faultAt l i
def namesFrom (l : List ByteArray) (i : Nat) : Bool := (List.range' i (l.length - i)).all fun i => !faultAt l i
theorem namesFrom_zero (l : List ByteArray) : namesFrom l 0 = namesOK l := by simp [namesFrom, namesOK, List.range_eq_range']
theorem namesFrom_step (l : List ByteArray) (i : Nat) (h : i < l.length) : namesFrom l i = (!faultAt l i && namesFrom l (i + 1)) := by
 unfold namesFrom
 rw [show l.length - i = (l.length - (i + 1)) + 1 from by omega, List.range'_succ, List.all_cons]
theorem namesFrom_end (l : List ByteArray) : namesFrom l l.length = true := by simp [namesFrom]

theorem NameFault_f (l : List ByteArray) (i k : Nat) (h : i < l.length) (hm : l.length ≤ 9223372036854775807) (hk : l.length < k) : gram_nameFault.f k l (i : Int) = some (faultAt l i) := by
 unfold gram_nameFault.f faultAt slices_Contains_string_string.f
 rw [if_pos (by omega), if_pos (by omega), rdS_D, Int.toNat_natCast]
 generalize l.getD i ByteArray.empty = s
 by_cases c1 : s.size = 0
 · rw [if_pos (by omega)]; simp [c1]
 · rw [if_neg (by omega)]
   by_cases c2 : 32 < s.size
   · rw [if_pos (by omega)]; simp [c2]
   · rw [if_neg (by omega), if_pos (by omega), Index_f _ s k (by rw [List.length_take]; omega) (by rw [List.length_take]; omega), Option.bind_some, Option.bind_some]
     cases c3 : (l.take i).any (fun x => decide (s = x)) with
     | true =>
      have : s ∈ l.take i := by
       obtain ⟨x, hx, he⟩ := List.any_eq_true.1 c3
       rw [of_decide_eq_true he]; exact hx
      rw [if_pos (decide_eq_true ((place_nonneg (l.take i) s).2 this)), Bool.or_true]
     | false =>
      have : ¬ s ∈ l.take i := fun hs => by
       have := List.any_eq_false.1 c3 s hs
       simp at this
      rw [if_neg (by rw [decide_eq_true_eq]; exact fun h => this ((place_nonneg (l.take i) s).1 h)), decide_eq_false c1, decide_eq_false c2]; rfl
theorem Names_l (l : List ByteArray) (hm : l.length ≤ 9223372036854775807) : ∀ (d i k : Nat), l.length - i = d → i ≤ l.length → d + l.length + 1 < k → gram_names.l0 k l (l.length : Int) (i : Int) = some (namesFrom l i) := by
 intro d
 induction d with
 | zero =>
  intro i k hi hle hk
  obtain ⟨k, rfl⟩ : ∃ j, k = j + 1 := ⟨k - 1, by omega⟩
  have : i = l.length := by omega
  subst this
  rw [gram_names.l0, if_neg (by omega), namesFrom_end]
 | succ d ih =>
  intro i k hi hle hk
  obtain ⟨k, rfl⟩ : ∃ j, k = j + 1 := ⟨k - 1, by omega⟩
  have hlt : i < l.length := by omega
  rw [gram_names.l0, if_pos (by omega), NameFault_f l i k hlt hm (by omega), Option.bind_some, namesFrom_step l i hlt]
  cases hf : faultAt l i with
  | true => rw [if_pos rfl]; rfl
  | false => rw [if_neg (by decide), w64 i (by omega), ih (i + 1) k (by omega) (by omega) (by omega)]; rfl
theorem Names_f (l : List ByteArray) (k : Nat) (hm : l.length ≤ 9223372036854775807) (hk : l.length + l.length + 1 < k) : gram_names.f k l = some (namesOK l) := by
 unfold gram_names.f
 have := Names_l l hm l.length 0 k (by omega) (by omega) hk
 rw [namesFrom_zero] at this
 simpa using this
end Go.Proofs.YthjhaogfpdkhbaaDoor.B
/- gram.Check: what it answers, whatever the grammar. -/
namespace Go.Proofs.YthjhaogfpdkhbaaDoor.B
open Go.RowKit YthjhaogfpdkhbaaDoorW.PrintWords YthjhaogfpdkhbaaDoorW.PrintLast YthjhaogfpdkhbaaDoorW.PrintMore

def Sents (ad : Int → Addr) (w : World) : Prop := w.cell? ⟨3, 0, none⟩ = some (.iface 178 (.pointer (some (ad 3)))) ∧ w.cell? ⟨10, 0, none⟩ = some (.iface 178 (.pointer (some (ad 10)))) ∧ w.cell? ⟨1, 0, none⟩ = some (.iface 178 (.pointer (some (ad 1))))
theorem Sents.below {ad : Int → Addr} {w w' : World} (h : Sents ad w) (hb : Below w.heap.size w w') : Sents ad w' :=
 ⟨(hb.cell (World.block_lt_of_cell? w _ h.1)).trans h.1, (hb.cell (World.block_lt_of_cell? w _ h.2.1)).trans h.2.1, (hb.cell (World.block_lt_of_cell? w _ h.2.2)).trans h.2.2⟩
def checkR (t n : Nat) (x : S52) : Int := if 32 < x.f1.length then 3 else if x.f0 < 0 ∨ (n : Int) ≤ x.f0 ∨ x.f1.any (outS t n) = true then 1 else 0
def chkRs (t n : Nat) : List S52 → Nat → Int × Int
 | [], _ => (0, -1)
 | x :: l, j => if checkR t n x = 0 then chkRs t n l (j + 1) else (checkR t n x, (j : Int))
theorem chkRs_drop (t n : Nat) (R : List S52) (j : Nat) (h : j < R.length) : chkRs t n (R.drop j) j = if checkR t n R[j] = 0 then chkRs t n (R.drop (j + 1)) (j + 1) else (checkR t n R[j], (j : Int)) := by
 rw [List.drop_eq_getElem_cons h, chkRs]
def chk (b0 b1 : Bool) (l0 l1 : Nat) (a2 : Int) (R : List S52) : Int × Int :=
 if 60 < l0 + l1 ∨ 120 < R.length then (3, -1) else if (b0 && b1) = false then (10, -1) else if a2 < 0 ∨ (l1 : Int) ≤ a2 then (1, -1) else chkRs l0 l1 R 0
theorem checkR_cases (t n : Nat) (x : S52) : checkR t n x = 0 ∧ okR t n x = true ∨ (checkR t n x = 3 ∨ checkR t n x = 1) ∧ okR t n x = false := by
 unfold checkR okR
 by_cases c1 : 32 < x.f1.length
 · rw [if_pos c1]; right; simp; omega
 · rw [if_neg c1]
   by_cases c2 : x.f0 < 0 ∨ (n : Int) ≤ x.f0 ∨ x.f1.any (outS t n) = true
   · rw [if_pos c2]; right
     refine ⟨.inr rfl, ?_⟩
     rcases c2 with c | c | c
     · simp [show ¬ (0 ≤ x.f0) from by omega]
     · simp [show ¬ (x.f0 < (n : Int)) from by omega]
     · simp [c]
   · rw [if_neg c2]; left
     simp only [not_or, Bool.not_eq_true] at c2
     refine ⟨rfl, ?_⟩
     simp [c2.2.2, show x.f1.length ≤ 32 from by omega, show 0 ≤ x.f0 from by omega, show x.f0 < (n : Int) from by omega]
def ErrV (ad : Int → Addr) (w : World) (v : Value) (p : Int × Int) : Prop :=
 (p.1 = 0 ∧ p.2 = -1 ∧ v = .nilIface) ∨ ((p.1 = 3 ∨ p.1 = 10 ∨ p.1 = 1) ∧ p.2 = -1 ∧ v = .iface 178 (.pointer (some (ad p.1)))) ∨
 ((p.1 = 3 ∨ p.1 = 1) ∧ 0 ≤ p.2 ∧ p.2 < 120 ∧ ∃ b, v = .iface 126 (.pointer (some ⟨b, 0, none⟩)) ∧ w.heap[b]? = some (.cells #[.int .i64 p.2, .iface 178 (.pointer (some (ad p.1)))] 128 (0, 0)))
def CheckPost (ad : Int → Addr) (w : World) (p : Int × Int) (e : Ending) (w' : World) : Prop := (∃ v, e = .returned v ∧ ErrV ad w' v p) ∧ Below w.heap.size w w'
theorem ErrV.nil {ad : Int → Addr} {w : World} {v : Value} {p : Int × Int} (h : ErrV ad w v p) (h0 : p.1 = 0) : v = .nilIface := by
 rcases h with h | h | h
 · exact h.2.2
 · rcases h.1 with h | h | h <;> omega
 · rcases h.1 with h | h <;> omega
theorem ErrV.some {ad : Int → Addr} {w : World} {v : Value} {p : Int × Int} (h : ErrV ad w v p) (h0 : p.1 ≠ 0) : ∃ t u, v = .iface t u := by
 rcases h with h | h | h
 · exact absurd h.1 h0
 · exact ⟨_, _, h.2.2⟩
 · obtain ⟨_, _, _, b, h, _⟩ := h; exact ⟨_, _, h⟩
theorem ErrV.below {ad : Int → Addr} {w w' : World} {v : Value} {p : Int × Int} (h : ErrV ad w v p) (hb : Below w.heap.size w w') : ErrV ad w' v p := by
 rcases h with h | h | ⟨h1, h2, h3, b, hv, hx⟩
 · exact .inl h
 · exact .inr (.inl h)
 · exact .inr (.inr ⟨h1, h2, h3, b, hv, Box.below (W := w) (W' := w') hx hb⟩)
def ruleV (ad : Int → Addr) (c : Int) : Value := if c = 0 then .nilIface else .iface 178 (.pointer (some (ad c)))

set_option maxHeartbeats 1000000 in
set_option maxRecDepth 100000 in
theorem Rule_full (ad : Int → Addr) (A0 : Option Addr) (c0 t : Nat) (A1 : Option Addr) (c1 n : Nat) (a2 : Int) (v3 : Value) (x : S52) (A : Option Addr) (c : Nat) (w : World) (hg : Sents ad w) (ht : t ≤ 60) (hn : n ≤ 60) (hr : Kd.C (Kd.int .i64) w A x.f1.length x.f1) (hc : x.f1.length ≤ c) :
 Calls Tryd.prog 82 #[.agg #[.slice A0 t c0, .slice A1 n c1, .int .i64 a2, v3], .agg #[.int .i64 x.f0, .slice A x.f1.length c]] w fun e w' => e = .returned (ruleV ad (checkR t n x)) ∧ Below w.heap.size w w' := by
 obtain ⟨x0, x1⟩ := x
 dsimp only at hr hc ⊢
 have hB1 := (Box.new w #[.slice A0 t c0, .slice A1 n c1, .int .i64 a2, v3] 25).alloc (.cells #[.int .i64 x0, .slice A x1.length c] 52)
 have hb : Below w.heap.size w ((w.alloc (.cells #[.slice A0 t c0, .slice A1 n c1, .int .i64 a2, v3] 25)).alloc (.cells #[.int .i64 x0, .slice A x1.length c] 52)) := ((Below.refl _ w).alloc (Nat.le_refl _) _).alloc (by simp) _
 have hcall := ContS_calls A x1 c w.heap.size t n c0 c1 A0 A1 _ ht hn (hB1.cell 0 _ rfl) (hB1.cell 1 _ rfl) (Kd.C_below hr hb) hc
 obtain ⟨h0, h1, h2⟩ := hg.below hb
 have HB := Aside0.mk hb
 have H0 : ∀ w', Below ((w.alloc (.cells #[.slice A0 t c0, .slice A1 n c1, .int .i64 a2, v3] 25)).alloc (.cells #[.int .i64 x0, .slice A x1.length c] 52)).heap.size ((w.alloc (.cells #[.slice A0 t c0, .slice A1 n c1, .int .i64 a2, v3] 25)).alloc (.cells #[.int .i64 x0, .slice A x1.length c] 52)) w' → w'.cell? ⟨1, 0, none⟩ = some (.iface 178 (.pointer (some (ad 1)))) := fun w' hb' => (hb'.cell (World.block_lt_of_cell? _ _ h2)).trans h2
 by_cases k1 : x1.length ≤ 32
 · have b1 : decide ((32 : Int) < x1.length) = false := decide_eq_false (by omega)
   have b1' : decide (32 < x1.length) = false := decide_eq_false (by omega)
   by_cases k2 : x0 < 0
   · have b2 : decide (x0 < 0) = true := decide_eq_true k2
     have HE := Lib.hid (show ruleV ad (checkR t n ⟨x0, x1⟩) = .iface 178 (.pointer (some (ad 1))) by simp [ruleV, checkR, show ¬ 32 < x1.length from by omega, k2])
     clear hr hcall hB1 hb H0
     go_enter Tryd.func82, Tryd.ntmps82
     go_wp2_with fail
     go_ret
     exact ⟨by rw [HE.out]; rfl, HB.out⟩
   · have b2 : decide (x0 < 0) = false := decide_eq_false k2
     by_cases k3 : (n : Int) ≤ x0
     · have b3 : decide ((n : Int) ≤ x0) = true := decide_eq_true k3
       have HE := Lib.hid (show ruleV ad (checkR t n ⟨x0, x1⟩) = .iface 178 (.pointer (some (ad 1))) by simp [ruleV, checkR, show ¬ 32 < x1.length from by omega, k3])
       clear hr hcall hB1 hb H0
       go_enter Tryd.func82, Tryd.ntmps82
       go_wp2_with fail
       go_ret
       exact ⟨by rw [HE.out]; rfl, HB.out⟩
     · have b3 : decide ((n : Int) ≤ x0) = false := decide_eq_false k3
       cases hany : x1.any (outS t n) with
       | true =>
        rw [hany] at hcall
        have HE := Lib.hid (show ruleV ad (checkR t n ⟨x0, x1⟩) = .iface 178 (.pointer (some (ad 1))) by simp [ruleV, checkR, hany, show ¬ 32 < x1.length from by omega])
        have HC := Aside0.mk hcall
        have HH := Aside0.mk H0
        clear hr hcall hB1 hb hany H0
        go_enter Tryd.func82, Tryd.ntmps82
        go_wp2_with (go_at_call 99; (with_reducible refine HC.out.mono ?_); rintro e w' ⟨rfl, hb'⟩; have q2 := HH.out _ hb')
        go_ret
        exact ⟨by rw [HE.out]; rfl, HB.out.trans (hb'.mono HB.out.size)⟩
       | false =>
        rw [hany] at hcall
        have HE := Lib.hid (show ruleV ad (checkR t n ⟨x0, x1⟩) = .nilIface by simp [ruleV, checkR, hany, show ¬ 32 < x1.length from by omega, k2, k3])
        have HC := Aside0.mk hcall
        clear hr hcall hB1 hb hany H0
        go_enter Tryd.func82, Tryd.ntmps82
        go_wp2_with (go_at_call 99; (with_reducible refine HC.out.mono ?_); rintro e w' ⟨rfl, hb'⟩)
        go_ret
        exact ⟨by rw [HE.out]; rfl, HB.out.trans (hb'.mono HB.out.size)⟩
 · have b1 : decide ((32 : Int) < x1.length) = true := decide_eq_true (by omega)
   have b1' : decide (32 < x1.length) = true := decide_eq_true (by omega)
   have HE := Lib.hid (show ruleV ad (checkR t n ⟨x0, x1⟩) = .iface 178 (.pointer (some (ad 3))) by simp [ruleV, checkR, show 32 < x1.length from by omega])
   clear hr hcall hB1 hb H0
   go_enter Tryd.func82, Tryd.ntmps82
   go_wp2_with fail
   go_ret
   exact ⟨by rw [HE.out]; rfl, HB.out⟩
set_option maxHeartbeats 1500000 in
set_option maxRecDepth 100000 in
theorem Check_full (ad : Int → Addr) (k : Nat) (A0 : Option Addr) (c0 : Nat) (l0 : List ByteArray) (A1 : Option Addr) (c1 : Nat) (l1 : List ByteArray) (a2 : Int) (A3 : Option Addr) (c3 : Nat) (l3 : List S52) (b0 b1 : Bool) (w : World) (hG : Sents ad w) (hr0 : Kd.C Kd.string w A0 l0.length l0) (hc0 : l0.length ≤ c0) (hr1 : Kd.C Kd.string w A1 l1.length l1) (hc1 : l1.length ≤ c1) (hr3 : Kd.C k52 w A3 l3.length l3) (hc3 : l3.length ≤ c3)
 (hn0 : gram_names.f k l0 = some b0) (hn1 : gram_names.f k l1 = some b1) :
 Calls Tryd.prog 51 #[.agg #[.slice A0 l0.length c0, .slice A1 l1.length c1, .int .i64 a2, .slice A3 l3.length c3]] w (CheckPost ad w (chk b0 b1 l0.length l1.length a2 l3)) := by
 obtain ⟨x0, x1, x2⟩ := id hG
 obtain ⟨Tw, hT⟩ : ∃ Tw : World → Prop, ∀ W, Tw W ↔ (Below w.heap.size w W ∧ Box w.heap.size #[.slice A0 l0.length c0, .slice A1 l1.length c1, .int .i64 a2, .slice A3 l3.length c3] 25 W) := ⟨_, fun _ => Iff.rfl⟩
 have start : Tw (w.alloc (.cells #[.slice A0 l0.length c0, .slice A1 l1.length c1, .int .i64 a2, .slice A3 l3.length c3] 25)) := (hT _).2 ⟨(Below.refl _ w).alloc (Nat.le_refl _) _, Box.new w _ _⟩
 have cells : ∀ W, Tw W → W.cell? ⟨w.heap.size, 0, none⟩ = some (.slice A0 l0.length c0) ∧ W.cell? ⟨w.heap.size, 1, none⟩ = some (.slice A1 l1.length c1) ∧ W.cell? ⟨w.heap.size, 2, none⟩ = some (.int .i64 a2) ∧ W.cell? ⟨w.heap.size, 3, none⟩ = some (.slice A3 l3.length c3) ∧ W.cell? ⟨3, 0, none⟩ = some (.iface 178 (.pointer (some (ad 3)))) ∧ W.cell? ⟨10, 0, none⟩ = some (.iface 178 (.pointer (some (ad 10)))) ∧ W.cell? ⟨1, 0, none⟩ = some (.iface 178 (.pointer (some (ad 1)))) := by
  intro W hW
  have hb := ((hT W).1 hW).1
  have h3' := ((hT W).1 hW).2
  exact ⟨h3'.cell 0 _ rfl, h3'.cell 1 _ rfl, h3'.cell 2 _ rfl, h3'.cell 3 _ rfl, (hb.cell (World.block_lt_of_cell? w _ x0)).trans x0, (hb.cell (World.block_lt_of_cell? w _ x1)).trans x1, (hb.cell (World.block_lt_of_cell? w _ x2)).trans x2⟩
 have more : ∀ W W', Tw W → Below W.heap.size W W' → Tw W' := fun W W' h hb => (hT W').2 ⟨((hT W).1 h).1.trans (hb.mono ((hT W).1 h).1.size), ((hT W).1 h).2.below hb⟩
 have last : ∀ W, Tw W → Below w.heap.size w W := fun W h => ((hT W).1 h).1
 clear hT
 have key0 : ∀ W, Tw W → Calls Tryd.prog 81 #[.slice A0 l0.length c0] W fun e W => e = .returned (.bool b0) ∧ Aside0 (Tw W) ∧ W.cell? ⟨w.heap.size, 0, none⟩ = some (.slice A0 l0.length c0) ∧ W.cell? ⟨w.heap.size, 1, none⟩ = some (.slice A1 l1.length c1) ∧ W.cell? ⟨w.heap.size, 2, none⟩ = some (.int .i64 a2) ∧ W.cell? ⟨w.heap.size, 3, none⟩ = some (.slice A3 l3.length c3) ∧ W.cell? ⟨3, 0, none⟩ = some (.iface 178 (.pointer (some (ad 3)))) ∧ W.cell? ⟨10, 0, none⟩ = some (.iface 178 (.pointer (some (ad 10)))) ∧ W.cell? ⟨1, 0, none⟩ = some (.iface 178 (.pointer (some (ad 1)))) := by
  intro W hW
  refine (gram_names.calls k A0 c0 l0 b0 W (Kd.C_below hr0 (last W hW)) hc0 hn0).mono ?_
  rintro e w' ⟨he, hd⟩
  have := more W w' hW hd.below
  exact ⟨he, ⟨this⟩, cells _ this⟩
 have key1 : ∀ W, Tw W → Calls Tryd.prog 81 #[.slice A1 l1.length c1] W fun e W => e = .returned (.bool b1) ∧ Aside0 (Tw W) ∧ W.cell? ⟨w.heap.size, 0, none⟩ = some (.slice A0 l0.length c0) ∧ W.cell? ⟨w.heap.size, 1, none⟩ = some (.slice A1 l1.length c1) ∧ W.cell? ⟨w.heap.size, 2, none⟩ = some (.int .i64 a2) ∧ W.cell? ⟨w.heap.size, 3, none⟩ = some (.slice A3 l3.length c3) ∧ W.cell? ⟨3, 0, none⟩ = some (.iface 178 (.pointer (some (ad 3)))) ∧ W.cell? ⟨10, 0, none⟩ = some (.iface 178 (.pointer (some (ad 10)))) ∧ W.cell? ⟨1, 0, none⟩ = some (.iface 178 (.pointer (some (ad 1)))) := by
  intro W hW
  refine (gram_names.calls k A1 c1 l1 b1 W (Kd.C_below hr1 (last W hW)) hc1 hn1).mono ?_
  rintro e w' ⟨he, hd⟩
  have := more W w' hW hd.below
  exact ⟨he, ⟨this⟩, cells _ this⟩
 obtain ⟨s0, s1, s2, s3, s4, s5, s6⟩ := cells _ start
 have HR3 := Aside0.mk hr3
 have ST := Aside0.mk start
 have CE := Aside0.mk cells
 have MO := Aside0.mk more
 have LA := Aside0.mk last
 clear hr0 hr1 hr3 start cells more last hn0 hn1
 by_cases d1 : l0.length ≤ 60
 rotate_left
 · have e1 : decide ((60 : Int) < l0.length) = true := decide_eq_true (by omega)
   have e1' : decide (60 < l0.length) = true := decide_eq_true (by omega)
   clear key0 key1
   have HE := Lib.hid (show chk b0 b1 l0.length l1.length a2 l3 = (3, -1) by simp [chk, show 60 < l0.length + l1.length from by omega])
   go_enter Tryd.func51, Tryd.ntmps51
   go_wp2_with fail
   go_ret
   exact ⟨⟨_, rfl, by rw [HE.out]; exact .inr (.inl ⟨by simp, rfl, rfl⟩)⟩, LA.out _ ST.out⟩
 have e1 : decide ((60 : Int) < l0.length) = false := decide_eq_false (by omega)
 have e1' : decide (60 < l0.length) = false := decide_eq_false (by omega)
 by_cases d2 : l0.length + l1.length ≤ 60
 rotate_left
 · have e2 : decide ((60 : Int) - l0.length < l1.length) = true := decide_eq_true (by omega)
   clear key0 key1
   have HE := Lib.hid (show chk b0 b1 l0.length l1.length a2 l3 = (3, -1) by simp [chk, show 60 < l0.length + l1.length from by omega])
   go_enter Tryd.func51, Tryd.ntmps51
   go_wp2_with fail
   go_ret
   exact ⟨⟨_, rfl, by rw [HE.out]; exact .inr (.inl ⟨by simp, rfl, rfl⟩)⟩, LA.out _ ST.out⟩
 have e2 : decide ((60 : Int) - l0.length < l1.length) = false := decide_eq_false (by omega)
 by_cases d3 : l3.length ≤ 120
 rotate_left
 · have e3 : decide ((120 : Int) < l3.length) = true := decide_eq_true (by omega)
   have e3' : decide (120 < l3.length) = true := decide_eq_true (by omega)
   clear key0 key1
   have HE := Lib.hid (show chk b0 b1 l0.length l1.length a2 l3 = (3, -1) by simp [chk, show 120 < l3.length from by omega])
   go_enter Tryd.func51, Tryd.ntmps51
   go_wp2_with fail
   go_ret
   exact ⟨⟨_, rfl, by rw [HE.out]; exact .inr (.inl ⟨by simp, rfl, rfl⟩)⟩, LA.out _ ST.out⟩
 have e3 : decide ((120 : Int) < l3.length) = false := decide_eq_false (by omega)
 have e3' : decide (120 < l3.length) = false := decide_eq_false (by omega)
 have K0 := Aside0.mk key0
 have K1 := Aside0.mk key1
 clear key0 key1
 cases b0
 · skip
   have HE := Lib.hid (show chk false b1 l0.length l1.length a2 l3 = (10, -1) by simp [chk, show ¬ 60 < l0.length + l1.length from by omega, show ¬ 120 < l3.length from by omega])
   go_enter Tryd.func51, Tryd.ntmps51
   go_wp2_with (first | (go_at_call 81; (with_reducible refine (K0.out _ ST.out).mono ?_); rintro e w1 ⟨rfl, z1, f0, f1, f2, f3, f4, f5, f6⟩))
   go_ret
   exact ⟨⟨_, rfl, by rw [HE.out]; exact .inr (.inl ⟨by simp, rfl, rfl⟩)⟩, LA.out _ z1.out⟩
 cases b1
 · skip
   have HE := Lib.hid (show chk true false l0.length l1.length a2 l3 = (10, -1) by simp [chk, show ¬ 60 < l0.length + l1.length from by omega, show ¬ 120 < l3.length from by omega])
   go_enter Tryd.func51, Tryd.ntmps51
   go_wp2_with (first | (go_at_call 81; (with_reducible refine (K0.out _ ST.out).mono ?_); rintro e w1 ⟨rfl, z1, f0, f1, f2, f3, f4, f5, f6⟩) | (go_at_call 81; (with_reducible refine (K1.out _ z1.out).mono ?_); rintro e w2 ⟨rfl, z2, g0, g1, g2, g3, g4, g5, g6⟩))
   go_ret
   exact ⟨⟨_, rfl, by rw [HE.out]; exact .inr (.inl ⟨by simp, rfl, rfl⟩)⟩, LA.out _ z2.out⟩
 by_cases d4 : a2 < 0
 · have e4 : decide (a2 < 0) = true := decide_eq_true d4
   have HE := Lib.hid (show chk true true l0.length l1.length a2 l3 = (1, -1) by simp [chk, show ¬ 60 < l0.length + l1.length from by omega, show ¬ 120 < l3.length from by omega, d4])
   go_enter Tryd.func51, Tryd.ntmps51
   go_wp2_with (first | (go_at_call 81; (with_reducible refine (K0.out _ ST.out).mono ?_); rintro e w1 ⟨rfl, z1, f0, f1, f2, f3, f4, f5, f6⟩) | (go_at_call 81; (with_reducible refine (K1.out _ z1.out).mono ?_); rintro e w2 ⟨rfl, z2, g0, g1, g2, g3, g4, g5, g6⟩))
   go_ret
   exact ⟨⟨_, rfl, by rw [HE.out]; exact .inr (.inl ⟨by simp, rfl, rfl⟩)⟩, LA.out _ z2.out⟩
 have e4 : decide (a2 < 0) = false := decide_eq_false d4
 by_cases d5 : (l1.length : Int) ≤ a2
 · have e5 : decide ((l1.length : Int) ≤ a2) = true := decide_eq_true d5
   have HE := Lib.hid (show chk true true l0.length l1.length a2 l3 = (1, -1) by simp [chk, show ¬ 60 < l0.length + l1.length from by omega, show ¬ 120 < l3.length from by omega, d5])
   go_enter Tryd.func51, Tryd.ntmps51
   go_wp2_with (first | (go_at_call 81; (with_reducible refine (K0.out _ ST.out).mono ?_); rintro e w1 ⟨rfl, z1, f0, f1, f2, f3, f4, f5, f6⟩) | (go_at_call 81; (with_reducible refine (K1.out _ z1.out).mono ?_); rintro e w2 ⟨rfl, z2, g0, g1, g2, g3, g4, g5, g6⟩))
   go_ret
   exact ⟨⟨_, rfl, by rw [HE.out]; exact .inr (.inl ⟨by simp, rfl, rfl⟩)⟩, LA.out _ z2.out⟩
 have e5 : decide ((l1.length : Int) ≤ a2) = false := decide_eq_false d5
 have HE := Lib.hid (show chk true true l0.length l1.length a2 l3 = chkRs l0.length l1.length l3 0 by simp [chk, show ¬ 60 < l0.length + l1.length from by omega, show ¬ 120 < l3.length from by omega, d4, d5])
 go_enter Tryd.func51, Tryd.ntmps51
 go_wp2_with (first | (go_at_call 81; (with_reducible refine (K0.out _ ST.out).mono ?_); rintro e w1 ⟨rfl, z1, f0, f1, f2, f3, f4, f5, f6⟩) | (go_at_call 81; (with_reducible refine (K1.out _ z1.out).mono ?_); rintro e w2 ⟨rfl, z2, g0, g1, g2, g3, g4, g5, g6⟩))
 go_loopw [3, 4, 5, 53] (fun _ _ _ i wr => ∃ j : Nat, j ≤ l3.length ∧ i = .int .i64 j ∧ Aside0 (Tw wr) ∧ Hid (chkRs l0.length l1.length (l3.drop j) j = chkRs l0.length l1.length l3 0)) (fun _ _ _ i _ => l3.length - (intOf i).toNat)
 case atStart => exact ⟨0, Nat.zero_le _, rfl, z2, Lib.hid rfl⟩
 case round =>
  obtain ⟨j, hj, rfl, htw, hok⟩ := hrel
  clear f0 f1 f2 f3 f4 f5 f6 g0 g1 g2 g3 g4 g5 g6 s0 s1 s2 s3 s4 s5 s6
  by_cases hlt : j < l3.length
  · obtain ⟨f0, f1, f2, f3, f4, f5, f6⟩ := CE.out wr htw.out
    obtain ⟨ad', A, cc, rfl, h0, h1, h2, h3⟩ := at_T52 (Kd.C_below HR3.out (LA.out wr htw.out)) (j : Int) (by omega) (by omega)
    have q0 : rd_T52 l3 (j : Int) = l3[j] := by simp [rd_T52, List.getD_eq_getElem?_getD, List.getElem?_eq_getElem hlt]
    have hn := chkRs_drop l0.length l1.length l3 j hlt
    rw [Int.toNat_natCast] at h0 h1
    rw [q0] at h0 h1 h2 h3
    generalize l3[j] = x at h0 h1 h2 h3 hn
    have hGr : Sents ad wr := ⟨f4, f5, f6⟩
    have f0a := fun o => Lib.cell?_alloc_some o f0
    have f1a := fun o => Lib.cell?_alloc_some o f1
    have f2a := fun o => Lib.cell?_alloc_some o f2
    have f3a := fun o => Lib.cell?_alloc_some o f3
    have hcall : ∀ W, Below wr.heap.size wr W → Calls Tryd.prog 82 #[.agg #[.slice A0 l0.length c0, .slice A1 l1.length c1, .int .i64 a2, .slice (some ad') l3.length c3], .agg #[.int .i64 x.f0, .slice A x.f1.length cc]] W fun e w' => e = .returned (ruleV ad (checkR l0.length l1.length x)) ∧ Aside0 (Tw w') := by
     intro W hW
     refine (Rule_full ad A0 c0 l0.length A1 c1 l1.length a2 _ x A cc W (hGr.below hW) (by omega) (by omega) (Kd.C_below h3 hW) h2).mono ?_
     rintro e w' ⟨he, hb⟩
     exact ⟨he, ⟨MO.out _ _ (MO.out _ _ htw.out hW) hb⟩⟩
    by_cases hq : checkR l0.length l1.length x = 0
    · rw [if_pos hq] at hn
      rw [hq, show ruleV ad 0 = .nilIface from rfl] at hcall
      have HC := Aside0.mk hcall
      have HN := Lib.hid hn
      clear hcall h3 q0 hq hn hGr
      go_wp2_with (go_at_call 82; (with_reducible refine (HC.out _ ((Below.refl _ wr).alloc (Nat.le_refl _) _)).mono ?_); rintro e w' ⟨rfl, t3⟩)
      go_roundw
      case measure => simp [intOf]; omega
      case rel => exact ⟨j + 1, by omega, rfl, t3, Lib.hid (HN.out.symm.trans hok.out)⟩
    · rw [if_neg hq] at hn
      have hc : checkR l0.length l1.length x = 3 ∨ checkR l0.length l1.length x = 1 := (checkR_cases l0.length l1.length x).elim (fun h => absurd h.1 hq) (fun h => h.1)
      rw [show ruleV ad (checkR l0.length l1.length x) = .iface 178 (.pointer (some (ad (checkR l0.length l1.length x)))) from if_neg hq] at hcall
      generalize checkR l0.length l1.length x = c at hcall hn hc
      have HC := Aside0.mk hcall
      have HN := Lib.hid (hn.symm.trans hok.out)
      have HCC := Aside0.mk hc
      clear hcall h3 q0 hq hn hGr hc
      go_wp2_with (go_at_call 82; (with_reducible refine (HC.out _ ((Below.refl _ wr).alloc (Nat.le_refl _) _)).mono ?_); rintro e w' ⟨rfl, t3⟩)
      go_ret
      exact ⟨⟨_, rfl, by rw [HE.out, ← HN.out]; exact .inr (.inr ⟨HCC.out, by simp, by simp; omega, _, rfl, heap_alloc_new _ _⟩)⟩, (LA.out _ t3.out).alloc (LA.out _ t3.out).size _⟩
  · have hjn : j = l3.length := by omega
    subst hjn
    have HN := Lib.hid (show chkRs l0.length l1.length l3 0 = (0, -1) by have := hok.out; rw [List.drop_length] at this; exact this.symm)
    go_wp2_with fail
    go_ret
    exact ⟨⟨_, rfl, by rw [HE.out, HN.out]; exact .inl ⟨rfl, rfl, rfl⟩⟩, LA.out _ htw.out⟩
theorem chkRs_ok (t n : Nat) : ∀ (R : List S52) (j : Nat), (chkRs t n R j).1 = 0 → ∀ x ∈ R, okR t n x = true
 | [], _, _, x, hx => by cases hx
 | y :: R, j, h, x, hx => by
  unfold chkRs at h
  rcases checkR_cases t n y with ⟨h0, hok⟩ | ⟨h0, _⟩
  · rw [if_pos h0] at h
    rcases List.mem_cons.1 hx with rfl | hx
    · exact hok
    · exact chkRs_ok t n R (j + 1) h x hx
  · rw [if_neg (by rcases h0 with h0 | h0 <;> omega)] at h
    rcases h0 with h0 | h0 <;> (dsimp only at h; omega)
theorem chk_ok {b0 b1 : Bool} {n0 n1 : Nat} {a2 : Int} {R : List S52} (h : (chk b0 b1 n0 n1 a2 R).1 = 0) : n0 + n1 ≤ 60 ∧ R.length ≤ 120 ∧ b0 = true ∧ b1 = true ∧ 0 ≤ a2 ∧ a2 < (n1 : Int) ∧ ∀ x ∈ R, okR n0 n1 x = true := by
 unfold chk at h
 split at h
 · simp at h
 · split at h
   · simp at h
   · split at h
     · simp at h
     · rename_i h1 h2 h3
       simp only [Bool.and_eq_false_iff, not_or, Bool.not_eq_false] at h2
       exact ⟨by omega, by omega, h2.1, h2.2, by omega, by omega, chkRs_ok _ _ R 0 h⟩
end Go.Proofs.YthjhaogfpdkhbaaDoor.B
/- The document's Check, in plain Lean: what gram.Check tells. -/
namespace Go.Proofs.YthjhaogfpdkhbaaDoor.B
open Go.RowKit YthjhaogfpdkhbaaDoorW.PrintWords YthjhaogfpdkhbaaDoorW.PrintLast YthjhaogfpdkhbaaDoorW.PrintMore

theorem refNamed_in (l : List ByteArray) (hm : l.length ≤ 9223372036854775807) (i : Nat) (hi : i < l.length) (r : Bool) (B : Nat) (hB : ∀ k, B ≤ k → dovetailref03_named.l0 k l ((i + 1 : Nat) : Int) = some r) :
 ∀ (d j k : Nat), i - j = d → j ≤ i → d + B + 1 ≤ k → dovetailref03_named.l1 k l (i : Int) (j : Int) = some (!((l.take i).drop j).any (fun x => decide (l.getD i ByteArray.empty = x)) && r) := by
 intro d
 induction d with
 | zero =>
  intro j k hd hj hk
  obtain ⟨k, rfl⟩ : ∃ m, k = m + 1 := ⟨k - 1, by omega⟩
  have : j = i := by omega
  subst this
  rw [dovetailref03_named.l1, if_neg (by omega), w64 j (by omega), hB k (by omega), List.drop_of_length_le (by rw [List.length_take]; omega)]
  simp
 | succ d ih =>
  intro j k hd hj hk
  obtain ⟨k, rfl⟩ : ∃ m, k = m + 1 := ⟨k - 1, by omega⟩
  have hlt : j < i := by omega
  have hdr : (l.take i).drop j = l[j] :: (l.take i).drop (j + 1) := by
   rw [List.drop_eq_getElem_cons (by rw [List.length_take]; omega), List.getElem_take]
  rw [dovetailref03_named.l1, if_pos (by omega), if_pos (by omega), if_pos (by omega), if_pos (by omega), if_pos (by omega), rdS_D, rdS_D, getD_lt l j _ (by omega), hdr, List.any_cons]
  by_cases c : l[j] = l.getD i ByteArray.empty
  · rw [if_pos ((toL_eq _ _).2 c), decide_eq_true c.symm]; rfl
  · rw [if_neg (fun h => c ((toL_eq _ _).1 h)), w64 j (by omega), ih (j + 1) k (by omega) (by omega) (by omega), decide_eq_false (fun h => c h.symm)]; rfl
theorem refNamed_l (l : List ByteArray) (hm : l.length ≤ 9223372036854775807) : ∀ (d i k : Nat), l.length - i = d → i ≤ l.length → d * (l.length + 3) + 1 ≤ k → dovetailref03_named.l0 k l (i : Int) = some (namesFrom l i) := by
 intro d
 induction d with
 | zero =>
  intro i k hi hle hk
  obtain ⟨k, rfl⟩ : ∃ j, k = j + 1 := ⟨k - 1, by omega⟩
  have : i = l.length := by omega
  subst this
  rw [dovetailref03_named.l0, if_neg (by omega), namesFrom_end]
 | succ d ih =>
  intro i k hi hle hk
  rw [Nat.add_mul, Nat.one_mul] at hk
  obtain ⟨k, rfl⟩ : ∃ j, k = j + 2 := ⟨k - 2, by omega⟩
  have hlt : i < l.length := by omega
  have hin := refNamed_in l hm i hlt _ _ (fun k hk => ih (i + 1) k (by omega) (by omega) hk) i 0 k (by omega) (by omega) (by omega)
  rw [dovetailref03_named.l0, if_pos (by omega), if_pos (by omega), rdS_D, namesFrom_step l i hlt]
  rw [List.drop_zero] at hin
  unfold faultAt
  generalize hs : l.getD i ByteArray.empty = s at hin
  by_cases c1 : s.size = 0
  · rw [if_pos (by omega), dovetailref03_named.j1, if_pos rfl]; simp [c1]
  · rw [if_neg (by omega), dovetailref03_named.j1]
    by_cases c2 : 32 < s.size
    · rw [if_pos (decide_eq_true (by omega))]; simp [c2]
    · have hin' : dovetailref03_named.l1 k l (i : Int) 0 = _ := hin
      rw [if_neg (by simp; omega), hin', decide_eq_false c1, decide_eq_false c2]
      simp
theorem refNamed_f (l : List ByteArray) (k : Nat) (hm : l.length ≤ 9223372036854775807) (hk : l.length * (l.length + 3) + 1 ≤ k) : dovetailref03_named.f k l = some (namesOK l) := by
 unfold dovetailref03_named.f
 have := refNamed_l l hm l.length 0 k (by omega) (by omega) hk
 rw [namesFrom_zero] at this
 exact this
theorem refCheck_in (t n : Nat) (hn : n ≤ 60) (l0 l1 : List ByteArray) (a2 : Int) (R : List S52) (i : Nat) (hi : i < 200) (x0 : Int) (xs : List Int) (hx : xs.length ≤ 32) (r : Int × Int) (B : Nat) (hB : ∀ k, B ≤ k → dovetailref03_Check.l0 k (t : Int) (n : Int) ((i + 1 : Nat) : Int) l0 l1 a2 R = some r) :
 ∀ (d j k : Nat), xs.length - j = d → j ≤ xs.length → d + B + 1 ≤ k → dovetailref03_Check.l1 k (t : Int) (n : Int) (i : Int) (j : Int) l0 l1 a2 R x0 xs = some (if (xs.drop j).any (outS t n) = true then (1, (i : Int)) else r) := by
 intro d
 induction d with
 | zero =>
  intro j k hd hj hk
  obtain ⟨k, rfl⟩ : ∃ m, k = m + 1 := ⟨k - 1, by omega⟩
  have : j = xs.length := by omega
  subst this
  rw [dovetailref03_Check.l1, if_neg (by omega), w64 i (by omega), hB k (by omega), List.drop_length]
  rfl
 | succ d ih =>
  intro j k hd hj hk
  obtain ⟨k, rfl⟩ : ∃ m, k = m + 1 := ⟨k - 1, by omega⟩
  have hlt : j < xs.length := by omega
  have hwn : wrap64 (-(n : Int)) = -(n : Int) := by unfold wrap64; omega
  rw [dovetailref03_Check.l1, if_pos (by omega), if_pos (by omega), rd_D, getD_lt xs j _ hlt, hwn, List.drop_eq_getElem_cons hlt, List.any_cons]
  generalize xs[j] = s
  have ho : outS t n s = (decide ((t : Int) ≤ s) || decide (s < -(n : Int))) := rfl
  rw [ho]
  by_cases c1 : (t : Int) ≤ s
  · rw [if_pos (by omega), decide_eq_true c1]; rfl
  · by_cases c2 : s < -(n : Int)
    · rw [if_neg (by omega), if_pos c2, decide_eq_true c2, Bool.or_true]; rfl
    · rw [if_neg (by omega), if_neg c2, w64 j (by omega), ih (j + 1) k (by omega) (by omega) (by omega), decide_eq_false c1, decide_eq_false c2]; rfl
theorem refCheck_l (t n : Nat) (hn : n ≤ 60) (l0 l1 : List ByteArray) (a2 : Int) (R : List S52) (hR : R.length ≤ 120) : ∀ (d i k : Nat), R.length - i = d → i ≤ R.length → d * 40 + 1 ≤ k → dovetailref03_Check.l0 k (t : Int) (n : Int) (i : Int) l0 l1 a2 R = some (chkRs t n (R.drop i) i) := by
 intro d
 induction d with
 | zero =>
  intro i k hi hle hk
  obtain ⟨k, rfl⟩ : ∃ j, k = j + 1 := ⟨k - 1, by omega⟩
  have : i = R.length := by omega
  subst this
  rw [dovetailref03_Check.l0, if_neg (by omega), List.drop_length]
  rfl
 | succ d ih =>
  intro i k hi hle hk
  obtain ⟨k, rfl⟩ : ∃ j, k = j + 2 := ⟨k - 2, by omega⟩
  have hlt : i < R.length := by omega
  rw [dovetailref03_Check.l0, if_pos (by omega), if_pos (by omega), rdR_D, getD_lt R i _ hlt, chkRs_drop t n R i hlt]
  generalize R[i] = x
  obtain ⟨x0, xs⟩ := x
  dsimp only
  by_cases c0 : 32 < xs.length
  · have e : checkR t n ⟨x0, xs⟩ = 3 := by simp [checkR, c0]
    rw [if_pos (by omega), e, if_neg (by decide)]
  rw [if_neg (by omega)]
  by_cases c1 : x0 < 0
  · have e : checkR t n ⟨x0, xs⟩ = 1 := by simp [checkR, c0, c1]
    rw [if_pos c1, dovetailref03_Check.j4, if_pos rfl, e, if_neg (by decide)]
  rw [if_neg c1, dovetailref03_Check.j4]
  by_cases c2 : (n : Int) ≤ x0
  · have e : checkR t n ⟨x0, xs⟩ = 1 := by simp [checkR, c0, c2]
    rw [if_pos (decide_eq_true (by omega)), e, if_neg (by decide)]
  have hin : dovetailref03_Check.l1 k (t : Int) (n : Int) (i : Int) 0 l0 l1 a2 R x0 xs = _ := refCheck_in t n hn l0 l1 a2 R i (by omega) x0 xs (by omega) _ _ (fun k hk => ih (i + 1) k (by omega) (by omega) hk) xs.length 0 k (by omega) (by omega) (by omega)
  rw [if_neg (by simp; omega), hin, List.drop_zero]
  cases c3 : xs.any (outS t n) with
  | true =>
   have e : checkR t n ⟨x0, xs⟩ = 1 := by simp [checkR, c0, c3]
   rw [if_pos rfl, e, if_neg (by decide)]
  | false =>
   have e : checkR t n ⟨x0, xs⟩ = 0 := by simp [checkR, c0, c1, c2, c3]
   rw [if_neg (by decide), e, if_pos rfl]
theorem refCheck_f (l0 l1 : List ByteArray) (a2 : Int) (R : List S52) (m0 : l0.length ≤ 9223372036854775807) (m1 : l1.length ≤ 9223372036854775807) (k : Nat) (hk : 20000 ≤ k) :
 dovetailref03_Check.f k l0 l1 a2 R = some (chk (namesOK l0) (namesOK l1) l0.length l1.length a2 R) := by
 obtain ⟨k, rfl⟩ : ∃ j, k = j + 4 := ⟨k - 4, by omega⟩
 have hno : ∀ x, dovetailref03_Check.j0 (k + 4) (l0.length : Int) (l1.length : Int) true x l1 a2 R = some (3, -1) := fun x => by rw [dovetailref03_Check.j0, if_pos rfl]
 unfold dovetailref03_Check.f chk
 by_cases c0 : 60 < l0.length
 · rw [if_pos (by omega), hno, if_pos (by omega)]
 rw [if_neg (by omega)]
 by_cases c1 : 60 < l1.length
 · rw [if_pos (by omega), hno, if_pos (by omega)]
 rw [if_neg (by omega)]
 have hw : wrap64 ((l0.length : Int) + (l1.length : Int)) = (l0.length : Int) + (l1.length : Int) := by unfold wrap64; omega
 rw [hw]
 by_cases c2 : 60 < l0.length + l1.length
 · rw [if_pos (by omega), hno, if_pos (by omega)]
 rw [if_neg (by omega), dovetailref03_Check.j0]
 by_cases c3 : 120 < R.length
 · rw [if_pos (decide_eq_true (by omega)), if_pos (by omega)]
 rw [if_neg (by simp; omega), if_neg (by omega)]
 have hb : ∀ n : Nat, n ≤ 60 → n * (n + 3) + 1 ≤ 4000 := fun n hn => by
  have := Nat.mul_le_mul hn (show n + 3 ≤ 63 by omega)
  omega
 have hb0 := hb l0.length (by omega)
 have hb1 := hb l1.length (by omega)
 rw [refNamed_f l0 (k + 3) m0 (by omega), Option.bind_some]
 cases h0 : namesOK l0 with
 | false => rw [if_neg (by decide), dovetailref03_Check.j1, if_pos rfl]; rfl
 | true =>
  rw [if_pos rfl, refNamed_f l1 (k + 3) m1 (by omega), Option.bind_some, dovetailref03_Check.j1]
  cases h1 : namesOK l1 with
  | false => rw [if_pos (by rfl)]; rfl
  | true =>
   rw [if_neg (show ¬ (!true) = true by decide), if_neg (show ¬ (true && true) = false by decide)]
   have hl : dovetailref03_Check.l0 (k + 1) (l0.length : Int) (l1.length : Int) 0 l0 l1 a2 R = _ := refCheck_l l0.length l1.length (by omega) l0 l1 a2 R (by omega) R.length 0 (k + 1) (by omega) (by omega) (by omega)
   rw [List.drop_zero] at hl
   by_cases c4 : l1.length = 0
   · rw [if_pos (by omega), dovetailref03_Check.j2, if_pos rfl, if_pos (by omega)]
   rw [if_neg (by omega)]
   by_cases c5 : a2 < 0
   · rw [if_pos c5, dovetailref03_Check.j2, if_pos rfl, if_pos (.inl c5)]
   rw [if_neg c5, dovetailref03_Check.j2]
   by_cases c6 : (l1.length : Int) ≤ a2
   · rw [if_pos (decide_eq_true (by omega)), if_pos (.inr c6)]
   rw [if_neg (by simp; omega), if_neg (by omega)]
   exact hl
end Go.Proofs.YthjhaogfpdkhbaaDoor.B
/- Chapter 5: what the printed functions answer, in plain Lean. -/
namespace Go.Proofs.YthjhaogfpdkhbaaDoor.Sh
open Go.RowKit YthjhaogfpdkhbaaDoorW.PrintWords YthjhaogfpdkhbaaDoorW.PrintLast YthjhaogfpdkhbaaDoorW.PrintMore
open B H

theorem w64n (i : Nat) (h : i < 9223372036854775807) : wrap64 ((i : Int) + 1) = ((i + 1 : Nat) : Int) := by unfold wrap64; omega
theorem w64m (s : Int) (h : -9223372036854775808 ≤ s) (h' : s < 9223372036854775808) : wrap64 ((-1) - s) = -1 - s := by unfold wrap64; omega
theorem ba_eq {a b : ByteArray} (h : a.data.toList = b.data.toList) : a = b := by
 cases a; cases b
 have := Array.ext' h
 simp only at this
 rw [this]
theorem toL_inj (a b : ByteArray) : (a.toList = b.toList) ↔ a = b := by
 rw [P.toList_data, P.toList_data]
 exact ⟨ba_eq, fun h => by rw [h]⟩
theorem free_of (a : ByteArray) (k : Nat) (f : Nat → ByteArray → Option Bool) (h : f k a = some (P.plainL a.data.toList)) :
 ((f k a).bind fun t => (if t = true then (if a.toList = ([58] : List UInt8) then (some false) else (some (a.toList != ([124] : List UInt8)))) else (some false))) = some (P.freeL a.data.toList) := by
 rw [h, Option.bind_some, P.toList_data]
 unfold P.freeL
 cases P.plainL a.data.toList with
 | false => rfl
 | true =>
  rw [if_pos rfl]
  by_cases c : a.data.toList = [58]
  · rw [if_pos c, c]; rfl
  · rw [if_neg c]
    have : (a.data.toList == [58]) = false := by simpa using c
    rw [this]
    rfl
theorem free_f (a : ByteArray) (hs : a.size ≤ 140737488355328) (k : Nat) (hk : a.size < k) : show_free.f k a = some (P.freeL a.data.toList) := by
 have hp : words_Plain.f k a = some (P.plainL a.data.toList) := at_rounds (g := fun k => words_Plain.f k a) (fun k => words_Plain.mono a k) (show a.size + 1 ≤ k by omega) (Plain_f a hs)
 exact free_of a k words_Plain.f hp
theorem rfree_f (a : ByteArray) (hs : a.size ≤ 140737488355328) (k : Nat) (hk : a.size < k) : dovetailref05_free.f k a = some (P.freeL a.data.toList) := free_of a k dovetailref02_Plain.f (rPlain_f a hs k hk)
theorem rdS (l : List ByteArray) (i : Int) : rdOf ByteArray.empty l i = l.getD i.toNat ByteArray.empty := rfl
section
variable {l0 l1 : List ByteArray} {a2 : Int} {R : List S52} {m : Nat}
theorem getD_size {l : List ByteArray} (h : ∀ x ∈ l, x.size ≤ m) (i : Nat) : (l.getD i ByteArray.empty).size ≤ m := by
 rcases Nat.lt_or_ge i l.length with hi | hi
 · rw [getD_lt _ _ _ hi]
   exact h _ (List.getElem_mem hi)
 · rw [List.getD_eq_getElem?_getD, List.getElem?_eq_none hi]
   exact Nat.zero_le _
def nameA (l0 l1 : List ByteArray) (s : Int) : ByteArray × Bool :=
 if s < 0 then (if -1 - s < (l1.length : Int) then (l1.getD (-1 - s).toNat ByteArray.empty, true) else (⟨#[]⟩, false))
 else (if s < (l0.length : Int) then (l0.getD s.toNat ByteArray.empty, true) else (⟨#[]⟩, false))
theorem name_f (s : Int) (h0 : -9223372036854775808 ≤ s) (h1 : s < 9223372036854775808) : gram_Name.f l0 l1 a2 R s = some (nameA l0 l1 s) := by
 unfold gram_Name.f nameA
 by_cases c : s < 0
 · rw [if_pos c, if_pos c, w64m s h0 h1]
   by_cases d : -1 - s < (l1.length : Int)
   · rw [if_neg (by omega), if_pos (by omega), if_pos d, if_pos d]; rfl
   · rw [if_pos (by omega), if_neg d]
 · rw [if_neg c, if_neg c]
   by_cases d : s < (l0.length : Int)
   · rw [if_neg (by omega), if_pos (by omega), if_pos d, if_pos d]; rfl
   · rw [if_pos (by omega), if_neg d]
theorem nonterm_f (name : ByteArray) (k : Nat) (hm : l1.length ≤ 9223372036854775807) (hk : l1.length < k) : ∃ i, gram_Nonterm.f k l0 l1 a2 R name = some (i, decide (name ∈ l1)) := by
 unfold gram_Nonterm.f gram_find.f
 rw [Index_f l1 name k hm hk, Option.bind_some, Option.bind_some]
 have := place_nonneg l1 name
 exact ⟨mx (place l1 name 0) 0, by rw [show decide (place l1 name 0 ≥ 0) = decide (name ∈ l1) from decide_eq_decide.2 this]⟩
theorem rsym_l0 (hm : m ≤ 35184372088831) (hl : l1.length ≤ 9223372036854775806) (x : ByteArray) (hx : x.size ≤ m) : ∀ (d i k : Nat) (b : Bool), l1.length - i = d → i ≤ l1.length → d + 3 * m + 1 < k →
 dovetailref05_Symbol.l0 k x b (i : Int) l0 l1 a2 R = some (if (b && !decide (x ∈ l1.drop i)) = true then x else ⟨(P.quoteL x.data.toList).toArray⟩) := by
 intro d
 induction d with
 | zero =>
  intro i k b hd hi hk
  obtain ⟨k, rfl⟩ : ∃ j, k = j + 1 := ⟨k - 1, by omega⟩
  have : i = l1.length := by omega
  subst this
  rw [dovetailref05_Symbol.l0, if_neg (by omega), List.drop_length]
  cases b with
  | true => rw [if_pos rfl]; simp
  | false =>
   rw [if_neg (by decide), rQuote_f x (by omega) k (by omega), Option.bind_some]
   simp
 | succ d ih =>
  intro i k b hd hi hk
  obtain ⟨k, rfl⟩ : ∃ j, k = j + 1 := ⟨k - 1, by omega⟩
  have hlt : i < l1.length := by omega
  rw [dovetailref05_Symbol.l0, if_pos (by omega), if_pos (by omega), rdS, Int.toNat_natCast, w64n i (by omega), getD_lt _ _ _ hlt, List.drop_eq_getElem_cons hlt]
  by_cases c : l1[i] = x
  · rw [if_pos ((toL_inj _ _).2 c), ih (i + 1) k false (by omega) (by omega) (by omega)]
    have : x ∈ l1[i] :: l1.drop (i + 1) := by rw [c]; exact List.mem_cons_self
    rw [decide_eq_true this]
    simp
  · rw [if_neg (fun h => c ((toL_inj _ _).1 h)), ih (i + 1) k b (by omega) (by omega) (by omega)]
    have : decide (x ∈ l1[i] :: l1.drop (i + 1)) = decide (x ∈ l1.drop (i + 1)) := by
     rw [decide_eq_decide, List.mem_cons]
     exact ⟨fun h => h.resolve_left (fun h => c h.symm), .inr⟩
    rw [this]
theorem rsym_l1 (hm : m ≤ 35184372088831) (h1 : ∀ x ∈ l1, x.size ≤ m) (hl : l1.length ≤ 9223372036854775806) (s : Int) : ∀ (d i k : Nat), l1.length - i = d → i ≤ l1.length → d + 3 * m + 1 < k → (∀ j : Nat, j < i → s ≠ -1 - (j : Int)) →
 dovetailref05_Symbol.l1 k s (i : Int) l0 l1 a2 R = some ⟨(if s < 0 ∧ -1 - s < (l1.length : Int) then (if P.freeL (l1.getD (-1 - s).toNat ByteArray.empty).data.toList = true then (l1.getD (-1 - s).toNat ByteArray.empty).data.toList else 60 :: P.quoteL (l1.getD (-1 - s).toNat ByteArray.empty).data.toList ++ [62]) else [63]).toArray⟩ := by
 intro d
 induction d with
 | zero =>
  intro i k hd hi hk hno
  obtain ⟨k, rfl⟩ : ∃ j, k = j + 1 := ⟨k - 1, by omega⟩
  have : i = l1.length := by omega
  subst this
  rw [dovetailref05_Symbol.l1, if_neg (by omega), if_neg (fun h => hno (-1 - s).toNat (by omega) (by omega))]
 | succ d ih =>
  intro i k hd hi hk hno
  obtain ⟨k, rfl⟩ : ∃ j, k = j + 1 := ⟨k - 1, by omega⟩
  have hlt : i < l1.length := by omega
  rw [dovetailref05_Symbol.l1, if_pos (by omega), w64m (i : Int) (by omega) (by omega)]
  by_cases c : s = -1 - (i : Int)
  · have hsz := getD_size h1 i
    have hi' : (-1 - s).toNat = i := by omega
    rw [if_pos c, if_pos (by omega), rdS, Int.toNat_natCast, if_pos (by omega), hi']
    generalize l1.getD i ByteArray.empty = x at hsz
    rw [rfree_f x (by omega) k (by omega), Option.bind_some]
    cases P.freeL x.data.toList with
    | true => rw [if_pos rfl, if_pos rfl]
    | false =>
     have hq := P.quoteL_length x.data.toList
     have hx : x.data.toList.length = x.size := by simp
     rw [if_neg (by decide), if_neg (by decide), rQuote_f x (by omega) k (by omega), Option.bind_some, P.size_lit, if_pos (by omega), P.size_append, P.size_lit, if_pos (by show (1 + (P.quoteL x.data.toList).length) + 1 ≤ _; omega)]
     congr 1
  · rw [if_neg c, w64n i (by omega)]
    refine ih (i + 1) k (by omega) (by omega) (by omega) (fun j hj => ?_)
    by_cases e : j = i
    · rw [e]; exact c
    · exact hno j (by omega)
theorem rsym_f (hm : m ≤ 35184372088831) (h0 : ∀ x ∈ l0, x.size ≤ m) (h1 : ∀ x ∈ l1, x.size ≤ m) (hl0 : l0.length ≤ 9223372036854775806) (hl : l1.length ≤ 9223372036854775806) (s : Int) (k : Nat) (hk : l1.length + 3 * m + 4 ≤ k) :
 dovetailref05_Symbol.f k l0 l1 a2 R s = some ⟨(P.symL l0 l1 s).toArray⟩ := by
 obtain ⟨k, rfl⟩ : ∃ j, k = j + 1 := ⟨k - 1, by omega⟩
 have hneg : ∀ b, b = false → ¬ (0 ≤ s ∧ s < (l0.length : Int)) → s ≠ (l0.length : Int) → dovetailref05_Symbol.j0 (k + 1) s b l0 l1 a2 R = some ⟨(P.symL l0 l1 s).toArray⟩ := by
  intro b hb hn hne
  rw [dovetailref05_Symbol.j0, hb, if_neg (by decide)]
  have := rsym_l1 (l0 := l0) (a2 := a2) (R := R) hm h1 hl s l1.length 0 k (by omega) (by omega) (by omega) (fun j hj => by omega)
  rw [show ((0 : Nat) : Int) = 0 from rfl] at this
  rw [this]
  congr 3
  unfold P.symL
  rw [if_neg hne]
  by_cases c : 0 ≤ s
  · rw [if_neg (fun h => by omega), if_pos c, if_neg (fun h => hn ⟨c, h⟩)]
  · rw [if_neg c]
    by_cases d : -1 - s < (l1.length : Int)
    · rw [if_pos ⟨by omega, d⟩, if_pos d]
    · rw [if_neg (fun h => d h.2), if_neg d]
 unfold dovetailref05_Symbol.f
 by_cases c0 : s = (l0.length : Int)
 · rw [if_pos c0]
   unfold P.symL
   rw [if_pos c0]
 rw [if_neg c0]
 by_cases c1 : s ≥ 0
 · rw [if_pos c1]
   by_cases c2 : s < (l0.length : Int)
   · have hsz := getD_size h0 s.toNat
     rw [decide_eq_true c2, dovetailref05_Symbol.j0, if_pos rfl, if_pos c1, if_pos c2, rdS]
     unfold P.symL
     rw [if_neg c0, if_pos c1, if_pos c2]
     generalize l0.getD s.toNat ByteArray.empty = x at hsz
     rw [rfree_f x (by omega) k (by omega), Option.bind_some]
     have := rsym_l0 (l0 := l0) (a2 := a2) (R := R) (m := m) hm hl x hsz l1.length 0 k (P.freeL x.data.toList) (by omega) (by omega) (by omega)
     rw [show ((0 : Nat) : Int) = 0 from rfl, List.drop_zero] at this
     rw [this]
     congr 1
     by_cases d : x ∈ l1 ∨ P.freeL x.data.toList = false
     · rw [if_pos d, if_neg]
       rcases d with d | d
       · rw [decide_eq_true d]; simp
       · rw [d]; simp
     · rw [if_neg d, if_pos]
       rw [not_or] at d
       rw [decide_eq_false d.1]
       simpa using d.2
   · exact hneg _ (decide_eq_false c2) (fun h => c2 h.2) c0
 · rw [if_neg c1]
   exact hneg _ rfl (fun h => c1 h.1) c0
end
end Go.Proofs.YthjhaogfpdkhbaaDoor.Sh
/- show.Symbol, show.Symbols, the document's Symbols: walked. -/
namespace Go.Proofs.YthjhaogfpdkhbaaDoor.Sh
open Go.RowKit YthjhaogfpdkhbaaDoorW.PrintWords YthjhaogfpdkhbaaDoorW.PrintLast YthjhaogfpdkhbaaDoorW.PrintMore
open B H

def GS (w : World) (cs : Array Value) (W : World) : Prop := Below w.heap.size w W ∧ Box w.heap.size cs 25 W
theorem GS.start (w : World) (cs : Array Value) : GS w cs (w.alloc (.cells cs 25)) := ⟨(Below.refl _ w).alloc (Nat.le_refl _) _, Box.new w _ _⟩
theorem GS.low {w : World} {cs : Array Value} {W : World} (h : GS w cs W) : Below w.heap.size w W := h.1
theorem GS.more {w : World} {cs : Array Value} {W W' : World} (h : GS w cs W) (hb : Below W.heap.size W W') : GS w cs W' := ⟨h.1.trans (hb.mono h.1.size), h.2.below hb⟩
theorem GS.cells {w W : World} {v0 v1 v2 v3 : Value} (h : GS w #[v0, v1, v2, v3] W) : W.cell? ⟨w.heap.size, 0, none⟩ = some v0 ∧ W.cell? ⟨w.heap.size, 1, none⟩ = some v1 ∧ W.cell? ⟨w.heap.size, 2, none⟩ = some v2 ∧ W.cell? ⟨w.heap.size, 3, none⟩ = some v3 :=
 ⟨h.2.cell 0 _ rfl, h.2.cell 1 _ rfl, h.2.cell 2 _ rfl, h.2.cell 3 _ rfl⟩
theorem GS.base {w : World} {cs : Array Value} {W W' : World} (h : GS w cs W) (base : Nat) (hb : Below base W W') (h0 : w.heap.size < base) : GS w cs W' := ⟨h.1.trans (hb.mono (by omega)), (hb.block _ h0).trans h.2⟩
set_option maxHeartbeats 4000000 in
set_option maxRecDepth 100000 in
theorem Symbol_calls (A0 : Option Addr) (c0 : Nat) (l0 : List ByteArray) (A1 : Option Addr) (c1 : Nat) (l1 : List ByteArray) (a2 : Int) (A3 : Option Addr) (c3 : Nat) (R : List S52) (s : Int) (m : Nat) (w : World) (hr0 : Kd.C Kd.string w A0 l0.length l0) (hc0 : l0.length ≤ c0) (hr1 : Kd.C Kd.string w A1 l1.length l1) (hc1 : l1.length ≤ c1) (hr3 : Kd.C k52 w A3 R.length R) (hc3 : R.length ≤ c3) (hm : m ≤ 35184372088000) (z0 : ∀ x ∈ l0, x.size ≤ m) (z1 : ∀ x ∈ l1, x.size ≤ m) (s0 : -9223372036854775808 ≤ s) (s1 : s < 9223372036854775808) :
 Calls Tryd.prog 19 #[.agg #[.slice A0 l0.length c0, .slice A1 l1.length c1, .int .i64 a2, .slice A3 R.length c3], .int .i64 s] w fun e w' => e = .returned (.string ⟨(P.symL l0 l1 s).toArray⟩) ∧ Below w.heap.size w w' := by
 have m1 := C_max hr1
 obtain ⟨cs, hcs⟩ : ∃ cs : Array Value, cs = #[.slice A0 l0.length c0, .slice A1 l1.length c1, .int .i64 a2, .slice A3 R.length c3] := ⟨_, rfl⟩
 have st : GS w cs (w.alloc (.cells #[.slice A0 l0.length c0, .slice A1 l1.length c1, .int .i64 a2, .slice A3 R.length c3] 25)) := by subst hcs; exact GS.start w _
 have ce : ∀ W, GS w cs W → W.cell? ⟨w.heap.size, 0, none⟩ = some (.slice A0 l0.length c0) ∧ W.cell? ⟨w.heap.size, 1, none⟩ = some (.slice A1 l1.length c1) ∧ W.cell? ⟨w.heap.size, 2, none⟩ = some (.int .i64 a2) ∧ W.cell? ⟨w.heap.size, 3, none⟩ = some (.slice A3 R.length c3) := by
  intro W hW; subst hcs; exact hW.cells
 have hn := name_f (l0 := l0) (l1 := l1) (a2 := a2) (R := R) s s0 s1
 have hsz : (nameA l0 l1 s).1.size ≤ m := by
  unfold nameA
  split
  · split
    · exact getD_size z1 _
    · exact Nat.zero_le _
  · split
    · exact getD_size z0 _
    · exact Nat.zero_le _
 have hsym : P.symL l0 l1 s = (if s = (l0.length : Int) then [36] else if (nameA l0 l1 s).2 = false then [63] else if s < 0 then (if P.freeL (nameA l0 l1 s).1.data.toList = true then (nameA l0 l1 s).1.data.toList else 60 :: P.quoteL (nameA l0 l1 s).1.data.toList ++ [62]) else if (nameA l0 l1 s).1 ∈ l1 ∨ P.freeL (nameA l0 l1 s).1.data.toList = false then P.quoteL (nameA l0 l1 s).1.data.toList else (nameA l0 l1 s).1.data.toList) := by
  unfold P.symL nameA
  by_cases d0 : s = (l0.length : Int)
  · rw [if_pos d0, if_pos d0]
  rw [if_neg d0, if_neg d0]
  by_cases d1 : s < 0
  · rw [if_neg (show ¬ 0 ≤ s by omega), if_pos d1]
    by_cases d2 : -1 - s < (l1.length : Int)
    · rw [if_pos d2, if_pos d2]; dsimp only; rw [if_neg (show ¬ (true = false) by decide), if_pos d1]
    · rw [if_neg d2, if_neg d2]; dsimp only; rw [if_pos (show false = false from rfl)]
  · rw [if_pos (show 0 ≤ s by omega), if_neg d1]
    by_cases d2 : s < (l0.length : Int)
    · rw [if_pos d2, if_pos d2]; dsimp only; rw [if_neg (show ¬ (true = false) by decide), if_neg d1]
    · rw [if_neg d2, if_neg d2]; dsimp only; rw [if_pos (show false = false from rfl)]
 generalize nameA l0 l1 s = nk at hn hsz hsym
 obtain ⟨nm, ok⟩ := nk
 dsimp only at hsz hsym
 obtain ⟨ix, hix⟩ := nonterm_f (l0 := l0) (l1 := l1) (a2 := a2) (R := R) nm (l1.length + 1) m1 (by omega)
 have kN : ∀ W, GS w cs W → Calls Tryd.prog 45 #[.agg #[.slice A0 l0.length c0, .slice A1 l1.length c1, .int .i64 a2, .slice A3 R.length c3], .int .i64 s] W fun e w' => e = .returned (.tuple #[.string nm, .bool ok]) ∧ Aside0 (GS w cs w') := fun W hW =>
  (gram_Name.calls A0 c0 l0 A1 c1 l1 a2 A3 c3 R s nm ok W (Kd.C_below hr0 hW.low) hc0 (Kd.C_below hr1 hW.low) hc1 (Kd.C_below hr3 hW.low) hc3 hn).mono fun _ _ ⟨he, hb⟩ => ⟨he, ⟨hW.more hb⟩⟩
 have kT : ∀ W, GS w cs W → Calls Tryd.prog 44 #[.agg #[.slice A0 l0.length c0, .slice A1 l1.length c1, .int .i64 a2, .slice A3 R.length c3], .string nm] W fun e w' => e = .returned (.tuple #[.int .i64 ix, .bool (decide (nm ∈ l1))]) ∧ Aside0 (GS w cs w') := fun W hW =>
  (gram_Nonterm.calls _ A0 c0 l0 A1 c1 l1 a2 A3 c3 R nm ix _ W (Kd.C_below hr0 hW.low) hc0 (Kd.C_below hr1 hW.low) hc1 (Kd.C_below hr3 hW.low) hc3 hix).mono fun _ _ ⟨he, hb⟩ => ⟨he, ⟨hW.more hb⟩⟩
 have kF : ∀ W, GS w cs W → Calls Tryd.prog 59 #[.string nm] W fun e w' => e = .returned (.bool (P.freeL nm.data.toList)) ∧ Aside0 (GS w cs w') := fun W hW =>
  (show_free.calls (nm.size + 1) nm _ W (free_f nm (by omega) _ (by omega))).mono fun _ _ ⟨he, hd⟩ => ⟨he, ⟨hW.more hd.below⟩⟩
 have kQ : ∀ W, GS w cs W → Calls Tryd.prog 60 #[.string nm] W fun e w' => e = .returned (.string ⟨(P.quoteL nm.data.toList).toArray⟩) ∧ Aside0 (GS w cs w') := fun W hW =>
  (Quote_calls nm W (by omega)).mono fun _ _ ⟨he, hb⟩ => ⟨he, ⟨hW.more hb⟩⟩
 have hql : (P.quoteL nm.data.toList).length ≤ 4 * nm.size + 2 := by
  have := P.quoteL_length nm.data.toList
  have e : nm.data.toList.length = nm.size := by simp
  omega
 have hqs : (⟨(P.quoteL nm.data.toList).toArray⟩ : ByteArray).size ≤ 4 * nm.size + 2 := by rw [P.size_lit]; exact hql
 have hdg : ∀ a q z : ByteArray, ((a ++ q) ++ z).data.toList = a.data.toList ++ q.data.toList ++ z.data.toList := fun a q z => by rw [P.data_append, P.data_append]
 have hD : (⟨(60 :: P.quoteL nm.data.toList ++ [62]).toArray⟩ : ByteArray) = (⟨#[60]⟩ : ByteArray) ++ (⟨(P.quoteL nm.data.toList).toArray⟩ : ByteArray) ++ (⟨#[62]⟩ : ByteArray) := by
  refine ba_eq ?_
  rw [hdg]
  rfl
 have hnm0 : (⟨nm.data.toList.toArray⟩ : ByteArray) = nm := ba_eq rfl
 have KN := Aside0.mk kN
 have KT := Aside0.mk kT
 have KF := Aside0.mk kF
 have KQ := Aside0.mk kQ
 have CE := Aside0.mk ce
 have T := Aside0.mk st
 have HCS := Lib.hid hcs
 clear hr0 hr1 hr3 kN kT kF kQ ce st hn hix z0 z1 hcs
 by_cases d0 : s = (l0.length : Int)
 · have hfin : (⟨(P.symL l0 l1 s).toArray⟩ : ByteArray) = ⟨#[36]⟩ := by rw [hsym, if_pos d0]
   clear hsym hD hnm0 hql hqs hdg
   subst d0
   go_enter Tryd.func19, Tryd.ntmps19
   go_wp2_with (first
    | (go_at_call 45; (with_reducible refine (KN.out _ T.out).mono ?_); rintro e w1 ⟨rfl, t1⟩; (try clear f0 f1 f2 f3); clear T; have T := t1; clear t1; obtain ⟨f0, f1, f2, f3⟩ := CE.out _ T.out)
    | (go_at_call 59; (with_reducible refine (KF.out _ T.out).mono ?_); rintro e w2 ⟨rfl, t2⟩; (try clear f0 f1 f2 f3); clear T; have T := t2; clear t2; obtain ⟨f0, f1, f2, f3⟩ := CE.out _ T.out)
    | (go_at_call 44; (with_reducible refine (KT.out _ T.out).mono ?_); rintro e w3 ⟨rfl, t3⟩; (try clear f0 f1 f2 f3); clear T; have T := t3; clear t3; obtain ⟨f0, f1, f2, f3⟩ := CE.out _ T.out)
    | (go_at_call 60; (with_reducible refine (KQ.out _ T.out).mono ?_); rintro e w4 ⟨rfl, t4⟩; (try clear f0 f1 f2 f3); clear T; have T := t4; clear t4; obtain ⟨f0, f1, f2, f3⟩ := CE.out _ T.out))
   go_ret
   exact ⟨by rw [hfin]; rfl, T.out.low⟩
 have e0 : decide (s = (l0.length : Int)) = false := decide_eq_false d0
 have e0b : (s == (l0.length : Int)) = false := by simpa using d0
 rw [if_neg d0] at hsym
 clear d0
 cases ok with
 | false =>
  have hfin : (⟨(P.symL l0 l1 s).toArray⟩ : ByteArray) = ⟨#[63]⟩ := by rw [hsym, if_pos rfl]
  clear hsym hD hnm0 hql hqs hdg
  go_enter Tryd.func19, Tryd.ntmps19
  go_wp2_with (first
   | (go_at_call 45; (with_reducible refine (KN.out _ T.out).mono ?_); rintro e w1 ⟨rfl, t1⟩; (try clear f0 f1 f2 f3); clear T; have T := t1; clear t1; obtain ⟨f0, f1, f2, f3⟩ := CE.out _ T.out)
   | (go_at_call 59; (with_reducible refine (KF.out _ T.out).mono ?_); rintro e w2 ⟨rfl, t2⟩; (try clear f0 f1 f2 f3); clear T; have T := t2; clear t2; obtain ⟨f0, f1, f2, f3⟩ := CE.out _ T.out)
   | (go_at_call 44; (with_reducible refine (KT.out _ T.out).mono ?_); rintro e w3 ⟨rfl, t3⟩; (try clear f0 f1 f2 f3); clear T; have T := t3; clear t3; obtain ⟨f0, f1, f2, f3⟩ := CE.out _ T.out)
   | (go_at_call 60; (with_reducible refine (KQ.out _ T.out).mono ?_); rintro e w4 ⟨rfl, t4⟩; (try clear f0 f1 f2 f3); clear T; have T := t4; clear t4; obtain ⟨f0, f1, f2, f3⟩ := CE.out _ T.out))
  go_ret
  exact ⟨by rw [hfin]; rfl, T.out.low⟩
 | true =>
  rw [if_neg (by decide)] at hsym
  by_cases d1 : s < 0
  · rw [if_pos d1] at hsym
    have e1 : decide (s < 0) = true := decide_eq_true d1
    clear d1
    cases hfr : P.freeL nm.data.toList with
    | true =>
     have hfin : (⟨(P.symL l0 l1 s).toArray⟩ : ByteArray) = nm := by rw [hsym, if_pos hfr, hnm0]
     rw [hfr] at KF
     clear hsym hD hnm0 hql hqs hdg hfr
     go_enter Tryd.func19, Tryd.ntmps19
     go_wp2_with (first
      | (go_at_call 45; (with_reducible refine (KN.out _ T.out).mono ?_); rintro e w1 ⟨rfl, t1⟩; (try clear f0 f1 f2 f3); clear T; have T := t1; clear t1; obtain ⟨f0, f1, f2, f3⟩ := CE.out _ T.out)
      | (go_at_call 59; (with_reducible refine (KF.out _ T.out).mono ?_); rintro e w2 ⟨rfl, t2⟩; (try clear f0 f1 f2 f3); clear T; have T := t2; clear t2; obtain ⟨f0, f1, f2, f3⟩ := CE.out _ T.out)
      | (go_at_call 44; (with_reducible refine (KT.out _ T.out).mono ?_); rintro e w3 ⟨rfl, t3⟩; (try clear f0 f1 f2 f3); clear T; have T := t3; clear t3; obtain ⟨f0, f1, f2, f3⟩ := CE.out _ T.out)
      | (go_at_call 60; (with_reducible refine (KQ.out _ T.out).mono ?_); rintro e w4 ⟨rfl, t4⟩; (try clear f0 f1 f2 f3); clear T; have T := t4; clear t4; obtain ⟨f0, f1, f2, f3⟩ := CE.out _ T.out))
     go_ret
     exact ⟨by rw [hfin]; rfl, T.out.low⟩
    | false =>
     have hfin : (⟨(P.symL l0 l1 s).toArray⟩ : ByteArray) = (⟨#[60]⟩ : ByteArray) ++ (⟨(P.quoteL nm.data.toList).toArray⟩ : ByteArray) ++ (⟨#[62]⟩ : ByteArray) := by rw [hsym, hfr, if_neg (by decide), hD]
     rw [hfr] at KF
     clear hsym hD hnm0 hql hdg hfr
     generalize (⟨(P.quoteL nm.data.toList).toArray⟩ : ByteArray) = q at hfin KQ hqs
     have b1 : ¬ 9223372036854775807 < 1 + q.size := by omega
     have b2 : ¬ 9223372036854775807 < 1 + q.size + 1 := by omega
     have b3 : ¬ 9223372036854775807 < ((⟨#[60]⟩ : ByteArray) ++ q).size + 1 := by rw [P.size_append]; show ¬ _ < 1 + q.size + 1; omega
     go_enter Tryd.func19, Tryd.ntmps19
     go_wp2_with (first
      | (go_at_call 45; (with_reducible refine (KN.out _ T.out).mono ?_); rintro e w1 ⟨rfl, t1⟩; (try clear f0 f1 f2 f3); clear T; have T := t1; clear t1; obtain ⟨f0, f1, f2, f3⟩ := CE.out _ T.out)
      | (go_at_call 59; (with_reducible refine (KF.out _ T.out).mono ?_); rintro e w2 ⟨rfl, t2⟩; (try clear f0 f1 f2 f3); clear T; have T := t2; clear t2; obtain ⟨f0, f1, f2, f3⟩ := CE.out _ T.out)
      | (go_at_call 44; (with_reducible refine (KT.out _ T.out).mono ?_); rintro e w3 ⟨rfl, t3⟩; (try clear f0 f1 f2 f3); clear T; have T := t3; clear t3; obtain ⟨f0, f1, f2, f3⟩ := CE.out _ T.out)
      | (go_at_call 60; (with_reducible refine (KQ.out _ T.out).mono ?_); rintro e w4 ⟨rfl, t4⟩; (try clear f0 f1 f2 f3); clear T; have T := t4; clear t4; obtain ⟨f0, f1, f2, f3⟩ := CE.out _ T.out))
     go_ret
     exact ⟨by rw [hfin]; rfl, T.out.low⟩
  · rw [if_neg d1] at hsym
    have e1 : decide (s < 0) = false := decide_eq_false d1
    clear d1
    by_cases d2 : nm ∈ l1
    · rw [if_pos (.inl d2)] at hsym
      have hfin : (⟨(P.symL l0 l1 s).toArray⟩ : ByteArray) = ⟨(P.quoteL nm.data.toList).toArray⟩ := by rw [hsym]
      rw [decide_eq_true d2] at KT
      clear hsym hD hnm0 hql hqs hdg d2
      go_enter Tryd.func19, Tryd.ntmps19
      go_wp2_with (first
       | (go_at_call 45; (with_reducible refine (KN.out _ T.out).mono ?_); rintro e w1 ⟨rfl, t1⟩; (try clear f0 f1 f2 f3); clear T; have T := t1; clear t1; obtain ⟨f0, f1, f2, f3⟩ := CE.out _ T.out)
       | (go_at_call 59; (with_reducible refine (KF.out _ T.out).mono ?_); rintro e w2 ⟨rfl, t2⟩; (try clear f0 f1 f2 f3); clear T; have T := t2; clear t2; obtain ⟨f0, f1, f2, f3⟩ := CE.out _ T.out)
       | (go_at_call 44; (with_reducible refine (KT.out _ T.out).mono ?_); rintro e w3 ⟨rfl, t3⟩; (try clear f0 f1 f2 f3); clear T; have T := t3; clear t3; obtain ⟨f0, f1, f2, f3⟩ := CE.out _ T.out)
       | (go_at_call 60; (with_reducible refine (KQ.out _ T.out).mono ?_); rintro e w4 ⟨rfl, t4⟩; (try clear f0 f1 f2 f3); clear T; have T := t4; clear t4; obtain ⟨f0, f1, f2, f3⟩ := CE.out _ T.out))
      go_ret
      exact ⟨by rw [hfin]; rfl, T.out.low⟩
    · cases hfr : P.freeL nm.data.toList with
      | false =>
       rw [if_pos (.inr hfr)] at hsym
       have hfin : (⟨(P.symL l0 l1 s).toArray⟩ : ByteArray) = ⟨(P.quoteL nm.data.toList).toArray⟩ := by rw [hsym]
       rw [decide_eq_false d2] at KT
       rw [hfr] at KF
       clear hsym hD hnm0 hql hqs hdg d2 hfr
       go_enter Tryd.func19, Tryd.ntmps19
       go_wp2_with (first
        | (go_at_call 45; (with_reducible refine (KN.out _ T.out).mono ?_); rintro e w1 ⟨rfl, t1⟩; (try clear f0 f1 f2 f3); clear T; have T := t1; clear t1; obtain ⟨f0, f1, f2, f3⟩ := CE.out _ T.out)
        | (go_at_call 59; (with_reducible refine (KF.out _ T.out).mono ?_); rintro e w2 ⟨rfl, t2⟩; (try clear f0 f1 f2 f3); clear T; have T := t2; clear t2; obtain ⟨f0, f1, f2, f3⟩ := CE.out _ T.out)
        | (go_at_call 44; (with_reducible refine (KT.out _ T.out).mono ?_); rintro e w3 ⟨rfl, t3⟩; (try clear f0 f1 f2 f3); clear T; have T := t3; clear t3; obtain ⟨f0, f1, f2, f3⟩ := CE.out _ T.out)
        | (go_at_call 60; (with_reducible refine (KQ.out _ T.out).mono ?_); rintro e w4 ⟨rfl, t4⟩; (try clear f0 f1 f2 f3); clear T; have T := t4; clear t4; obtain ⟨f0, f1, f2, f3⟩ := CE.out _ T.out))
       go_ret
       exact ⟨by rw [hfin]; rfl, T.out.low⟩
      | true =>
       rw [if_neg (fun h => h.elim d2 (fun h => by rw [hfr] at h; cases h))] at hsym
       have hfin : (⟨(P.symL l0 l1 s).toArray⟩ : ByteArray) = nm := by rw [hsym, hnm0]
       rw [decide_eq_false d2] at KT
       rw [hfr] at KF
       clear hsym hD hnm0 hql hqs hdg d2 hfr
       go_enter Tryd.func19, Tryd.ntmps19
       go_wp2_with (first
        | (go_at_call 45; (with_reducible refine (KN.out _ T.out).mono ?_); rintro e w1 ⟨rfl, t1⟩; (try clear f0 f1 f2 f3); clear T; have T := t1; clear t1; obtain ⟨f0, f1, f2, f3⟩ := CE.out _ T.out)
        | (go_at_call 59; (with_reducible refine (KF.out _ T.out).mono ?_); rintro e w2 ⟨rfl, t2⟩; (try clear f0 f1 f2 f3); clear T; have T := t2; clear t2; obtain ⟨f0, f1, f2, f3⟩ := CE.out _ T.out)
        | (go_at_call 44; (with_reducible refine (KT.out _ T.out).mono ?_); rintro e w3 ⟨rfl, t3⟩; (try clear f0 f1 f2 f3); clear T; have T := t3; clear t3; obtain ⟨f0, f1, f2, f3⟩ := CE.out _ T.out)
        | (go_at_call 60; (with_reducible refine (KQ.out _ T.out).mono ?_); rintro e w4 ⟨rfl, t4⟩; (try clear f0 f1 f2 f3); clear T; have T := t4; clear t4; obtain ⟨f0, f1, f2, f3⟩ := CE.out _ T.out))
       go_ret
       exact ⟨by rw [hfin]; rfl, T.out.low⟩

set_option maxHeartbeats 4000000 in
set_option maxRecDepth 100000 in
theorem Symbols_calls (A0 : Option Addr) (c0 : Nat) (l0 : List ByteArray) (A1 : Option Addr) (c1 : Nat) (l1 : List ByteArray) (a2 : Int) (A3 : Option Addr) (c3 : Nat) (R : List S52) (A : Option Addr) (c : Nat) (l : List Int) (m : Nat) (w : World) (hr0 : Kd.C Kd.string w A0 l0.length l0) (hc0 : l0.length ≤ c0) (hr1 : Kd.C Kd.string w A1 l1.length l1) (hc1 : l1.length ≤ c1) (hr3 : Kd.C k52 w A3 R.length R) (hc3 : R.length ≤ c3) (hr : Kd.C (Kd.int .i64) w A l.length l) (hc : l.length ≤ c) (hm : m ≤ 35184372088000) (z0 : ∀ x ∈ l0, x.size ≤ m) (z1 : ∀ x ∈ l1, x.size ≤ m) (hb : (4 * m + 5) * l.length ≤ 140737488355328) (hs : ∀ s ∈ l, -9223372036854775808 ≤ s ∧ s < 9223372036854775808) :
 Calls Tryd.prog 21 #[.agg #[.slice A0 l0.length c0, .slice A1 l1.length c1, .int .i64 a2, .slice A3 R.length c3], .slice A l.length c] w fun e w' => e = .returned (.string ⟨(P.symsL l0 l1 l).toArray⟩) ∧ Below w.heap.size w w' := by
 have hll : l.length ≤ 140737488355328 := Nat.le_trans (Nat.le_mul_of_pos_left _ (by omega)) hb
 obtain ⟨cs, hcs⟩ : ∃ cs : Array Value, cs = #[.slice A0 l0.length c0, .slice A1 l1.length c1, .int .i64 a2, .slice A3 R.length c3] := ⟨_, rfl⟩
 have st : GS w cs (w.alloc (.cells #[.slice A0 l0.length c0, .slice A1 l1.length c1, .int .i64 a2, .slice A3 R.length c3] 25)) := by subst hcs; exact GS.start w _
 have ce : ∀ W, GS w cs W → W.cell? ⟨w.heap.size, 0, none⟩ = some (.slice A0 l0.length c0) ∧ W.cell? ⟨w.heap.size, 1, none⟩ = some (.slice A1 l1.length c1) ∧ W.cell? ⟨w.heap.size, 2, none⟩ = some (.int .i64 a2) ∧ W.cell? ⟨w.heap.size, 3, none⟩ = some (.slice A3 R.length c3) := by
  intro W hW; subst hcs; exact hW.cells
 have h1 : BU (w.heap.size + 1) (w.heap.size + 1) [] ((w.alloc (.cells #[.slice A0 l0.length c0, .slice A1 l1.length c1, .int .i64 a2, .slice A3 R.length c3] 25)).alloc (.cells #[.pointer none, .slice none 0 0] 103)) := by
  have := BU_new (w.alloc (.cells #[.slice A0 l0.length c0, .slice A1 l1.length c1, .int .i64 a2, .slice A3 R.length c3] 25))
  rwa [World.size_alloc] at this
 have st1 : GS w cs ((w.alloc (.cells #[.slice A0 l0.length c0, .slice A1 l1.length c1, .int .i64 a2, .slice A3 R.length c3] 25)).alloc (.cells #[.pointer none, .slice none 0 0] 103)) := st.more ((Below.refl _ _).alloc (Nat.le_refl _) _)
 have kS : ∀ s ∈ l, ∀ W, GS w cs W → Calls Tryd.prog 19 #[.agg #[.slice A0 l0.length c0, .slice A1 l1.length c1, .int .i64 a2, .slice A3 R.length c3], .int .i64 s] W fun e w' => e = .returned (.string ⟨(P.symL l0 l1 s).toArray⟩) ∧ Below W.heap.size W w' := fun s hsl W hW =>
  Symbol_calls A0 c0 l0 A1 c1 l1 a2 A3 c3 R s m W (Kd.C_below hr0 hW.low) hc0 (Kd.C_below hr1 hW.low) hc1 (Kd.C_below hr3 hW.low) hc3 hm z0 z1 (hs s hsl).1 (hs s hsl).2
 have hlen : ∀ k, (P.symsL l0 l1 (l.take k)).length ≤ (4 * m + 5) * l.length := fun k => Nat.le_trans (P.symsL_length z0 z1 (l.take k)) (Nat.mul_le_mul_left _ (List.length_take_le' _ _))
 have hsl : ∀ s, (P.symL l0 l1 s).length ≤ 4 * m + 4 := fun s => P.symL_length z0 z1 s
 have KS := Aside0.mk kS
 have CE := Aside0.mk ce
 have HR := Aside0.mk hr
 have HL := Aside0.mk hlen
 have HSL := Aside0.mk hsl
 have ST1 := Aside0.mk st1
 have HB0 := Aside0.mk h1
 have HCS := Lib.hid hcs
 have HBB := Aside0.mk hb
 clear hr0 hr1 hr3 hr kS ce st st1 h1 z0 z1 hlen hsl hcs hs hb
 go_enter Tryd.func21, Tryd.ntmps21
 go_wp2_with fail
 go_loopw [6, 7, 10] (fun _ _ i wr => ∃ k : Nat, k ≤ l.length ∧ i = .int .i64 k ∧ Aside0 (BU (w.heap.size + 1) (w.heap.size + 1) (P.symsL l0 l1 (l.take k)) wr ∧ GS w cs wr)) (fun _ _ i _ => l.length - (intOf i).toNat)
 case atStart => exact ⟨0, Nat.zero_le _, rfl, ⟨HB0.out, ST1.out⟩⟩
 case round =>
  clear HB0 ST1
  obtain ⟨k, hk, rfl, tr⟩ := hrel
  by_cases hlt : k < l.length
  · have hbw : w.heap.size + 1 ≤ wr.heap.size := by have := BU_lt tr.out.1; omega
    obtain ⟨ad, rfl, hx⟩ := Kd.at_int (Kd.C_below HR.out tr.out.2.low) (k : Int) (by omega) (by omega)
    rw [Int.toNat_natCast, rd_D, getD_lt _ _ _ hlt] at hx
    have hmem := List.getElem_mem hlt
    have hsn : P.symsL l0 l1 (l.take (k + 1)) = P.symsL l0 l1 (l.take k) ++ (if l.take k = [] then [] else [32]) ++ P.symL l0 l1 l[k] := by
     rw [List.take_succ_eq_append_getElem hlt, P.symsL_snoc]
    have hln := HL.out (k + 1)
    rw [hsn, List.length_append, List.length_append] at hln
    have hbb := HBB.out
    have hcall := KS.out l[k] hmem
    generalize l[k] = x at hx hsn hln hcall
    have HSN := Lib.hid hsn
    have hln2 : (P.symsL l0 l1 (l.take k)).length + (if l.take k = [] then ([] : List UInt8) else [32]).length + (P.symL l0 l1 x).length ≤ 140737488355328 := by omega
    have HC := Aside0.mk hcall
    clear hsn hmem hln hcall hbb
    by_cases hk0 : k = 0
    · have hpre : l.take k = [] := by rw [hk0]; rfl
      rw [if_pos hpre, hpre] at hln2
      have hkd : decide (0 < (k : Int)) = false := decide_eq_false (by omega)
      have hkd' : decide (0 < k) = false := decide_eq_false (by omega)
      have HPRE := Lib.hid hpre
      clear hpre hk0
      obtain ⟨f0, f1, f2, f3⟩ := CE.out _ tr.out.2
      go_wp2_with (first
       | (go_at_call 19; (with_reducible refine (HC.out _ tr.out.2).mono ?_); rintro e w2 ⟨rfl, hb2⟩; have t2 : Aside0 (BU (w.heap.size + 1) (w.heap.size + 1) (P.symsL l0 l1 (l.take k)) w2 ∧ GS w cs w2) := ⟨BU_below tr.out.1 hb2, tr.out.2.more hb2⟩; have hsz2 := hb2.size; clear hb2)
       | (go_at_call 64; refine Aside0.out ?_))
      refine Aside0.mk ?_
      refine (wStr (w.heap.size + 1) (w.heap.size + 1) _ _ _ t2.out.1 (by rw [P.size_lit, HPRE.out]; exact hln2) (by omega)).mono ?_
      rintro e w4 ⟨rfl, hb4, hw4, _⟩
      have t4 : Aside0 (BU (w.heap.size + 1) (w.heap.size + 1) (P.symsL l0 l1 (l.take (k + 1))) w4 ∧ GS w cs w4) := ⟨by rw [HSN.out, if_pos HPRE.out, List.append_nil]; exact hb4, t2.out.2.base _ hw4 (by omega)⟩
      clear hb4 hw4
      go_wp2_with fail
      go_roundw
      case measure => simp [intOf]; omega
      case rel => exact ⟨k + 1, by omega, by go_num, t4⟩
    · have hpre : ¬ l.take k = [] := by
       intro h
       have := congrArg List.length h
       rw [List.length_take, List.length_nil] at this
       omega
      have hkp : 0 < k := by omega
      have hkd : decide (0 < (k : Int)) = true := decide_eq_true (by omega)
      have hkd' : decide (0 < k) = true := decide_eq_true hkp
      rw [if_neg hpre, List.length_singleton] at hln2
      have HPRE := Lib.hid hpre
      clear hpre
      go_wp2_with fail
      refine (wByteN (w.heap.size + 1) (w.heap.size + 1) _ 32 (by omega) _ tr.out.1 (by omega) (by omega)).mono ?_
      rintro e w1 ⟨rfl, hb1, hw1, _⟩
      have t1 : Aside0 (BU (w.heap.size + 1) (w.heap.size + 1) (P.symsL l0 l1 (l.take k) ++ [32]) w1 ∧ GS w cs w1) := ⟨hb1, tr.out.2.base _ hw1 (by omega)⟩
      have hsz1 := hw1.size
      clear hb1 hw1
      obtain ⟨f0, f1, f2, f3⟩ := CE.out _ t1.out.2
      go_wp2_with (first
       | (go_at_call 19; (with_reducible refine (HC.out _ t1.out.2).mono ?_); rintro e w2 ⟨rfl, hb2⟩; have t2 : Aside0 (BU (w.heap.size + 1) (w.heap.size + 1) (P.symsL l0 l1 (l.take k) ++ [32]) w2 ∧ GS w cs w2) := ⟨BU_below t1.out.1 hb2, t1.out.2.more hb2⟩; have hsz2 := hb2.size; clear hb2)
       | (go_at_call 64; refine Aside0.out ?_))
      refine Aside0.mk ?_
      refine (wStr (w.heap.size + 1) (w.heap.size + 1) _ _ _ t2.out.1 (by rw [P.size_lit, List.length_append, List.length_singleton]; omega) (by omega)).mono ?_
      rintro e w4 ⟨rfl, hb4, hw4, _⟩
      have t4 : Aside0 (BU (w.heap.size + 1) (w.heap.size + 1) (P.symsL l0 l1 (l.take (k + 1))) w4 ∧ GS w cs w4) := ⟨by rw [HSN.out, if_neg HPRE.out]; exact hb4, t2.out.2.base _ hw4 (by omega)⟩
      clear hb4 hw4
      go_wp2_with fail
      go_roundw
      case measure => simp [intOf]; omega
      case rel => exact ⟨k + 1, by omega, by go_num, t4⟩
  · have hkl : k = l.length := by omega
    have hbw : w.heap.size + 1 ≤ wr.heap.size := by have := BU_lt tr.out.1; omega
    go_wp2_with fail
    refine (wText (w.heap.size + 1) (w.heap.size + 1) _ _ tr.out.1 hbw).mono ?_
    rintro e w3 ⟨rfl, hw3⟩
    go_wp2
    go_ret
    subst hkl
    refine ⟨?_, (tr.out.2.base _ hw3 (by omega)).low⟩
    first | rfl | (rw [List.take_length]; rfl)
end Go.Proofs.YthjhaogfpdkhbaaDoor.Sh
/- append([]byte, s...), s a string, as one step of a region that draws its order. -/
namespace Go.Proofs.YthjhaogfpdkhbaaDoorW.PrintLast
open Go.RowKit YthjhaogfpdkhbaaDoorW.PrintWords

theorem print_append_str_step {P : Program} {ops : Array Oper} {o : Oper} {a : Act} {Q : Exit → Act → World → Prop} {K : Act → World → Prop} {w0 W : World} (base : Nat) (hw : Region.wanted o (yielded ops a.tmps) = true) (s x : Operand) (t u e : TypeId)
 (ho : o.op = .call { callee := .builtin .append, args := #[s, x], argTypes := #[t, u] })
 (ht : P.underlying t = some (.slice e)) (hu : P.underlying u = some .string) (hinfo : (P.info? e).map (fun i => (i.zero, i.size, i.bytes)) = some (some (.int .u8 0), 1, 1))
 (v : Value) (xs : List Int) (y : ByteArray) (hs : a.eval s = v) (hx : a.eval x = .string y)
 (HO : W.ownsRow base e 1 v xs.length (nums .u8 xs)) (HB : Below base w0 W) (hbase : base ≤ W.heap.size) (hl : xs.length + y.size ≤ 140737488355328)
 (h : ∀ v1 w1, w1.ownsRow base e 1 v1 (xs ++ bytesOf y).length (nums .u8 (xs ++ bytesOf y)) → Below base w0 w1 → W.grownBy w1 v.ownBlock → K (a.put o.dst v1) w1) :
 if Region.wanted o (yielded ops a.tmps) = true then Oper.wp P o a W K Q else K (a.put o.dst undef) W := by
 rw [if_pos hw]
 obtain ⟨i0, hi, hzz⟩ := Option.map_eq_some_iff.1 hinfo
 simp only [Prod.mk.injEq] at hzz
 obtain ⟨hz0, hz1, hz2⟩ := hzz
 obtain ⟨v', w', hr, h2, h3, h4⟩ := Lib.run_append_own_string (P := P) W base t u o.type e i0 ht hu hi hz0 hz1 hz2 v xs.length (nums .u8 xs) HO y (by simp only [maxLen]; omega) hl hbase
 unfold Oper.wp execOp
 simp only [ho, resolve, invoke, builtin, Sem.run_bind, Sem.run_pure, Result.andThen_ok, List.map_toArray, List.map_cons, List.map_nil, hs, hx, hr]
 have hl2 : (xs ++ bytesOf y).length = xs.length + y.size := by rw [List.length_append, bytesOf_length]
 have hc : nums .u8 (xs ++ bytesOf y) = nums .u8 xs ++ Lib.strCells y := by
  rw [nums_append]
  congr 1
  simp [nums, bytesOf, Lib.strCells]
 exact h v' w' (by rw [hl2, hc]; exact h2) (HB.grown h3 hbase (own_base HO)) h3
end Go.Proofs.YthjhaogfpdkhbaaDoorW.PrintLast
namespace Go.Proofs.YthjhaogfpdkhbaaDoor.D
open B (S52 z52 k52 k52_open rd_T52 at_T52 dovetailref03_Check.f dovetailref03_Check.calls dovetailref03_Check.mono dovetailref05_Symbol.f dovetailref05_Symbol.calls dovetailref05_Symbol.mono dovetailref05_Readable.f dovetailref05_Readable.calls dovetailref05_Readable.mono)
open Go.RowKit YthjhaogfpdkhbaaDoorW.PrintWords YthjhaogfpdkhbaaDoorW.PrintLast YthjhaogfpdkhbaaDoorW.PrintMore
attribute [local go_sem] max2_int min2_int max_two min_two max_three min_three max_four min_four   -- for this text's walks alone
set_option linter.unusedVariables false
set_option linter.unusedSimpArgs false



theorem info5 : (Tryd.prog.info? 5).map (fun i => (i.zero, i.size, i.bytes)) = some (some (.int .u8 0), 1, 1) := by kernel_rfl

end Go.Proofs.YthjhaogfpdkhbaaDoor.D
namespace Go.Proofs.YthjhaogfpdkhbaaDoor.D
open B (S52 z52 k52 k52_open rd_T52 at_T52 dovetailref03_Check.f dovetailref03_Check.calls dovetailref03_Check.mono dovetailref05_Symbol.f dovetailref05_Symbol.calls dovetailref05_Symbol.mono dovetailref05_Readable.f dovetailref05_Readable.calls dovetailref05_Readable.mono)
open Go.RowKit YthjhaogfpdkhbaaDoorW.PrintWords YthjhaogfpdkhbaaDoorW.PrintLast YthjhaogfpdkhbaaDoorW.PrintMore
attribute [local go_sem] max2_int min2_int max_two min_two max_three min_three max_four min_four   -- for this text's walks alone
set_option linter.unusedVariables false
set_option linter.unusedSimpArgs false

end Go.Proofs.YthjhaogfpdkhbaaDoor.D
namespace Go.Proofs.YthjhaogfpdkhbaaDoor.D
open B (S52 z52 k52 k52_open rd_T52 at_T52 dovetailref03_Check.f dovetailref03_Check.calls dovetailref03_Check.mono dovetailref05_Symbol.f dovetailref05_Symbol.calls dovetailref05_Symbol.mono dovetailref05_Readable.f dovetailref05_Readable.calls dovetailref05_Readable.mono)
open Go.RowKit YthjhaogfpdkhbaaDoorW.PrintWords YthjhaogfpdkhbaaDoorW.PrintLast YthjhaogfpdkhbaaDoorW.PrintMore
attribute [local go_sem] max2_int min2_int max_two min_two max_three min_three max_four min_four   -- for this text's walks alone
set_option linter.unusedVariables false
set_option linter.unusedSimpArgs false

end Go.Proofs.YthjhaogfpdkhbaaDoor.D
namespace Go.Proofs.YthjhaogfpdkhbaaDoor.D
open B (S52 z52 k52 k52_open rd_T52 at_T52 dovetailref03_Check.f dovetailref03_Check.calls dovetailref03_Check.mono dovetailref05_Symbol.f dovetailref05_Symbol.calls dovetailref05_Symbol.mono dovetailref05_Readable.f dovetailref05_Readable.calls dovetailref05_Readable.mono)
open Go.RowKit YthjhaogfpdkhbaaDoorW.PrintWords YthjhaogfpdkhbaaDoorW.PrintLast YthjhaogfpdkhbaaDoorW.PrintMore
attribute [local go_sem] max2_int min2_int max_two min_two max_three min_three max_four min_four   -- for this text's walks alone
set_option linter.unusedVariables false
set_option linter.unusedSimpArgs false

mutual
def dovetailref05_Text.l0 : Nat → List Int → Int → List ByteArray → List ByteArray → Int → List (S52) → Option (ByteArray × Int)
 | 0, _, _, _, _, _, _ => none
 | k + 1, x5, x6, x130000, x130001, x130002, x130003 => if x6 < (x130003.length : Int) then (if 0 ≤ x6 then (if x6 > 0 then (if 0 ≤ (wrap64 (x6 - 1)) then (if (wrap64 (x6 - 1)) < (x130003.length : Int) then (dovetailref05_Text.j1 k x5 x6 (((rd_T52 x130003 (wrap64 (x6 - 1))).f0) == ((rd_T52 x130003 x6).f0)) x130000 x130001 x130002 x130003 ((rd_T52 x130003 x6).f0) ((rd_T52 x130003 x6).f1)) else (none)) else (none)) else (dovetailref05_Text.j1 k x5 x6 false x130000 x130001 x130002 x130003 ((rd_T52 x130003 x6).f0) ((rd_T52 x130003 x6).f1))) else (none)) else (if x5.length < 140737488355328 then ((some (x5 ++ [10] : List Int)).bind fun y131 => (if (y131.length : Int) > 1048576 then (some ((⟨#[]⟩ : ByteArray), 12)) else (some (strOfNums y131, 0)))) else (none))
def dovetailref05_Text.j1 : Nat → List Int → Int → Bool → List ByteArray → List ByteArray → Int → List (S52) → Int → List Int → Option (ByteArray × Int)
 | 0, _, _, _, _, _, _, _, _, _ => none
 | k + 1, x5, x6, x39, x130000, x130001, x130002, x130003, x136000, x136001 => if x39 = true then (if x5.length + 2 < 140737488355328 then (dovetailref05_Text.j2 k (x5 ++ bytesOf (⟨#[32, 124]⟩ : ByteArray)) x6 x130000 x130001 x130002 x130003 x136000 x136001) else (none)) else (if x6 > 0 then (if x5.length < 140737488355328 then ((some (x5 ++ [10] : List Int)).bind fun y140 => (if 0 ≤ x136000 then (if x136000 < (x130001.length : Int) then (if y140.length + (rdOf ByteArray.empty x130001 x136000).size < 140737488355328 then ((some (y140 ++ bytesOf (rdOf ByteArray.empty x130001 x136000) : List Int)).bind fun y144 => (if y144.length + 2 < 140737488355328 then (dovetailref05_Text.j2 k (y144 ++ bytesOf (⟨#[32, 58]⟩ : ByteArray)) x6 x130000 x130001 x130002 x130003 x136000 x136001) else (none))) else (none)) else (none)) else (none))) else (none)) else (if 0 ≤ x136000 then (if x136000 < (x130001.length : Int) then (if x5.length + (rdOf ByteArray.empty x130001 x136000).size < 140737488355328 then ((some (x5 ++ bytesOf (rdOf ByteArray.empty x130001 x136000) : List Int)).bind fun y151 => (if y151.length + 2 < 140737488355328 then (dovetailref05_Text.j2 k (y151 ++ bytesOf (⟨#[32, 58]⟩ : ByteArray)) x6 x130000 x130001 x130002 x130003 x136000 x136001) else (none))) else (none)) else (none)) else (none)))
def dovetailref05_Text.j2 : Nat → List Int → Int → List ByteArray → List ByteArray → Int → List (S52) → Int → List Int → Option (ByteArray × Int)
 | 0, _, _, _, _, _, _, _, _ => none
 | k + 1, x5, x6, x130000, x130001, x130002, x130003, x136000, x136001 => dovetailref05_Text.l1 k x5 x6 0 x130000 x130001 x130002 x130003 x136000 x136001
def dovetailref05_Text.l1 : Nat → List Int → Int → Int → List ByteArray → List ByteArray → Int → List (S52) → Int → List Int → Option (ByteArray × Int)
 | 0, _, _, _, _, _, _, _, _, _ => none
 | k + 1, x5, x6, x8, x130000, x130001, x130002, x130003, x136000, x136001 => if x8 < (x136001.length : Int) then (if x5.length < 140737488355328 then ((some (x5 ++ [32] : List Int)).bind fun y157 => (if 0 ≤ x8 then ((dovetailref05_Symbol.f k x130000 x130001 x130002 x130003 (rd x136001 x8)).bind fun t161 => (if y157.length + t161.size < 140737488355328 then (dovetailref05_Text.l1 k (y157 ++ bytesOf t161) x6 (wrap64 (x8 + 1)) x130000 x130001 x130002 x130003 x136000 x136001) else (none))) else (none))) else (none)) else (dovetailref05_Text.l0 k x5 (wrap64 (x6 + 1)) x130000 x130001 x130002 x130003)
end
def dovetailref05_Text.f (k : Nat) (l0_0 : List ByteArray) (l0_1 : List ByteArray) (a0_2 : Int) (l0_3 : List (S52)) : Option (ByteArray × Int) := (dovetailref05_Readable.f k l0_0 l0_1 a0_2 l0_3).bind fun t130 => (if t130 = 0 then (dovetailref05_Text.l0 k ([] : List Int) 0 l0_0 l0_1 a0_2 l0_3) else (some ((⟨#[]⟩ : ByteArray), t130)))
theorem dovetailref05_Text.mono_l : ∀ k, (∀ y0 y1 y2 y3 y4 y5, LeO (dovetailref05_Text.l0 k y0 y1 y2 y3 y4 y5) (dovetailref05_Text.l0 (k + 1) y0 y1 y2 y3 y4 y5)) ∧ (∀ y0 y1 y2 y3 y4 y5 y6 y7 y8, LeO (dovetailref05_Text.j1 k y0 y1 y2 y3 y4 y5 y6 y7 y8) (dovetailref05_Text.j1 (k + 1) y0 y1 y2 y3 y4 y5 y6 y7 y8)) ∧ (∀ y0 y1 y2 y3 y4 y5 y6 y7, LeO (dovetailref05_Text.j2 k y0 y1 y2 y3 y4 y5 y6 y7) (dovetailref05_Text.j2 (k + 1) y0 y1 y2 y3 y4 y5 y6 y7)) ∧ (∀ y0 y1 y2 y3 y4 y5 y6 y7 y8, LeO (dovetailref05_Text.l1 k y0 y1 y2 y3 y4 y5 y6 y7 y8) (dovetailref05_Text.l1 (k + 1) y0 y1 y2 y3 y4 y5 y6 y7 y8))
 | 0 => ⟨fun _ _ _ _ _ _ r h => by simp [dovetailref05_Text.l0] at h, fun _ _ _ _ _ _ _ _ _ r h => by simp [dovetailref05_Text.j1] at h, fun _ _ _ _ _ _ _ _ r h => by simp [dovetailref05_Text.j2] at h, fun _ _ _ _ _ _ _ _ _ r h => by simp [dovetailref05_Text.l1] at h⟩
 | k + 1 => by
  obtain ⟨ih0, ih1, ih2, ih3⟩ := dovetailref05_Text.mono_l k
  refine ⟨?_, ?_, ?_, ?_⟩
  · intro y0 y1 y2 y3 y4 y5
    unfold dovetailref05_Text.l0
    repeat' first
    | (with_reducible exact ih0 _ _ _ _ _ _)
    | (with_reducible exact ih1 _ _ _ _ _ _ _ _ _)
    | (with_reducible exact ih2 _ _ _ _ _ _ _ _)
    | (with_reducible exact ih3 _ _ _ _ _ _ _ _ _)
    | (with_reducible exact dovetailref05_Readable.mono _ _ _ _ _)
    | (with_reducible exact dovetailref05_Symbol.mono _ _ _ _ _ _)
    | (with_reducible exact LeO.refl _)
    | (with_reducible exact LeO.none _)
    | (with_reducible refine LeO.ite ?_ ?_)
    | (with_reducible refine LeO.bind ?_ (fun _ => ?_))
    | exact ih0 _ _ _ _ _ _
    | exact ih1 _ _ _ _ _ _ _ _ _
    | exact ih2 _ _ _ _ _ _ _ _
    | exact ih3 _ _ _ _ _ _ _ _ _
    | exact dovetailref05_Readable.mono _ _ _ _ _
    | exact dovetailref05_Symbol.mono _ _ _ _ _ _
    | exact LeO.none _
    | refine LeO.ite ?_ ?_
    | refine LeO.bind ?_ (fun _ => ?_)
  · intro y0 y1 y2 y3 y4 y5 y6 y7 y8
    unfold dovetailref05_Text.j1
    repeat' first
    | (with_reducible exact ih0 _ _ _ _ _ _)
    | (with_reducible exact ih1 _ _ _ _ _ _ _ _ _)
    | (with_reducible exact ih2 _ _ _ _ _ _ _ _)
    | (with_reducible exact ih3 _ _ _ _ _ _ _ _ _)
    | (with_reducible exact dovetailref05_Readable.mono _ _ _ _ _)
    | (with_reducible exact dovetailref05_Symbol.mono _ _ _ _ _ _)
    | (with_reducible exact LeO.refl _)
    | (with_reducible exact LeO.none _)
    | (with_reducible refine LeO.ite ?_ ?_)
    | (with_reducible refine LeO.bind ?_ (fun _ => ?_))
    | exact ih0 _ _ _ _ _ _
    | exact ih1 _ _ _ _ _ _ _ _ _
    | exact ih2 _ _ _ _ _ _ _ _
    | exact ih3 _ _ _ _ _ _ _ _ _
    | exact dovetailref05_Readable.mono _ _ _ _ _
    | exact dovetailref05_Symbol.mono _ _ _ _ _ _
    | exact LeO.none _
    | refine LeO.ite ?_ ?_
    | refine LeO.bind ?_ (fun _ => ?_)
  · intro y0 y1 y2 y3 y4 y5 y6 y7
    unfold dovetailref05_Text.j2
    repeat' first
    | (with_reducible exact ih0 _ _ _ _ _ _)
    | (with_reducible exact ih1 _ _ _ _ _ _ _ _ _)
    | (with_reducible exact ih2 _ _ _ _ _ _ _ _)
    | (with_reducible exact ih3 _ _ _ _ _ _ _ _ _)
    | (with_reducible exact dovetailref05_Readable.mono _ _ _ _ _)
    | (with_reducible exact dovetailref05_Symbol.mono _ _ _ _ _ _)
    | (with_reducible exact LeO.refl _)
    | (with_reducible exact LeO.none _)
    | (with_reducible refine LeO.ite ?_ ?_)
    | (with_reducible refine LeO.bind ?_ (fun _ => ?_))
    | exact ih0 _ _ _ _ _ _
    | exact ih1 _ _ _ _ _ _ _ _ _
    | exact ih2 _ _ _ _ _ _ _ _
    | exact ih3 _ _ _ _ _ _ _ _ _
    | exact dovetailref05_Readable.mono _ _ _ _ _
    | exact dovetailref05_Symbol.mono _ _ _ _ _ _
    | exact LeO.none _
    | refine LeO.ite ?_ ?_
    | refine LeO.bind ?_ (fun _ => ?_)
  · intro y0 y1 y2 y3 y4 y5 y6 y7 y8
    unfold dovetailref05_Text.l1
    repeat' first
    | (with_reducible exact ih0 _ _ _ _ _ _)
    | (with_reducible exact ih1 _ _ _ _ _ _ _ _ _)
    | (with_reducible exact ih2 _ _ _ _ _ _ _ _)
    | (with_reducible exact ih3 _ _ _ _ _ _ _ _ _)
    | (with_reducible exact dovetailref05_Readable.mono _ _ _ _ _)
    | (with_reducible exact dovetailref05_Symbol.mono _ _ _ _ _ _)
    | (with_reducible exact LeO.refl _)
    | (with_reducible exact LeO.none _)
    | (with_reducible refine LeO.ite ?_ ?_)
    | (with_reducible refine LeO.bind ?_ (fun _ => ?_))
    | exact ih0 _ _ _ _ _ _
    | exact ih1 _ _ _ _ _ _ _ _ _
    | exact ih2 _ _ _ _ _ _ _ _
    | exact ih3 _ _ _ _ _ _ _ _ _
    | exact dovetailref05_Readable.mono _ _ _ _ _
    | exact dovetailref05_Symbol.mono _ _ _ _ _ _
    | exact LeO.none _
    | refine LeO.ite ?_ ?_
    | refine LeO.bind ?_ (fun _ => ?_)
theorem dovetailref05_Text.mono : ∀ a0 a1 a2 a3 k, LeO (dovetailref05_Text.f k a0 a1 a2 a3) (dovetailref05_Text.f (k + 1) a0 a1 a2 a3) := by
 intro a0 a1 a2 a3 k
 obtain ⟨ih0, ih1, ih2, ih3⟩ := dovetailref05_Text.mono_l k
 unfold dovetailref05_Text.f
 repeat' first
  | (with_reducible exact ih0 _ _ _ _ _ _)
  | (with_reducible exact ih1 _ _ _ _ _ _ _ _ _)
  | (with_reducible exact ih2 _ _ _ _ _ _ _ _)
  | (with_reducible exact ih3 _ _ _ _ _ _ _ _ _)
  | (with_reducible exact dovetailref05_Readable.mono _ _ _ _ _)
  | (with_reducible exact dovetailref05_Symbol.mono _ _ _ _ _ _)
  | (with_reducible exact LeO.refl _)
  | (with_reducible exact LeO.none _)
  | (with_reducible refine LeO.ite ?_ ?_)
  | (with_reducible refine LeO.bind ?_ (fun _ => ?_))
  | exact ih0 _ _ _ _ _ _
  | exact ih1 _ _ _ _ _ _ _ _ _
  | exact ih2 _ _ _ _ _ _ _ _
  | exact ih3 _ _ _ _ _ _ _ _ _
  | exact dovetailref05_Readable.mono _ _ _ _ _
  | exact dovetailref05_Symbol.mono _ _ _ _ _ _
  | exact LeO.none _
  | refine LeO.ite ?_ ?_
  | refine LeO.bind ?_ (fun _ => ?_)
def dovetailref05_Text.T9 : Bool × List (List Nat × List Nat) := (true, [([], []), ([0], [0]), ([1], [1]), ([2], [2]), ([3, 2], [2, 3]), ([2], [2]), ([5, 2], [2, 5]), ([4, 6, 2], [2, 4, 6]), ([7, 2], [2, 7]), ([8, 2], [2, 8]), ([2], [2]), ([10, 2], [2, 10]), ([9, 11, 2], [2, 9, 11]), ([2, 12], [2, 12])])
def dovetailref05_Text.B9 : List Nat := [0, 1, 3, 7, 15, 7, 39, 127, 255, 511, 7, 1031, 4095, 8191]
theorem dovetailref05_Text.tab9 : rtab .any (opsOf Tryd.f24 9) = dovetailref05_Text.T9 := by kernel_rfl
theorem dovetailref05_Text.bits9 : waitsOk dovetailref05_Text.T9.2 dovetailref05_Text.B9 = true := by kernel_rfl
def dovetailref05_Text.T19 : Bool × List (List Nat × List Nat) := (true, [([], []), ([], []), ([], []), ([2], [2]), ([], []), ([3, 4], [3, 4]), ([5], [5]), ([1, 6], [1, 6]), ([0, 7, 7], [0, 7]), ([8, 8, 0, 1, 2, 3, 4, 5, 6, 7, 8], [0, 8])])
def dovetailref05_Text.B19 : List Nat := [0, 0, 0, 4, 0, 28, 60, 126, 255, 511]
theorem dovetailref05_Text.tab19 : rtab .any (opsOf Tryd.f24 19) = dovetailref05_Text.T19 := by kernel_rfl
theorem dovetailref05_Text.bits19 : waitsOk dovetailref05_Text.T19.2 dovetailref05_Text.B19 = true := by kernel_rfl
set_option maxHeartbeats 8000000 in
set_option maxRecDepth 100000 in
theorem dovetailref05_Text.calls (k : Nat) (A0_0 : Option Addr) (c0_0 : Nat) (l0_0 : List ByteArray) (A0_1 : Option Addr) (c0_1 : Nat) (l0_1 : List ByteArray) (a0_2 : Int) (A0_3 : Option Addr) (c0_3 : Nat) (l0_3 : List (S52)) (r1 : ByteArray) (r2 : Int) (w : World) (hr0_0 : Kd.C Kd.string w A0_0 l0_0.length l0_0) (hc0_0 : l0_0.length ≤ c0_0) (hr0_1 : Kd.C Kd.string w A0_1 l0_1.length l0_1) (hc0_1 : l0_1.length ≤ c0_1) (hr0_3 : Kd.C k52 w A0_3 l0_3.length l0_3) (hc0_3 : l0_3.length ≤ c0_3) (h : dovetailref05_Text.f k l0_0 l0_1 a0_2 l0_3 = some (r1, r2)) :
 Calls Tryd.prog 24 #[.agg #[.slice A0_0 l0_0.length c0_0, .slice A0_1 l0_1.length c0_1, .int .i64 a0_2, .slice A0_3 l0_3.length c0_3]] w fun e w' => e = .returned (.tuple #[.string r1, .int .i64 r2]) ∧ Below w.heap.size w w' := by
 have hu25 := Tryd.underlying25
 have hu52 := Tryd.underlying52
 have HR0_0 := Aside0.mk hr0_0
 have HC0_0 := Aside0.mk hc0_0
 clear hr0_0 hc0_0
 have HR0_1 := Aside0.mk hr0_1
 have HC0_1 := Aside0.mk hc0_1
 clear hr0_1 hc0_1
 have HR0_3 := Aside0.mk hr0_3
 have HC0_3 := Aside0.mk hc0_3
 clear hr0_3 hc0_3
 have HB := Aside0.mk (Below.refl w.heap.size w)
 have H : ((dovetailref05_Readable.f k l0_0 l0_1 a0_2 l0_3).bind fun t130 => (if t130 = 0 then (dovetailref05_Text.l0 k ([] : List Int) 0 l0_0 l0_1 a0_2 l0_3) else (some ((⟨#[]⟩ : ByteArray), t130)))) = some (r1, r2) := h
 clear h
 replace H := Option.bind_eq_some_iff.mp H
 obtain ⟨t130, A20, H⟩ := H
 replace H : (if t130 = 0 then (dovetailref05_Text.l0 k ([] : List Int) 0 l0_0 l0_1 a0_2 l0_3) else (some ((⟨#[]⟩ : ByteArray), t130))) = some (r1, r2) := H
 have A2 := Aside0.mk A20
 clear A20
 by_cases c3 : t130 = 0
 · rw [if_pos c3] at H
   have c3b0 : (t130 == 0) = true := beq_iff_eq.mpr c3
   have c3b1 : (t130 != 0) = false := bne_eq_false_iff_eq.mpr c3
   clear c3
   have H' := Aside0.mk H
   clear H
   go_enter Tryd.func24, Tryd.ntmps24
   go_wp2_with (first | ((with_reducible refine gate_dst (N := 1) rfl ?_); refine box_event ?hg (N := 1) ?hd (cs := #[.slice A0_0 l0_0.length c0_0, .slice A0_1 l0_1.length c0_1, .int .i64 a0_2, .slice A0_3 l0_3.length c0_3]) (t := 25) ?hr ?_; (case hd => rfl); (case hg => rfl); (case hr => first | (go_simp; done) | (go_simp; rfl)); intro gb129 hg w4 hbox hb; have n0_ := Aside0.mk (below_step (by repeat (first | (with_reducible first | exact HB.out | apply below_alloc | apply pw_below_drewN | apply below_drew1) | exact HB.out)) hb); have n1_ := Aside0.mk (hbox); have n2_ := Aside0.mk ((by rw [hg]; exact (below_size (by repeat (first | (with_reducible first | exact HB.out | apply below_alloc | apply pw_below_drewN | apply below_drew1) | exact HB.out))) : w.heap.size ≤ gb129)); have n3_ := Aside0.mk ((by rw [hg]; exact (below_size (by repeat (first | (with_reducible first | exact HB.out | apply below_alloc | apply pw_below_drewN | apply below_drew1) | exact HB.out))) : w.heap.size ≤ gb129)); clear HB; have HB := n0_; have BK129 := n1_; have GW129 := n2_; have GE129 := n3_; clear n0_ n1_ n2_ n3_; clear hb hbox hg; have hcz5_0 : w4.cell? ⟨gb129, 0, none⟩ = some (.slice A0_0 l0_0.length c0_0) := (blk_cell BK129.out 0).trans rfl; have hcz5_1 : w4.cell? ⟨gb129, 1, none⟩ = some (.slice A0_1 l0_1.length c0_1) := (blk_cell BK129.out 1).trans rfl; have hcz5_2 : w4.cell? ⟨gb129, 2, none⟩ = some (.int .i64 a0_2) := (blk_cell BK129.out 2).trans rfl; have hcz5_3 : w4.cell? ⟨gb129, 3, none⟩ = some (.slice A0_3 l0_3.length c0_3) := (blk_cell BK129.out 3).trans rfl; have hfz5_0 := blk_frozen BK129.out 0; have hfz5_1 := blk_frozen BK129.out 1; have hfz5_2 := blk_frozen BK129.out 2; have hfz5_3 := blk_frozen BK129.out 3) | ((with_reducible refine gate_callee (f := 26) rfl ?_); refine goesL_ (some 10) rfl rfl Tryd.func26 (by kernel_rfl) rfl #[.agg #[.slice A0_0 l0_0.length c0_0, .slice A0_1 l0_1.length c0_1, .int .i64 a0_2, .slice A0_3 l0_3.length c0_3]] rfl (by (try simp only [List.map_toArray, List.map_cons, List.map_nil]); first | done | rfl | (simp only [List.length_drop, List.length_take]; rfl)) ?_; (with_reducible refine (dovetailref05_Readable.calls k _ _ l0_0 _ _ l0_1 a0_2 _ _ l0_3 t130 _ ?side1 ?side2 ?side3 ?side4 ?side5 ?side6 A2.out).mono ?_); (case side1 => repeat (first | exact (Kd.C_below HR0_0.out HB.out) | (with_reducible refine Kd.C_alloc ?_ _) | (with_reducible refine Kd.C_drewN ?_ _) | (with_reducible refine Kd.C_drew ?_))); (case side2 => exact HC0_0.out); (case side3 => repeat (first | exact (Kd.C_below HR0_1.out HB.out) | (with_reducible refine Kd.C_alloc ?_ _) | (with_reducible refine Kd.C_drewN ?_ _) | (with_reducible refine Kd.C_drew ?_))); (case side4 => exact HC0_1.out); (case side5 => repeat (first | exact (Kd.C_below HR0_3.out HB.out) | (with_reducible refine Kd.C_alloc ?_ _) | (with_reducible refine Kd.C_drewN ?_ _) | (with_reducible refine Kd.C_drew ?_))); (case side6 => exact HC0_3.out); rintro e w6 ⟨rfl, hb⟩; refine ⟨_, rfl, ?_⟩; have n0_ := Aside0.mk (blk_below (g := gb129) (o := .cells #[.slice A0_0 l0_0.length c0_0, .slice A0_1 l0_1.length c0_1, .int .i64 a0_2, .slice A0_3 l0_3.length c0_3] 25 (0, 0)) (by (with_reducible repeat (first | refine blk_drewN ?_ _ | refine blk_drew ?_ | refine blk_alloc ?_ _)); exact BK129.out) hb); have n1_ := Aside0.mk (below_step (by repeat (first | (with_reducible first | exact HB.out | apply below_alloc | apply pw_below_drewN | apply below_drew1 | refine below_set ?_ GE129.out) | exact HB.out)) hb); clear BK129; clear HB; have BK129 := n0_; have HB := n1_; clear n0_ n1_; (try clear hb); (try clear hb2); (try clear hk); (try clear hi)))
   go_loopg [5, 6] k (fun kq v5 v6 w' => ∃ (x5_1 : List Int) (x6_1 : Int), v6 = .int .i64 x6_1 ∧ Aside0 (dovetailref05_Text.l0 kq x5_1 x6_1 l0_0 l0_1 a0_2 l0_3 = some (r1, r2)) ∧ Aside0 (kq ≤ k) ∧ Aside0 (Kd.R (Kd.int .u8) 5 w' w.heap.size (fun _ => True) v5 x5_1) ∧ Aside0 (w'.heap[gb129]? = some (.cells #[(.slice A0_0 l0_0.length c0_0), (.slice A0_1 l0_1.length c0_1), .int .i64 a0_2, (.slice A0_3 l0_3.length c0_3)] 25 (0, 0))) ∧ Aside0 (Below w.heap.size w w'))
   case atStart => exact ⟨(([] : List Int)), (0), (by first | rfl | (simp; done) | (simp [*]; done)), H', ⟨Nat.le_refl _⟩, ⟨by first | exact Kd.R_nil _ _ _ _ _ | exact Kd.N_nil _ _ _ _ _ | exact Kd.V_nil _ _ _ _ _ | exact Kd.Q_nil _ _ _ _ _ | exact Kd.S_nil _ _ _ _ _⟩, ⟨by (with_reducible repeat (first | refine blk_drewN ?_ _ | refine blk_drew ?_ | refine blk_alloc ?_ _)); exact BK129.out⟩, ⟨by repeat (first | (with_reducible first | exact HB.out | apply below_alloc | apply pw_below_drewN | apply below_drew1 | refine below_set ?_ GE129.out) | exact HB.out)⟩⟩
   case round =>
    clear H'
    try clear c2
    try clear p2
    try clear c3
    try clear c3b0
    try clear c3b1
    try clear hcz5_0
    try clear hcz5_1
    try clear hcz5_2
    try clear hcz5_3
    try clear hfz5_0
    try clear hfz5_1
    try clear hfz5_2
    try clear hfz5_3
    obtain ⟨x5_1, x6_1, rfl, HA, HK1, HO_5, BK129, HB⟩ := hrel
    cases gk with
    | zero => exact absurd HA.out (by simp [dovetailref05_Text.l0])
    | succ k1 =>
     have H := HA.out
     clear HA
     simp only [dovetailref05_Text.l0] at H
     by_cases c7 : x6_1 < (l0_3.length : Int)
     · rw [if_pos c7] at H
       have c7b0 : decide (x6_1 < (l0_3.length : Int)) = true := decide_eq_true c7
       clear c7
       by_cases c8 : 0 ≤ x6_1
       · rw [if_pos c8] at H
         have c8b0 : decide (0 ≤ x6_1) = true := decide_eq_true c8
         clear c8
         have HC9 := Aside0.mk H
         clear H
         have hcz10_0 : wr.cell? ⟨gb129, 0, none⟩ = some (.slice A0_0 l0_0.length c0_0) := (blk_cell BK129.out 0).trans rfl
         have hcz10_1 : wr.cell? ⟨gb129, 1, none⟩ = some (.slice A0_1 l0_1.length c0_1) := (blk_cell BK129.out 1).trans rfl
         have hcz10_2 : wr.cell? ⟨gb129, 2, none⟩ = some (.int .i64 a0_2) := (blk_cell BK129.out 2).trans rfl
         have hcz10_3 : wr.cell? ⟨gb129, 3, none⟩ = some (.slice A0_3 l0_3.length c0_3) := (blk_cell BK129.out 3).trans rfl
         have hfz10_0 := blk_frozen BK129.out 0
         have hfz10_1 := blk_frozen BK129.out 1
         have hfz10_2 := blk_frozen BK129.out 2
         have hfz10_3 := blk_frozen BK129.out 3
         have p134 : 0 ≤ (x6_1 : Int) := of_decide_eq_true (by first | (with_reducible assumption) | assumption)
         have q134 : x6_1 < (l0_3.length : Int) := of_decide_eq_true (by first | (with_reducible assumption) | assumption)
         obtain ⟨ad134, A134_1, c134_1, e134, hx134_0, hx134_1, hl134_1, hi134_1⟩ := at_T52 HR0_3.out x6_1 p134 q134
         cases e134
         replace hx134_0 := (HB.out.cell (World.block_lt_of_cell? w _ hx134_0)).trans hx134_0
         replace hx134_1 := (HB.out.cell (World.block_lt_of_cell? w _ hx134_1)).trans hx134_1
         have HR134_1 := Aside0.mk hi134_1
         have HC134_1 := Aside0.mk hl134_1
         clear hi134_1 hl134_1
         replace p134 := eq_true p134
         replace q134 := eq_true q134
         go_upto_region 9 with (first | ((with_reducible refine gate_dst (N := 7) rfl ?_); refine box_event ?hg (N := 7) ?hd (cs := #[.int .i64 0, .slice none 0 0]) (t := 52) ?hr ?_; (case hd => rfl); (case hg => rfl); (case hr => first | (go_simp; done) | (go_simp; rfl)); intro gb135 hg w11 hbox hb; have n0_ := Aside0.mk (Kd.R_below (by (with_reducible repeat (first | apply Kd.R_alloc | apply Kd.R_drewN | apply Kd.R_drew)); exact HO_5.out) hb); have n1_ := Aside0.mk (blk_below (g := gb129) (o := .cells #[.slice A0_0 l0_0.length c0_0, .slice A0_1 l0_1.length c0_1, .int .i64 a0_2, .slice (some ad134) l0_3.length c0_3] 25 (0, 0)) (by (with_reducible repeat (first | refine blk_drewN ?_ _ | refine blk_drew ?_ | refine blk_alloc ?_ _)); exact BK129.out) hb); have n2_ := Aside0.mk (below_step (by repeat (first | (with_reducible first | exact HB.out | apply below_alloc | apply pw_below_drewN | apply below_drew1 | refine below_set ?_ GE129.out) | exact HB.out)) hb); have n3_ := Aside0.mk (hbox); have n4_ := Aside0.mk ((by rw [hg]; exact (below_size (by repeat (first | (with_reducible first | exact HB.out | apply below_alloc | apply pw_below_drewN | apply below_drew1 | refine below_set ?_ GE129.out) | exact HB.out))) : w.heap.size ≤ gb135)); have n5_ := Aside0.mk ((by rw [hg]; exact (below_size (by repeat (first | (with_reducible first | exact HB.out | apply below_alloc | apply pw_below_drewN | apply below_drew1 | refine below_set ?_ GE129.out) | exact HB.out))) : w.heap.size ≤ gb135)); have n6_ := Aside0.mk ((by rw [hg]; exact Nat.ne_of_lt (blk_lt (g := gb129) (o := .cells #[.slice A0_0 l0_0.length c0_0, .slice A0_1 l0_1.length c0_1, .int .i64 a0_2, .slice (some ad134) l0_3.length c0_3] 25 (0, 0)) (by (with_reducible repeat (first | refine blk_drewN ?_ _ | refine blk_drew ?_ | refine blk_alloc ?_ _)); exact BK129.out)) : gb129 ≠ gb135)); have n7_ := Aside0.mk ((by rw [hg]; exact Nat.ne_of_gt (blk_lt (g := gb129) (o := .cells #[.slice A0_0 l0_0.length c0_0, .slice A0_1 l0_1.length c0_1, .int .i64 a0_2, .slice (some ad134) l0_3.length c0_3] 25 (0, 0)) (by (with_reducible repeat (first | refine blk_drewN ?_ _ | refine blk_drew ?_ | refine blk_alloc ?_ _)); exact BK129.out)) : gb135 ≠ gb129)); clear HO_5; clear BK129; clear HB; have HO_5 := n0_; have BK129 := n1_; have HB := n2_; have BK135 := n3_; have GW135 := n4_; have GE135 := n5_; have NB129_135 := n6_; have NB135_129 := n7_; clear n0_ n1_ n2_ n3_ n4_ n5_ n6_ n7_; clear hb hbox hg; have hnb12 := NB135_129.out; have hnc12 := NB129_135.out; have hcz13_0 : w11.cell? ⟨gb135, 0, none⟩ = some (.int .i64 0) := (blk_cell BK135.out 0).trans rfl; have hcz13_1 : w11.cell? ⟨gb135, 1, none⟩ = some (.slice none 0 0) := (blk_cell BK135.out 1).trans rfl; have hfz13_0 := blk_frozen BK135.out 0; have hfz13_1 := blk_frozen BK135.out 1))
         (try simp only [Act.put, List.setIfInBounds_toArray, List.set_cons_zero, List.set_cons_succ])
         go_cut [39] (fun v39 wc => ∃ (kq : Nat) (x39_8 : Bool), v39 = .bool x39_8 ∧ Aside0 (dovetailref05_Text.j1 kq x5_1 x6_1 x39_8 l0_0 l0_1 a0_2 l0_3 ((rd_T52 l0_3 x6_1).f0) ((rd_T52 l0_3 x6_1).f1) = some (r1, r2)) ∧ Aside0 (kq ≤ k1) ∧ Aside0 (Kd.R (Kd.int .u8) 5 wc w.heap.size (fun _ => True) u5 x5_1) ∧ Aside0 (wc.heap[gb129]? = some (.cells #[(.slice A0_0 l0_0.length c0_0), (.slice A0_1 l0_1.length c0_1), .int .i64 a0_2, (.slice (some ad134) l0_3.length c0_3)] 25 (0, 0))) ∧ Aside0 (wc.heap[gb135]? = some (.cells #[.int .i64 ((rd_T52 l0_3 x6_1).f0), (.slice A134_1 ((rd_T52 l0_3 x6_1).f1).length c134_1)] 52 (0, 0))) ∧ Aside0 (Below w.heap.size w wc))
         case first =>
          have H := HC9.out
          clear HC9
          by_cases c14 : x6_1 > 0
          · rw [if_pos c14] at H
            have c14b0 : decide (0 < x6_1) = true := decide_eq_true c14
            clear c14
            (first | rw [c14b0] | (simp only [i64_w, i32_w]; rw [c14b0]) | skip)
            obtain ⟨ji15, hji15⟩ : ∃ j_ : Int, (wrap64 (x6_1 - 1)) = j_ := ⟨_, rfl⟩
            replace H : (if 0 ≤ (ji15) then (if (ji15) < (l0_3.length : Int) then (dovetailref05_Text.j1 k1 x5_1 x6_1 (((rd_T52 l0_3 (ji15)).f0) == ((rd_T52 l0_3 x6_1).f0)) l0_0 l0_1 a0_2 l0_3 ((rd_T52 l0_3 x6_1).f0) ((rd_T52 l0_3 x6_1).f1)) else (none)) else (none)) = some (r1, r2) := by first | (rw [hji15] at H; exact H) | (simp only [hji15] at H ⊢; exact H)
            have hji15w : (IntKind.i64.wrap (x6_1 - 1)) = ji15 := (i64_w _).trans hji15
            by_cases c16 : 0 ≤ (ji15)
            · rw [if_pos c16] at H
              have c16b0 : decide (0 ≤ (ji15)) = true := decide_eq_true c16
              clear c16
              by_cases c17 : (ji15) < (l0_3.length : Int)
              · rw [if_pos c17] at H
                have c17b0 : decide ((ji15) < (l0_3.length : Int)) = true := decide_eq_true c17
                clear c17
                have H' := Aside0.mk H
                clear H
                try go_wp2
                have n0_ : Aside0 (Kd.R (Kd.int .u8) 5 ((w11.setCell ⟨gb135, 0, none⟩ (.int .i64 ((rd_T52 l0_3 x6_1).f0))).setCell ⟨gb135, 1, none⟩ (.slice A134_1 ((rd_T52 l0_3 x6_1).f1).length c134_1)) w.heap.size (fun _ => True) u5 x5_1) := ⟨by (with_reducible repeat (first | apply Kd.R_alloc | apply Kd.R_drewN | apply Kd.R_drew)); exact Kd.R_mono (Kd.R_far (p := ⟨gb135, 1, none⟩) (Kd.R_far (p := ⟨gb135, 0, none⟩) (Kd.R_types HO_5.out BK135.out (by decide)) (fun _ hk => hk.2) (.int .i64 ((rd_T52 l0_3 x6_1).f0))) (fun _ hk => hk.2) (.slice A134_1 ((rd_T52 l0_3 x6_1).f1).length c134_1)) (fun _ hk => trivial)⟩
                have n1_ : Aside0 (((w11.setCell ⟨gb135, 0, none⟩ (.int .i64 ((rd_T52 l0_3 x6_1).f0))).setCell ⟨gb135, 1, none⟩ (.slice A134_1 ((rd_T52 l0_3 x6_1).f1).length c134_1)).heap[gb129]? = some (.cells #[.slice A0_0 l0_0.length c0_0, .slice A0_1 l0_1.length c0_1, .int .i64 a0_2, .slice (some ad134) l0_3.length c0_3] 25 (0, 0))) := ⟨by (with_reducible repeat (first | refine blk_drewN ?_ _ | refine blk_drew ?_ | refine blk_alloc ?_ _)); refine blk_far ?_ NB129_135.out _; (with_reducible repeat (first | refine blk_drewN ?_ _ | refine blk_drew ?_ | refine blk_alloc ?_ _)); refine blk_far ?_ NB129_135.out _; (with_reducible repeat (first | refine blk_drewN ?_ _ | refine blk_drew ?_ | refine blk_alloc ?_ _)); exact BK129.out⟩
                have n2_ : Aside0 (((w11.setCell ⟨gb135, 0, none⟩ (.int .i64 ((rd_T52 l0_3 x6_1).f0))).setCell ⟨gb135, 1, none⟩ (.slice A134_1 ((rd_T52 l0_3 x6_1).f1).length c134_1)).heap[gb135]? = some (.cells #[.int .i64 ((rd_T52 l0_3 x6_1).f0), .slice A134_1 ((rd_T52 l0_3 x6_1).f1).length c134_1] 52 (0, 0))) := ⟨by (with_reducible repeat (first | refine blk_drewN ?_ _ | refine blk_drew ?_ | refine blk_alloc ?_ _)); refine blk_put (cs := #[.int .i64 ((rd_T52 l0_3 x6_1).f0), .slice none 0 0]) ?_ 1 _ rfl; (with_reducible repeat (first | refine blk_drewN ?_ _ | refine blk_drew ?_ | refine blk_alloc ?_ _)); refine blk_put (cs := #[.int .i64 0, .slice none 0 0]) ?_ 0 _ rfl; (with_reducible repeat (first | refine blk_drewN ?_ _ | refine blk_drew ?_ | refine blk_alloc ?_ _)); exact BK135.out⟩
                have n3_ : Aside0 (Below w.heap.size w ((w11.setCell ⟨gb135, 0, none⟩ (.int .i64 ((rd_T52 l0_3 x6_1).f0))).setCell ⟨gb135, 1, none⟩ (.slice A134_1 ((rd_T52 l0_3 x6_1).f1).length c134_1))) := ⟨by repeat (first | (with_reducible first | exact HB.out | apply below_alloc | apply pw_below_drewN | apply below_drew1 | refine below_set ?_ GE129.out | refine below_set ?_ GE135.out) | exact HB.out)⟩
                (try clear HO_5)
                (try clear BK129)
                (try clear BK135)
                (try clear HB)
                generalize ((w11.setCell ⟨gb135, 0, none⟩ (.int .i64 ((rd_T52 l0_3 x6_1).f0))).setCell ⟨gb135, 1, none⟩ (.slice A134_1 ((rd_T52 l0_3 x6_1).f1).length c134_1)) = w18 at n0_ n1_ n2_ n3_ ⊢
                have HO_5 := n0_
                have BK129 := n1_
                have BK135 := n2_
                have HB := n3_
                clear n0_ n1_ n2_ n3_
                have n0_ := Aside0.mk (Kd.R_drew HO_5.out)
                have n1_ := Aside0.mk (blk_drew BK129.out)
                have n2_ := Aside0.mk (blk_drew BK135.out)
                have n3_ := Aside0.mk (below_drew1 HB.out)
                clear HO_5
                clear BK129
                clear BK135
                clear HB
                have HO_5 := n0_
                have BK129 := n1_
                have BK135 := n2_
                have HB := n3_
                clear n0_ n1_ n2_ n3_
                have p136 : 0 ≤ ((ji15) : Int) := of_decide_eq_true (by first | (with_reducible assumption) | assumption)
                have q136 : (ji15) < (l0_3.length : Int) := of_decide_eq_true (by first | (with_reducible assumption) | assumption)
                obtain ⟨ad136, A136_1, c136_1, e136, hx136_0, hx136_1, hl136_1, hi136_1⟩ := at_T52 HR0_3.out (ji15) p136 q136
                have hw136_1 := hx136_1
                have hw136_0 := hx136_0
                obtain rfl : ad134 = ad136 := (by injection e136)
                replace hx136_0 := (HB.out.cell (World.block_lt_of_cell? w _ hx136_0)).trans hx136_0
                replace hx136_1 := (HB.out.cell (World.block_lt_of_cell? w _ hx136_1)).trans hx136_1
                have HR136_1 := Aside0.mk hi136_1
                have HC136_1 := Aside0.mk hl136_1
                clear hi136_1 hl136_1
                replace p136 := eq_true p136
                replace q136 := eq_true q136
                refine start_ (n := 14) (S := fun w' => w'.cell? ⟨gb129, 0, none⟩ = some (.slice A0_0 l0_0.length c0_0) ∧ w'.cell? ⟨gb129, 1, none⟩ = some (.slice A0_1 l0_1.length c0_1) ∧ w'.cell? ⟨gb129, 2, none⟩ = some (.int .i64 a0_2) ∧ w'.cell? ⟨gb129, 3, none⟩ = some (.slice (some ad134) l0_3.length c0_3) ∧ w'.cell? ⟨gb135, 0, none⟩ = some (.int .i64 ((rd_T52 l0_3 x6_1).f0)) ∧ w'.cell? ⟨gb135, 1, none⟩ = some (.slice A134_1 ((rd_T52 l0_3 x6_1).f1).length c134_1) ∧ w'.cell? (ad134.add (((ji15)).toNat * 2)) = some (.int .i64 ((rd_T52 l0_3 (ji15)).f0)) ∧ w'.cell? ⟨(ad134.add (((ji15)).toNat * 2)).block, (ad134.add (((ji15)).toNat * 2)).off + 1, none⟩ = some (.slice A136_1 ((rd_T52 l0_3 (ji15)).f1).length c136_1)) (ds := []) #[false, false, false, false, false, false, false, false, false, false, false, false, false, false] (by kernel_rfl) rfl rfl ⟨(blk_cell BK129.out 0).trans rfl, (blk_cell BK129.out 1).trans rfl, (blk_cell BK129.out 2).trans rfl, (blk_cell BK129.out 3).trans rfl, (blk_cell BK135.out 0).trans rfl, (blk_cell BK135.out 1).trans rfl, ((HB.out.cell (World.block_lt_of_cell? w _ hw136_0)).trans hw136_0), ((HB.out.cell (World.block_lt_of_cell? w _ hw136_1)).trans hw136_1)⟩ (fun hHeld => ?_); refine with_tabW dovetailref05_Text.tab9 dovetailref05_Text.bits9 (fun HT_ HW_ => ?_)
                generalize w18.drew = w19 at HO_5 BK129 BK135 HB HR136_1 hx136_0 hx136_1 hHeld ⊢
                refine pure_ (i := 0) (N := some 26) (v := ?_) (a' := ?_) #[true, false, false, false, false, false, false, false, false, false, false, false, false, false] rfl rfl (any_of HT_.out (by kernel_rfl)) (fun _ _ _ h => h) (Or.inl ⟨by rfl, ?_⟩) ?_ ?_
                rotate_left
                · intro w'
                  go_simp
                  with_reducible rfl
                rotate_left
                · simp only [Act.put, List.setIfInBounds_toArray, List.set_cons_zero, List.set_cons_succ, i64_w, i32_w]
                  rfl
                refine pure_ (i := 1) (N := some 27) (v := ?_) (a' := ?_) #[true, true, false, false, false, false, false, false, false, false, false, false, false, false] rfl rfl (any_of HT_.out (by kernel_rfl)) (fun _ _ _ h => h) (Or.inl ⟨by rfl, ?_⟩) ?_ ?_
                rotate_left
                · intro w'
                  go_simp
                  with_reducible rfl
                rotate_left
                · simp only [Act.put, List.setIfInBounds_toArray, List.set_cons_zero, List.set_cons_succ, i64_w, i32_w]
                  rfl
                refine pure_ (i := 2) (N := some 28) (v := ?_) (a' := ?_) #[true, true, true, false, false, false, false, false, false, false, false, false, false, false] rfl rfl (any_of HT_.out (by kernel_rfl)) (fun _ _ _ h => h) (Or.inl ⟨by rfl, ?_⟩) ?_ ?_
                rotate_left
                · intro w'
                  go_simp
                  with_reducible rfl
                rotate_left
                · simp only [Act.put, List.setIfInBounds_toArray, List.set_cons_zero, List.set_cons_succ, i64_w, i32_w]
                  rfl
                refine pure_ (i := 3) (N := some 29) (v := ?_) (a' := ?_) #[true, true, true, true, false, false, false, false, false, false, false, false, false, false] rfl rfl (any_of HT_.out (by kernel_rfl)) (fun _ _ _ h => h) (Or.inl ⟨by rfl, ?_⟩) ?_ ?_
                rotate_left
                · intro w'
                  go_simp
                  with_reducible rfl
                rotate_left
                · simp only [Act.put, List.setIfInBounds_toArray, List.set_cons_zero, List.set_cons_succ, i64_w, i32_w]
                  rfl
                refine pure_ (i := 5) (N := some 31) (v := ?_) (a' := ?_) #[true, true, true, true, false, true, false, false, false, false, false, false, false, false] rfl rfl (any_of HT_.out (by kernel_rfl)) (fun _ _ _ h => h) (Or.inl ⟨by rfl, ?_⟩) ?_ ?_
                rotate_left
                · intro w'
                  go_simp
                  with_reducible rfl
                rotate_left
                · simp only [Act.put, List.setIfInBounds_toArray, List.set_cons_zero, List.set_cons_succ, i64_w, i32_w]
                  rfl
                refine pure_ (i := 6) (N := some 32) (v := ?_) (a' := ?_) #[true, true, true, true, false, true, true, false, false, false, false, false, false, false] rfl rfl (any_of HT_.out (by kernel_rfl)) (fun _ _ _ h => h) (Or.inl ⟨by rfl, ?_⟩) ?_ ?_
                rotate_left
                · intro w'
                  go_simp
                  with_reducible rfl
                rotate_left
                · simp only [Act.put, List.setIfInBounds_toArray, List.set_cons_zero, List.set_cons_succ, i64_w, i32_w]
                  rfl
                refine pure_ (i := 10) (N := some 36) (v := ?_) (a' := ?_) #[true, true, true, true, false, true, true, false, false, false, true, false, false, false] rfl rfl (any_of HT_.out (by kernel_rfl)) (fun _ _ _ h => h) (Or.inl ⟨by rfl, ?_⟩) ?_ ?_
                rotate_left
                · intro w'
                  go_simp
                  with_reducible rfl
                rotate_left
                · simp only [Act.put, List.setIfInBounds_toArray, List.set_cons_zero, List.set_cons_succ, i64_w, i32_w]
                  rfl
                refine take_ (i := 4) (N := some 30) (v := ?_) (a' := ?_) #[true, true, true, true, true, true, true, false, false, false, true, false, false, false] rfl rfl (take_ofW HT_.out HW_.out (by kernel_rfl)) (fun _ _ _ h => h) (Or.inl ⟨by rfl, ?_⟩) hHeld ?_ ?_
                rotate_left
                · rintro w' ⟨s0, s1, s2, s3, s4, s5, s6, s7⟩
                  go_simp
                  with_reducible rfl
                rotate_left
                · simp only [Act.put, List.setIfInBounds_toArray, List.set_cons_zero, List.set_cons_succ, i64_w, i32_w]
                  rfl
                refine pure_ (i := 7) (N := some 33) (v := ?_) (a' := ?_) #[true, true, true, true, true, true, true, true, false, false, true, false, false, false] rfl rfl (any_of HT_.out (by kernel_rfl)) (fun _ _ _ h => h) (Or.inl ⟨by rfl, ?_⟩) ?_ ?_
                rotate_left
                · intro w'
                  go_simp
                  with_reducible rfl
                rotate_left
                · simp only [Act.put, List.setIfInBounds_toArray, List.set_cons_zero, List.set_cons_succ, i64_w, i32_w]
                  rfl
                refine pure_ (i := 8) (N := some 34) (v := ?_) (a' := ?_) #[true, true, true, true, true, true, true, true, true, false, true, false, false, false] rfl rfl (any_of HT_.out (by kernel_rfl)) (fun _ _ _ h => h) (Or.inl ⟨by rfl, ?_⟩) ?_ ?_
                rotate_left
                · intro w'
                  go_simp
                  with_reducible rfl
                rotate_left
                · simp only [Act.put, List.setIfInBounds_toArray, List.set_cons_zero, List.set_cons_succ, i64_w, i32_w]
                  rfl
                refine take_ (i := 9) (N := some 35) (v := ?_) (a' := ?_) #[true, true, true, true, true, true, true, true, true, true, true, false, false, false] rfl rfl (take_ofW HT_.out HW_.out (by kernel_rfl)) (fun _ _ _ h => h) (Or.inl ⟨by rfl, ?_⟩) hHeld ?_ ?_
                rotate_left
                · rintro w' ⟨s0, s1, s2, s3, s4, s5, s6, s7⟩
                  go_simp
                  with_reducible rfl
                rotate_left
                · simp only [Act.put, List.setIfInBounds_toArray, List.set_cons_zero, List.set_cons_succ, i64_w, i32_w]
                  rfl
                refine take_ (i := 11) (N := some 37) (v := ?_) (a' := ?_) #[true, true, true, true, true, true, true, true, true, true, true, true, false, false] rfl rfl (take_ofW HT_.out HW_.out (by kernel_rfl)) (fun _ _ _ h => h) (Or.inl ⟨by rfl, ?_⟩) hHeld ?_ ?_
                rotate_left
                · rintro w' ⟨s0, s1, s2, s3, s4, s5, s6, s7⟩
                  go_simp
                  with_reducible rfl
                rotate_left
                · simp only [Act.put, List.setIfInBounds_toArray, List.set_cons_zero, List.set_cons_succ, i64_w, i32_w]
                  rfl
                refine pure_ (i := 12) (N := some 38) (v := ?_) (a' := ?_) #[true, true, true, true, true, true, true, true, true, true, true, true, true, false] rfl rfl (any_of HT_.out (by kernel_rfl)) (fun _ _ _ h => h) (Or.inl ⟨by rfl, ?_⟩) ?_ ?_
                rotate_left
                · intro w'
                  go_simp
                  with_reducible rfl
                rotate_left
                · simp only [Act.put, List.setIfInBounds_toArray, List.set_cons_zero, List.set_cons_succ, i64_w, i32_w]
                  rfl
                refine pure_ (i := 13) (N := some 39) (v := ?_) (a' := ?_) #[true, true, true, true, true, true, true, true, true, true, true, true, true, true] rfl rfl (any_of HT_.out (by kernel_rfl)) (fun _ _ _ h => h) (Or.inl ⟨by rfl, ?_⟩) ?_ ?_
                rotate_left
                · intro w'
                  go_simp
                  with_reducible rfl
                rotate_left
                · simp only [Act.put, List.setIfInBounds_toArray, List.set_cons_zero, List.set_cons_succ, i64_w, i32_w]
                  rfl
                refine done_ (done_of HT_.out (by kernel_rfl)) ?_
                try go_wp2
                go_meet
                case rel => exact ⟨_, ((((rd_T52 l0_3 (ji15)).f0) == ((rd_T52 l0_3 x6_1).f0))), (by first | rfl | (simp; done) | (simp only [← hji15] <;> (first | rfl | simp)) | (simp [*]; done)), H', ⟨by have := HK1.out; first | omega | exact Nat.le_refl _⟩, ⟨by (with_reducible repeat (first | apply Kd.R_alloc | apply Kd.R_drewN | apply Kd.R_drew)); exact HO_5.out⟩, ⟨by (with_reducible repeat (first | refine blk_drewN ?_ _ | refine blk_drew ?_ | refine blk_alloc ?_ _)); exact BK129.out⟩, ⟨by (with_reducible repeat (first | refine blk_drewN ?_ _ | refine blk_drew ?_ | refine blk_alloc ?_ _)); exact BK135.out⟩, ⟨by repeat (first | (with_reducible first | exact HB.out | apply below_alloc | apply pw_below_drewN | apply below_drew1 | refine below_set ?_ GE129.out | refine below_set ?_ GE135.out) | exact HB.out)⟩⟩
              · rw [if_neg c17] at H
                exact absurd H (by simp)
            · rw [if_neg c16] at H
              exact absurd H (by simp)
          · rw [if_neg c14] at H
            have c14b0 : decide (0 < x6_1) = false := decide_eq_false c14
            clear c14
            (first | rw [c14b0] | (simp only [i64_w, i32_w]; rw [c14b0]) | skip)
            have H' := Aside0.mk H
            clear H
            try go_wp2
            have n0_ : Aside0 (Kd.R (Kd.int .u8) 5 ((w11.setCell ⟨gb135, 0, none⟩ (.int .i64 ((rd_T52 l0_3 x6_1).f0))).setCell ⟨gb135, 1, none⟩ (.slice A134_1 ((rd_T52 l0_3 x6_1).f1).length c134_1)) w.heap.size (fun _ => True) u5 x5_1) := ⟨by (with_reducible repeat (first | apply Kd.R_alloc | apply Kd.R_drewN | apply Kd.R_drew)); exact Kd.R_mono (Kd.R_far (p := ⟨gb135, 1, none⟩) (Kd.R_far (p := ⟨gb135, 0, none⟩) (Kd.R_types HO_5.out BK135.out (by decide)) (fun _ hk => hk.2) (.int .i64 ((rd_T52 l0_3 x6_1).f0))) (fun _ hk => hk.2) (.slice A134_1 ((rd_T52 l0_3 x6_1).f1).length c134_1)) (fun _ hk => trivial)⟩
            have n1_ : Aside0 (((w11.setCell ⟨gb135, 0, none⟩ (.int .i64 ((rd_T52 l0_3 x6_1).f0))).setCell ⟨gb135, 1, none⟩ (.slice A134_1 ((rd_T52 l0_3 x6_1).f1).length c134_1)).heap[gb129]? = some (.cells #[.slice A0_0 l0_0.length c0_0, .slice A0_1 l0_1.length c0_1, .int .i64 a0_2, .slice (some ad134) l0_3.length c0_3] 25 (0, 0))) := ⟨by (with_reducible repeat (first | refine blk_drewN ?_ _ | refine blk_drew ?_ | refine blk_alloc ?_ _)); refine blk_far ?_ NB129_135.out _; (with_reducible repeat (first | refine blk_drewN ?_ _ | refine blk_drew ?_ | refine blk_alloc ?_ _)); refine blk_far ?_ NB129_135.out _; (with_reducible repeat (first | refine blk_drewN ?_ _ | refine blk_drew ?_ | refine blk_alloc ?_ _)); exact BK129.out⟩
            have n2_ : Aside0 (((w11.setCell ⟨gb135, 0, none⟩ (.int .i64 ((rd_T52 l0_3 x6_1).f0))).setCell ⟨gb135, 1, none⟩ (.slice A134_1 ((rd_T52 l0_3 x6_1).f1).length c134_1)).heap[gb135]? = some (.cells #[.int .i64 ((rd_T52 l0_3 x6_1).f0), .slice A134_1 ((rd_T52 l0_3 x6_1).f1).length c134_1] 52 (0, 0))) := ⟨by (with_reducible repeat (first | refine blk_drewN ?_ _ | refine blk_drew ?_ | refine blk_alloc ?_ _)); refine blk_put (cs := #[.int .i64 ((rd_T52 l0_3 x6_1).f0), .slice none 0 0]) ?_ 1 _ rfl; (with_reducible repeat (first | refine blk_drewN ?_ _ | refine blk_drew ?_ | refine blk_alloc ?_ _)); refine blk_put (cs := #[.int .i64 0, .slice none 0 0]) ?_ 0 _ rfl; (with_reducible repeat (first | refine blk_drewN ?_ _ | refine blk_drew ?_ | refine blk_alloc ?_ _)); exact BK135.out⟩
            have n3_ : Aside0 (Below w.heap.size w ((w11.setCell ⟨gb135, 0, none⟩ (.int .i64 ((rd_T52 l0_3 x6_1).f0))).setCell ⟨gb135, 1, none⟩ (.slice A134_1 ((rd_T52 l0_3 x6_1).f1).length c134_1))) := ⟨by repeat (first | (with_reducible first | exact HB.out | apply below_alloc | apply pw_below_drewN | apply below_drew1 | refine below_set ?_ GE129.out | refine below_set ?_ GE135.out) | exact HB.out)⟩
            (try clear HO_5)
            (try clear BK129)
            (try clear BK135)
            (try clear HB)
            generalize ((w11.setCell ⟨gb135, 0, none⟩ (.int .i64 ((rd_T52 l0_3 x6_1).f0))).setCell ⟨gb135, 1, none⟩ (.slice A134_1 ((rd_T52 l0_3 x6_1).f1).length c134_1)) = w20 at n0_ n1_ n2_ n3_ ⊢
            have HO_5 := n0_
            have BK129 := n1_
            have BK135 := n2_
            have HB := n3_
            clear n0_ n1_ n2_ n3_
            have n0_ := Aside0.mk (Kd.R_drew HO_5.out)
            have n1_ := Aside0.mk (blk_drew BK129.out)
            have n2_ := Aside0.mk (blk_drew BK135.out)
            have n3_ := Aside0.mk (below_drew1 HB.out)
            clear HO_5
            clear BK129
            clear BK135
            clear HB
            have HO_5 := n0_
            have BK129 := n1_
            have BK135 := n2_
            have HB := n3_
            clear n0_ n1_ n2_ n3_
            refine start_ (n := 14) (S := fun w' => True) (ds := []) #[false, false, false, false, false, false, false, false, false, false, false, false, false, false] (by kernel_rfl) rfl rfl trivial (fun hHeld => ?_); refine with_tabW dovetailref05_Text.tab9 dovetailref05_Text.bits9 (fun HT_ HW_ => ?_)
            generalize w20.drew = w21 at HO_5 BK129 BK135 HB hHeld ⊢
            refine pure_ (i := 0) (N := some 26) (v := ?_) (a' := ?_) #[true, false, false, false, false, false, false, false, false, false, false, false, false, false] rfl rfl (any_of HT_.out (by kernel_rfl)) (fun _ _ _ h => h) (Or.inl ⟨by rfl, ?_⟩) ?_ ?_
            rotate_left
            · intro w'
              go_simp
              with_reducible rfl
            rotate_left
            · simp only [Act.put, List.setIfInBounds_toArray, List.set_cons_zero, List.set_cons_succ, i64_w, i32_w]
              rfl
            refine pure_ (i := 1) (N := some 27) (v := ?_) (a' := ?_) #[true, true, false, false, false, false, false, false, false, false, false, false, false, false] rfl rfl (any_of HT_.out (by kernel_rfl)) (fun _ _ _ h => h) (Or.inl ⟨by rfl, ?_⟩) ?_ ?_
            rotate_left
            · intro w'
              go_simp
              with_reducible rfl
            rotate_left
            · simp only [Act.put, List.setIfInBounds_toArray, List.set_cons_zero, List.set_cons_succ, i64_w, i32_w]
              rfl
            refine pure_ (i := 2) (N := some 28) (v := ?_) (a' := ?_) #[true, true, true, false, false, false, false, false, false, false, false, false, false, false] rfl rfl (any_of HT_.out (by kernel_rfl)) (fun _ _ _ h => h) (Or.inl ⟨by rfl, ?_⟩) ?_ ?_
            rotate_left
            · intro w'
              go_simp
              with_reducible rfl
            rotate_left
            · simp only [Act.put, List.setIfInBounds_toArray, List.set_cons_zero, List.set_cons_succ, i64_w, i32_w]
              rfl
            refine pure_ (i := 3) (N := some 29) (v := undef) (a' := ?_) #[true, true, true, true, false, false, false, false, false, false, false, false, false, false] rfl rfl (any_of HT_.out (by kernel_rfl)) (fun _ _ _ h => h) (Or.inr ⟨by rfl, rfl⟩) ?_ ?_
            rotate_left
            · simp only [Act.put, List.setIfInBounds_toArray, List.set_cons_zero, List.set_cons_succ, i64_w, i32_w]
              rfl
            refine pure_ (i := 4) (N := some 30) (v := undef) (a' := ?_) #[true, true, true, true, true, false, false, false, false, false, false, false, false, false] rfl rfl (any_of HT_.out (by kernel_rfl)) (fun _ _ _ h => h) (Or.inr ⟨by rfl, rfl⟩) ?_ ?_
            rotate_left
            · simp only [Act.put, List.setIfInBounds_toArray, List.set_cons_zero, List.set_cons_succ, i64_w, i32_w]
              rfl
            refine pure_ (i := 5) (N := some 31) (v := undef) (a' := ?_) #[true, true, true, true, true, true, false, false, false, false, false, false, false, false] rfl rfl (any_of HT_.out (by kernel_rfl)) (fun _ _ _ h => h) (Or.inr ⟨by rfl, rfl⟩) ?_ ?_
            rotate_left
            · simp only [Act.put, List.setIfInBounds_toArray, List.set_cons_zero, List.set_cons_succ, i64_w, i32_w]
              rfl
            refine pure_ (i := 6) (N := some 32) (v := undef) (a' := ?_) #[true, true, true, true, true, true, true, false, false, false, false, false, false, false] rfl rfl (any_of HT_.out (by kernel_rfl)) (fun _ _ _ h => h) (Or.inr ⟨by rfl, rfl⟩) ?_ ?_
            rotate_left
            · simp only [Act.put, List.setIfInBounds_toArray, List.set_cons_zero, List.set_cons_succ, i64_w, i32_w]
              rfl
            refine pure_ (i := 7) (N := some 33) (v := undef) (a' := ?_) #[true, true, true, true, true, true, true, true, false, false, false, false, false, false] rfl rfl (any_of HT_.out (by kernel_rfl)) (fun _ _ _ h => h) (Or.inr ⟨by rfl, rfl⟩) ?_ ?_
            rotate_left
            · simp only [Act.put, List.setIfInBounds_toArray, List.set_cons_zero, List.set_cons_succ, i64_w, i32_w]
              rfl
            refine pure_ (i := 8) (N := some 34) (v := undef) (a' := ?_) #[true, true, true, true, true, true, true, true, true, false, false, false, false, false] rfl rfl (any_of HT_.out (by kernel_rfl)) (fun _ _ _ h => h) (Or.inr ⟨by rfl, rfl⟩) ?_ ?_
            rotate_left
            · simp only [Act.put, List.setIfInBounds_toArray, List.set_cons_zero, List.set_cons_succ, i64_w, i32_w]
              rfl
            refine pure_ (i := 9) (N := some 35) (v := undef) (a' := ?_) #[true, true, true, true, true, true, true, true, true, true, false, false, false, false] rfl rfl (any_of HT_.out (by kernel_rfl)) (fun _ _ _ h => h) (Or.inr ⟨by rfl, rfl⟩) ?_ ?_
            rotate_left
            · simp only [Act.put, List.setIfInBounds_toArray, List.set_cons_zero, List.set_cons_succ, i64_w, i32_w]
              rfl
            refine pure_ (i := 10) (N := some 36) (v := undef) (a' := ?_) #[true, true, true, true, true, true, true, true, true, true, true, false, false, false] rfl rfl (any_of HT_.out (by kernel_rfl)) (fun _ _ _ h => h) (Or.inr ⟨by rfl, rfl⟩) ?_ ?_
            rotate_left
            · simp only [Act.put, List.setIfInBounds_toArray, List.set_cons_zero, List.set_cons_succ, i64_w, i32_w]
              rfl
            refine pure_ (i := 11) (N := some 37) (v := undef) (a' := ?_) #[true, true, true, true, true, true, true, true, true, true, true, true, false, false] rfl rfl (any_of HT_.out (by kernel_rfl)) (fun _ _ _ h => h) (Or.inr ⟨by rfl, rfl⟩) ?_ ?_
            rotate_left
            · simp only [Act.put, List.setIfInBounds_toArray, List.set_cons_zero, List.set_cons_succ, i64_w, i32_w]
              rfl
            refine pure_ (i := 12) (N := some 38) (v := undef) (a' := ?_) #[true, true, true, true, true, true, true, true, true, true, true, true, true, false] rfl rfl (any_of HT_.out (by kernel_rfl)) (fun _ _ _ h => h) (Or.inr ⟨by rfl, rfl⟩) ?_ ?_
            rotate_left
            · simp only [Act.put, List.setIfInBounds_toArray, List.set_cons_zero, List.set_cons_succ, i64_w, i32_w]
              rfl
            refine pure_ (i := 13) (N := some 39) (v := ?_) (a' := ?_) #[true, true, true, true, true, true, true, true, true, true, true, true, true, true] rfl rfl (any_of HT_.out (by kernel_rfl)) (fun _ _ _ h => h) (Or.inl ⟨by rfl, ?_⟩) ?_ ?_
            rotate_left
            · intro w'
              go_simp
              with_reducible rfl
            rotate_left
            · simp only [Act.put, List.setIfInBounds_toArray, List.set_cons_zero, List.set_cons_succ, i64_w, i32_w]
              rfl
            refine done_ (done_of HT_.out (by kernel_rfl)) ?_
            try go_wp2
            go_meet
            case rel => exact ⟨_, (false), (by first | rfl | (simp; done) | (simp [*]; done)), H', ⟨by have := HK1.out; first | omega | exact Nat.le_refl _⟩, ⟨by (with_reducible repeat (first | apply Kd.R_alloc | apply Kd.R_drewN | apply Kd.R_drew)); exact HO_5.out⟩, ⟨by (with_reducible repeat (first | refine blk_drewN ?_ _ | refine blk_drew ?_ | refine blk_alloc ?_ _)); exact BK129.out⟩, ⟨by (with_reducible repeat (first | refine blk_drewN ?_ _ | refine blk_drew ?_ | refine blk_alloc ?_ _)); exact BK135.out⟩, ⟨by repeat (first | (with_reducible first | exact HB.out | apply below_alloc | apply pw_below_drewN | apply below_drew1 | refine below_set ?_ GE129.out | refine below_set ?_ GE135.out) | exact HB.out)⟩⟩
         case rest =>
          clear HC9
          try clear c1
          try clear p1
          try clear q1
          try clear hx1
          try clear c2
          try clear p2
          try clear c3
          try clear c3b0
          try clear c3b1
          try clear p6
          try clear c7
          try clear c7b0
          try clear c8
          try clear c8b0
          try clear c12
          try clear c13
          try clear p13
          try clear q13
          try clear hx13
          try clear c14
          try clear c14b0
          try clear c16
          try clear c16b0
          try clear c17
          try clear c17b0
          try clear hcz10_0
          try clear hcz10_1
          try clear hcz10_2
          try clear hcz10_3
          try clear hcz13_0
          try clear hcz13_1
          try clear hcz5_0
          try clear hcz5_1
          try clear hcz5_2
          try clear hcz5_3
          try clear hfz10_0
          try clear hfz10_1
          try clear hfz10_2
          try clear hfz10_3
          try clear hfz13_0
          try clear hfz13_1
          try clear hfz5_0
          try clear hfz5_1
          try clear hfz5_2
          try clear hfz5_3
          try clear hx134_0
          try clear hx134_1
          try clear hx136_0
          try clear hx136_1
          try clear p134
          try clear p136
          try clear p2
          try clear q134
          try clear q136
          obtain ⟨kq, x39_8, rfl, HA, HJ8, HO_5, BK129, BK135, HB⟩ := hcut
          cases kq with
          | zero => exact absurd HA.out (by simp [dovetailref05_Text.j1])
          | succ kj8 =>
           have H := HA.out
           clear HA
           simp only [dovetailref05_Text.j1] at H
           have HC22 := Aside0.mk H
           clear H
           go_upto_if 39 with (fail)
           go_cut [5] (fun v5 wc => ∃ (kq : Nat) (x5_21 : List Int), Aside0 (dovetailref05_Text.j2 kq x5_21 x6_1 l0_0 l0_1 a0_2 l0_3 ((rd_T52 l0_3 x6_1).f0) ((rd_T52 l0_3 x6_1).f1) = some (r1, r2)) ∧ Aside0 (kq ≤ kj8) ∧ Aside0 (Kd.R (Kd.int .u8) 5 wc w.heap.size (fun _ => True) v5 x5_21) ∧ Aside0 (wc.heap[gb129]? = some (.cells #[(.slice A0_0 l0_0.length c0_0), (.slice A0_1 l0_1.length c0_1), .int .i64 a0_2, (.slice (some ad134) l0_3.length c0_3)] 25 (0, 0))) ∧ Aside0 (wc.heap[gb135]? = some (.cells #[.int .i64 ((rd_T52 l0_3 x6_1).f0), (.slice A134_1 ((rd_T52 l0_3 x6_1).f1).length c134_1)] 52 (0, 0))) ∧ Aside0 (Below w.heap.size w wc))
           case first =>
            have H := HC22.out
            clear HC22
            by_cases c23 : x39_8 = true
            · subst c23
              have H1 : (if x5_1.length + 2 < 140737488355328 then (dovetailref05_Text.j2 kj8 (x5_1 ++ bytesOf (⟨#[32, 124]⟩ : ByteArray)) x6_1 l0_0 l0_1 a0_2 l0_3 ((rd_T52 l0_3 x6_1).f0) ((rd_T52 l0_3 x6_1).f1)) else (none)) = some (r1, r2) := by rw [if_pos rfl] at H; exact H
              clear H
              have H := H1
              clear H1
              by_cases c24 : x5_1.length + 2 < 140737488355328
              · rw [if_pos c24] at H
                have LMc24 := Aside0.mk c24
                clear c24
                obtain ⟨y137, hy137⟩ : ∃ y_ : List Int, y_ = (x5_1 ++ bytesOf (⟨#[32, 124]⟩ : ByteArray)) := ⟨_, rfl⟩
                replace H : (dovetailref05_Text.j2 kj8 y137 x6_1 l0_0 l0_1 a0_2 l0_3 ((rd_T52 l0_3 x6_1).f0) ((rd_T52 l0_3 x6_1).f1)) = some (r1, r2) := by first | (rw [hy137]; with_reducible exact H) | (have H2_ := (Option.bind_some _ _).symm.trans H; rw [hy137]; with_reducible exact H2_) | (have H2_ := (Option.bind_some _ _).symm.trans H; with_reducible exact H2_) | with_reducible exact H | (rw [hy137]; exact H) | exact H
                have Ny137 := Aside0.mk hy137
                clear hy137
                have H' := Aside0.mk H
                clear H
                go_wp2_with (first | (at_builtin; refine print_append_str (w0 := w) w.heap.size rfl (.tmp 40) _ 101 9 5 rfl Tryd.underlying101 Tryd.underlying9 info5 u5 x5_1 (⟨#[32, 124]⟩ : ByteArray) rfl rfl ?aO ?aB ?aS ?aL ?_; (case aB => exact (by repeat (first | (with_reducible first | exact HB.out | apply below_alloc | apply pw_below_drewN | apply below_drew1 | refine below_set ?_ GE129.out | refine below_set ?_ GE135.out) | exact HB.out))); (case aO => exact (Kd.own_of_R (by (with_reducible repeat (first | apply Kd.R_alloc | apply Kd.R_drewN | apply Kd.R_drew)); exact HO_5.out))); (case aS => exact (below_size (by repeat (first | (with_reducible first | exact HB.out | apply below_alloc | apply pw_below_drewN | apply below_drew1 | refine below_set ?_ GE129.out | refine below_set ?_ GE135.out) | exact HB.out)))); (case aL => have e_ : (⟨#[32, 124]⟩ : ByteArray).size = 2 := rfl; have := LMc24.out; omega); intro v138 w25 ho0 hb hg; have ho := Kd.R_of_own (h1 := fun _ => rfl) (ok := fun _ => True) ho0 (fun _ _ => trivial); clear ho0; have hat := True.intro; rw [← Ny137.out] at ho; change Kd.R (Kd.int .u8) 5 w25 w.heap.size (fun _ => True) v138 y137 at ho; have n0_ := Aside0.mk (blk_grown (g := gb129) (o := .cells #[.slice A0_0 l0_0.length c0_0, .slice A0_1 l0_1.length c0_1, .int .i64 a0_2, .slice (some ad134) l0_3.length c0_3] 25 (0, 0)) (by (with_reducible repeat (first | refine blk_drewN ?_ _ | refine blk_drew ?_ | refine blk_alloc ?_ _)); exact BK129.out) hg (Kd.R_ne HO_5.out BK129.out (by decide))); have n1_ := Aside0.mk (blk_grown (g := gb135) (o := .cells #[.int .i64 ((rd_T52 l0_3 x6_1).f0), .slice A134_1 ((rd_T52 l0_3 x6_1).f1).length c134_1] 52 (0, 0)) (by (with_reducible repeat (first | refine blk_drewN ?_ _ | refine blk_drew ?_ | refine blk_alloc ?_ _)); exact BK135.out) hg (Kd.R_ne HO_5.out BK135.out (by decide))); have n2_ := Aside0.mk (hb); have n3_ := Aside0.mk (ho); clear BK129; clear BK135; clear HB; clear HO_5; have BK129 := n0_; have BK135 := n1_; have HB := n2_; have HO139 := n3_; clear n0_ n1_ n2_ n3_; clear ho hb hg hat))
                go_meet
                case rel => exact ⟨_, (y137), H', ⟨by have := HK1.out; have := HJ8.out; first | omega | exact Nat.le_refl _⟩, ⟨by (with_reducible repeat (first | apply Kd.R_alloc | apply Kd.R_drewN | apply Kd.R_drew)); exact HO139.out⟩, ⟨by (with_reducible repeat (first | refine blk_drewN ?_ _ | refine blk_drew ?_ | refine blk_alloc ?_ _)); exact BK129.out⟩, ⟨by (with_reducible repeat (first | refine blk_drewN ?_ _ | refine blk_drew ?_ | refine blk_alloc ?_ _)); exact BK135.out⟩, ⟨by repeat (first | (with_reducible first | exact HB.out | apply below_alloc | apply pw_below_drewN | apply below_drew1 | refine below_set ?_ GE129.out | refine below_set ?_ GE135.out) | exact HB.out)⟩⟩
              · rw [if_neg c24] at H
                exact absurd H (by simp)
            · replace c23 := Bool.eq_false_iff.mpr c23
              subst c23
              have H1 : (if x6_1 > 0 then (if x5_1.length < 140737488355328 then ((some (x5_1 ++ [10] : List Int)).bind fun y140 => (if 0 ≤ ((rd_T52 l0_3 x6_1).f0) then (if ((rd_T52 l0_3 x6_1).f0) < (l0_1.length : Int) then (if y140.length + (rdOf ByteArray.empty l0_1 ((rd_T52 l0_3 x6_1).f0)).size < 140737488355328 then ((some (y140 ++ bytesOf (rdOf ByteArray.empty l0_1 ((rd_T52 l0_3 x6_1).f0)) : List Int)).bind fun y144 => (if y144.length + 2 < 140737488355328 then (dovetailref05_Text.j2 kj8 (y144 ++ bytesOf (⟨#[32, 58]⟩ : ByteArray)) x6_1 l0_0 l0_1 a0_2 l0_3 ((rd_T52 l0_3 x6_1).f0) ((rd_T52 l0_3 x6_1).f1)) else (none))) else (none)) else (none)) else (none))) else (none)) else (if 0 ≤ ((rd_T52 l0_3 x6_1).f0) then (if ((rd_T52 l0_3 x6_1).f0) < (l0_1.length : Int) then (if x5_1.length + (rdOf ByteArray.empty l0_1 ((rd_T52 l0_3 x6_1).f0)).size < 140737488355328 then ((some (x5_1 ++ bytesOf (rdOf ByteArray.empty l0_1 ((rd_T52 l0_3 x6_1).f0)) : List Int)).bind fun y151 => (if y151.length + 2 < 140737488355328 then (dovetailref05_Text.j2 kj8 (y151 ++ bytesOf (⟨#[32, 58]⟩ : ByteArray)) x6_1 l0_0 l0_1 a0_2 l0_3 ((rd_T52 l0_3 x6_1).f0) ((rd_T52 l0_3 x6_1).f1)) else (none))) else (none)) else (none)) else (none))) = some (r1, r2) := by rw [if_neg (show ¬ (false = true) by decide)] at H; exact H
              clear H
              have H := H1
              clear H1
              by_cases c26 : x6_1 > 0
              · rw [if_pos c26] at H
                have c26b0 : decide (0 < x6_1) = true := decide_eq_true c26
                clear c26
                (first | rw [c26b0] | (simp only [i64_w, i32_w]; rw [c26b0]) | skip)
                by_cases c27 : x5_1.length < 140737488355328
                · rw [if_pos c27] at H
                  have LMc27 := Aside0.mk c27
                  clear c27
                  obtain ⟨y140, hy140⟩ : ∃ y_ : List Int, y_ = (x5_1 ++ [10]) := ⟨_, rfl⟩
                  replace H : (if 0 ≤ ((rd_T52 l0_3 x6_1).f0) then (if ((rd_T52 l0_3 x6_1).f0) < (l0_1.length : Int) then (if y140.length + (rdOf ByteArray.empty l0_1 ((rd_T52 l0_3 x6_1).f0)).size < 140737488355328 then ((some (y140 ++ bytesOf (rdOf ByteArray.empty l0_1 ((rd_T52 l0_3 x6_1).f0)) : List Int)).bind fun y144 => (if y144.length + 2 < 140737488355328 then (dovetailref05_Text.j2 kj8 (y144 ++ bytesOf (⟨#[32, 58]⟩ : ByteArray)) x6_1 l0_0 l0_1 a0_2 l0_3 ((rd_T52 l0_3 x6_1).f0) ((rd_T52 l0_3 x6_1).f1)) else (none))) else (none)) else (none)) else (none)) = some (r1, r2) := by first | (rw [hy140]; with_reducible exact H) | (have H2_ := (Option.bind_some _ _).symm.trans H; rw [hy140]; with_reducible exact H2_) | (have H2_ := (Option.bind_some _ _).symm.trans H; with_reducible exact H2_) | with_reducible exact H | (rw [hy140]; exact H) | exact H
                  have Ny140 := Aside0.mk hy140
                  clear hy140
                  by_cases c28 : 0 ≤ ((rd_T52 l0_3 x6_1).f0)
                  · rw [if_pos c28] at H
                    have c28b0 : decide (0 ≤ ((rd_T52 l0_3 x6_1).f0)) = true := decide_eq_true c28
                    clear c28
                    by_cases c29 : ((rd_T52 l0_3 x6_1).f0) < (l0_1.length : Int)
                    · rw [if_pos c29] at H
                      have c29b0 : decide (((rd_T52 l0_3 x6_1).f0) < (l0_1.length : Int)) = true := decide_eq_true c29
                      clear c29
                      by_cases c30 : y140.length + (rdOf ByteArray.empty l0_1 ((rd_T52 l0_3 x6_1).f0)).size < 140737488355328
                      · rw [if_pos c30] at H
                        have LMc30 := Aside0.mk c30
                        clear c30
                        obtain ⟨y144, hy144⟩ : ∃ y_ : List Int, y_ = (y140 ++ bytesOf (rdOf ByteArray.empty l0_1 ((rd_T52 l0_3 x6_1).f0))) := ⟨_, rfl⟩
                        replace H : (if y144.length + 2 < 140737488355328 then (dovetailref05_Text.j2 kj8 (y144 ++ bytesOf (⟨#[32, 58]⟩ : ByteArray)) x6_1 l0_0 l0_1 a0_2 l0_3 ((rd_T52 l0_3 x6_1).f0) ((rd_T52 l0_3 x6_1).f1)) else (none)) = some (r1, r2) := by first | (rw [hy144]; with_reducible exact H) | (have H2_ := (Option.bind_some _ _).symm.trans H; rw [hy144]; with_reducible exact H2_) | (have H2_ := (Option.bind_some _ _).symm.trans H; with_reducible exact H2_) | with_reducible exact H | (rw [hy144]; exact H) | exact H
                        have Ny144 := Aside0.mk hy144
                        clear hy144
                        by_cases c31 : y144.length + 2 < 140737488355328
                        · rw [if_pos c31] at H
                          have LMc31 := Aside0.mk c31
                          clear c31
                          obtain ⟨y147, hy147⟩ : ∃ y_ : List Int, y_ = (y144 ++ bytesOf (⟨#[32, 58]⟩ : ByteArray)) := ⟨_, rfl⟩
                          replace H : (dovetailref05_Text.j2 kj8 y147 x6_1 l0_0 l0_1 a0_2 l0_3 ((rd_T52 l0_3 x6_1).f0) ((rd_T52 l0_3 x6_1).f1)) = some (r1, r2) := by first | (rw [hy147]; with_reducible exact H) | (have H2_ := (Option.bind_some _ _).symm.trans H; rw [hy147]; with_reducible exact H2_) | (have H2_ := (Option.bind_some _ _).symm.trans H; with_reducible exact H2_) | with_reducible exact H | (rw [hy147]; exact H) | exact H
                          have Ny147 := Aside0.mk hy147
                          clear hy147
                          have H' := Aside0.mk H
                          clear H
                          go_wp2_with (first | ((with_reducible refine gate_builtin (b := .append) (xs := #[.tmp 44, .tmp 45]) rfl ?_); at_builtin; refine Kd.R_append (Kd.int .u8) (w0 := w) w.heap.size rfl (.tmp 44) (.tmp 45) 101 5 (.int .u8 0) 1 rfl Tryd.underlying101 info5 rfl (by decide) (by omega) u5 x5_1 10 [.int .u8 10] (fun _ => True) (fun _ => False) rfl rfl ?aP (fun _ hk => hk.elim) ?aF ?aO ?aB ?aS ?aL ?_; (case aP => exact rfl); (case aB => exact (by repeat (first | (with_reducible first | exact HB.out | apply below_alloc | apply pw_below_drewN | apply below_drew1 | refine below_set ?_ GE129.out | refine below_set ?_ GE135.out) | exact HB.out))); (case aF => exact (fun _ _ => trivial)); (case aO => exact (by (with_reducible repeat (first | apply Kd.R_alloc | apply Kd.R_drewN | apply Kd.R_drew)); exact HO_5.out)); (case aS => exact (below_size (by repeat (first | (with_reducible first | exact HB.out | apply below_alloc | apply pw_below_drewN | apply below_drew1 | refine below_set ?_ GE129.out | refine below_set ?_ GE135.out) | exact HB.out)))); (case aL => have := LMc27.out; omega); intro v141 w32 ho hb hg hat; rw [← Ny140.out] at ho; have n0_ := Aside0.mk (blk_grown (g := gb129) (o := .cells #[.slice A0_0 l0_0.length c0_0, .slice A0_1 l0_1.length c0_1, .int .i64 a0_2, .slice (some ad134) l0_3.length c0_3] 25 (0, 0)) (by (with_reducible repeat (first | refine blk_drewN ?_ _ | refine blk_drew ?_ | refine blk_alloc ?_ _)); exact BK129.out) hg (Kd.R_ne HO_5.out BK129.out (by decide))); have n1_ := Aside0.mk (blk_grown (g := gb135) (o := .cells #[.int .i64 ((rd_T52 l0_3 x6_1).f0), .slice A134_1 ((rd_T52 l0_3 x6_1).f1).length c134_1] 52 (0, 0)) (by (with_reducible repeat (first | refine blk_drewN ?_ _ | refine blk_drew ?_ | refine blk_alloc ?_ _)); exact BK135.out) hg (Kd.R_ne HO_5.out BK135.out (by decide))); have n2_ := Aside0.mk (hb); have n3_ := Aside0.mk (ho); clear BK129; clear BK135; clear HB; clear HO_5; have BK129 := n0_; have BK135 := n1_; have HB := n2_; have HO142 := n3_; clear n0_ n1_ n2_ n3_; clear ho hb hg hat; have hnb33 := NB129_135.out; have hnc33 := NB135_129.out; have hcz34_0 : w32.cell? ⟨gb129, 0, none⟩ = some (.slice A0_0 l0_0.length c0_0) := (blk_cell BK129.out 0).trans rfl; have hcz34_1 : w32.cell? ⟨gb129, 1, none⟩ = some (.slice A0_1 l0_1.length c0_1) := (blk_cell BK129.out 1).trans rfl; have hcz34_2 : w32.cell? ⟨gb129, 2, none⟩ = some (.int .i64 a0_2) := (blk_cell BK129.out 2).trans rfl; have hcz34_3 : w32.cell? ⟨gb129, 3, none⟩ = some (.slice (some ad134) l0_3.length c0_3) := (blk_cell BK129.out 3).trans rfl; have hfz34_0 := blk_frozen BK129.out 0; have hfz34_1 := blk_frozen BK129.out 1; have hfz34_2 := blk_frozen BK129.out 2; have hfz34_3 := blk_frozen BK129.out 3; have hcz35_0 : w32.cell? ⟨gb135, 0, none⟩ = some (.int .i64 ((rd_T52 l0_3 x6_1).f0)) := (blk_cell BK135.out 0).trans rfl; have hcz35_1 : w32.cell? ⟨gb135, 1, none⟩ = some (.slice A134_1 ((rd_T52 l0_3 x6_1).f1).length c134_1) := (blk_cell BK135.out 1).trans rfl; have hfz35_0 := blk_frozen BK135.out 0; have hfz35_1 := blk_frozen BK135.out 1; have p143 : 0 ≤ (((rd_T52 l0_3 x6_1).f0) : Int) := of_decide_eq_true (by first | (with_reducible assumption) | assumption); have q143 : ((rd_T52 l0_3 x6_1).f0) < (l0_1.length : Int) := of_decide_eq_true (by first | (with_reducible assumption) | assumption); obtain ⟨ad143, e143, hx143_0⟩ := Kd.at_string HR0_1.out ((rd_T52 l0_3 x6_1).f0) p143 q143; cases e143; replace hx143_0 := (HB.out.cell (World.block_lt_of_cell? w _ hx143_0)).trans hx143_0; replace p143 := eq_true p143; replace q143 := eq_true q143) | (at_builtin; refine print_append_str (w0 := w) w.heap.size rfl (.tmp 47) _ 101 9 5 rfl Tryd.underlying101 Tryd.underlying9 info5 v141 y140 (rdOf ByteArray.empty l0_1 ((rd_T52 l0_3 x6_1).f0)) rfl rfl ?aO ?aB ?aS ?aL ?_; (case aB => exact (by repeat (first | (with_reducible first | exact HB.out | apply below_alloc | apply pw_below_drewN | apply below_drew1 | refine below_set ?_ GE129.out | refine below_set ?_ GE135.out) | exact HB.out))); (case aO => exact (Kd.own_of_R (by (with_reducible repeat (first | apply Kd.R_alloc | apply Kd.R_drewN | apply Kd.R_drew)); exact HO142.out))); (case aS => exact (below_size (by repeat (first | (with_reducible first | exact HB.out | apply below_alloc | apply pw_below_drewN | apply below_drew1 | refine below_set ?_ GE129.out | refine below_set ?_ GE135.out) | exact HB.out)))); (case aL => have := LMc30.out; omega); intro v145 w36 ho0 hb hg; have ho := Kd.R_of_own (h1 := fun _ => rfl) (ok := fun _ => True) ho0 (fun _ _ => trivial); clear ho0; have hat := True.intro; rw [← Ny144.out] at ho; change Kd.R (Kd.int .u8) 5 w36 w.heap.size (fun _ => True) v145 y144 at ho; have n0_ := Aside0.mk (blk_grown (g := gb129) (o := .cells #[.slice A0_0 l0_0.length c0_0, .slice (some ad143) l0_1.length c0_1, .int .i64 a0_2, .slice (some ad134) l0_3.length c0_3] 25 (0, 0)) (by (with_reducible repeat (first | refine blk_drewN ?_ _ | refine blk_drew ?_ | refine blk_alloc ?_ _)); exact BK129.out) hg (Kd.R_ne HO142.out BK129.out (by decide))); have n1_ := Aside0.mk (blk_grown (g := gb135) (o := .cells #[.int .i64 ((rd_T52 l0_3 x6_1).f0), .slice A134_1 ((rd_T52 l0_3 x6_1).f1).length c134_1] 52 (0, 0)) (by (with_reducible repeat (first | refine blk_drewN ?_ _ | refine blk_drew ?_ | refine blk_alloc ?_ _)); exact BK135.out) hg (Kd.R_ne HO142.out BK135.out (by decide))); have n2_ := Aside0.mk (hb); have n3_ := Aside0.mk (ho); clear BK129; clear BK135; clear HB; clear HO142; have BK129 := n0_; have BK135 := n1_; have HB := n2_; have HO146 := n3_; clear n0_ n1_ n2_ n3_; clear ho hb hg hat) | (at_builtin; refine print_append_str (w0 := w) w.heap.size rfl (.tmp 55) _ 101 9 5 rfl Tryd.underlying101 Tryd.underlying9 info5 v145 y144 (⟨#[32, 58]⟩ : ByteArray) rfl rfl ?aO ?aB ?aS ?aL ?_; (case aB => exact (by repeat (first | (with_reducible first | exact HB.out | apply below_alloc | apply pw_below_drewN | apply below_drew1 | refine below_set ?_ GE129.out | refine below_set ?_ GE135.out) | exact HB.out))); (case aO => exact (Kd.own_of_R (by (with_reducible repeat (first | apply Kd.R_alloc | apply Kd.R_drewN | apply Kd.R_drew)); exact HO146.out))); (case aS => exact (below_size (by repeat (first | (with_reducible first | exact HB.out | apply below_alloc | apply pw_below_drewN | apply below_drew1 | refine below_set ?_ GE129.out | refine below_set ?_ GE135.out) | exact HB.out)))); (case aL => have e_ : (⟨#[32, 58]⟩ : ByteArray).size = 2 := rfl; have := LMc31.out; omega); intro v148 w37 ho0 hb hg; have ho := Kd.R_of_own (h1 := fun _ => rfl) (ok := fun _ => True) ho0 (fun _ _ => trivial); clear ho0; have hat := True.intro; rw [← Ny147.out] at ho; change Kd.R (Kd.int .u8) 5 w37 w.heap.size (fun _ => True) v148 y147 at ho; have n0_ := Aside0.mk (blk_grown (g := gb129) (o := .cells #[.slice A0_0 l0_0.length c0_0, .slice (some ad143) l0_1.length c0_1, .int .i64 a0_2, .slice (some ad134) l0_3.length c0_3] 25 (0, 0)) (by (with_reducible repeat (first | refine blk_drewN ?_ _ | refine blk_drew ?_ | refine blk_alloc ?_ _)); exact BK129.out) hg (Kd.R_ne HO146.out BK129.out (by decide))); have n1_ := Aside0.mk (blk_grown (g := gb135) (o := .cells #[.int .i64 ((rd_T52 l0_3 x6_1).f0), .slice A134_1 ((rd_T52 l0_3 x6_1).f1).length c134_1] 52 (0, 0)) (by (with_reducible repeat (first | refine blk_drewN ?_ _ | refine blk_drew ?_ | refine blk_alloc ?_ _)); exact BK135.out) hg (Kd.R_ne HO146.out BK135.out (by decide))); have n2_ := Aside0.mk (hb); have n3_ := Aside0.mk (ho); clear BK129; clear BK135; clear HB; clear HO146; have BK129 := n0_; have BK135 := n1_; have HB := n2_; have HO149 := n3_; clear n0_ n1_ n2_ n3_; clear ho hb hg hat))
                          go_meet
                          case rel => exact ⟨_, (y147), H', ⟨by have := HK1.out; have := HJ8.out; first | omega | exact Nat.le_refl _⟩, ⟨by (with_reducible repeat (first | apply Kd.R_alloc | apply Kd.R_drewN | apply Kd.R_drew)); exact HO149.out⟩, ⟨by (with_reducible repeat (first | refine blk_drewN ?_ _ | refine blk_drew ?_ | refine blk_alloc ?_ _)); exact BK129.out⟩, ⟨by (with_reducible repeat (first | refine blk_drewN ?_ _ | refine blk_drew ?_ | refine blk_alloc ?_ _)); exact BK135.out⟩, ⟨by repeat (first | (with_reducible first | exact HB.out | apply below_alloc | apply pw_below_drewN | apply below_drew1 | refine below_set ?_ GE129.out | refine below_set ?_ GE135.out) | exact HB.out)⟩⟩
                        · rw [if_neg c31] at H
                          exact absurd H (by simp)
                      · rw [if_neg c30] at H
                        exact absurd H (by simp)
                    · rw [if_neg c29] at H
                      exact absurd H (by simp)
                  · rw [if_neg c28] at H
                    exact absurd H (by simp)
                · rw [if_neg c27] at H
                  exact absurd H (by simp)
              · rw [if_neg c26] at H
                have c26b0 : decide (0 < x6_1) = false := decide_eq_false c26
                clear c26
                (first | rw [c26b0] | (simp only [i64_w, i32_w]; rw [c26b0]) | skip)
                by_cases c38 : 0 ≤ ((rd_T52 l0_3 x6_1).f0)
                · rw [if_pos c38] at H
                  have c38b0 : decide (0 ≤ ((rd_T52 l0_3 x6_1).f0)) = true := decide_eq_true c38
                  clear c38
                  by_cases c39 : ((rd_T52 l0_3 x6_1).f0) < (l0_1.length : Int)
                  · rw [if_pos c39] at H
                    have c39b0 : decide (((rd_T52 l0_3 x6_1).f0) < (l0_1.length : Int)) = true := decide_eq_true c39
                    clear c39
                    by_cases c40 : x5_1.length + (rdOf ByteArray.empty l0_1 ((rd_T52 l0_3 x6_1).f0)).size < 140737488355328
                    · rw [if_pos c40] at H
                      have LMc40 := Aside0.mk c40
                      clear c40
                      obtain ⟨y151, hy151⟩ : ∃ y_ : List Int, y_ = (x5_1 ++ bytesOf (rdOf ByteArray.empty l0_1 ((rd_T52 l0_3 x6_1).f0))) := ⟨_, rfl⟩
                      replace H : (if y151.length + 2 < 140737488355328 then (dovetailref05_Text.j2 kj8 (y151 ++ bytesOf (⟨#[32, 58]⟩ : ByteArray)) x6_1 l0_0 l0_1 a0_2 l0_3 ((rd_T52 l0_3 x6_1).f0) ((rd_T52 l0_3 x6_1).f1)) else (none)) = some (r1, r2) := by first | (rw [hy151]; with_reducible exact H) | (have H2_ := (Option.bind_some _ _).symm.trans H; rw [hy151]; with_reducible exact H2_) | (have H2_ := (Option.bind_some _ _).symm.trans H; with_reducible exact H2_) | with_reducible exact H | (rw [hy151]; exact H) | exact H
                      have Ny151 := Aside0.mk hy151
                      clear hy151
                      by_cases c41 : y151.length + 2 < 140737488355328
                      · rw [if_pos c41] at H
                        have LMc41 := Aside0.mk c41
                        clear c41
                        obtain ⟨y154, hy154⟩ : ∃ y_ : List Int, y_ = (y151 ++ bytesOf (⟨#[32, 58]⟩ : ByteArray)) := ⟨_, rfl⟩
                        replace H : (dovetailref05_Text.j2 kj8 y154 x6_1 l0_0 l0_1 a0_2 l0_3 ((rd_T52 l0_3 x6_1).f0) ((rd_T52 l0_3 x6_1).f1)) = some (r1, r2) := by first | (rw [hy154]; with_reducible exact H) | (have H2_ := (Option.bind_some _ _).symm.trans H; rw [hy154]; with_reducible exact H2_) | (have H2_ := (Option.bind_some _ _).symm.trans H; with_reducible exact H2_) | with_reducible exact H | (rw [hy154]; exact H) | exact H
                        have Ny154 := Aside0.mk hy154
                        clear hy154
                        have H' := Aside0.mk H
                        clear H
                        have hnb42 := NB129_135.out
                        have hnc42 := NB135_129.out
                        have hcz43_0 : wc.cell? ⟨gb129, 0, none⟩ = some (.slice A0_0 l0_0.length c0_0) := (blk_cell BK129.out 0).trans rfl
                        have hcz43_1 : wc.cell? ⟨gb129, 1, none⟩ = some (.slice A0_1 l0_1.length c0_1) := (blk_cell BK129.out 1).trans rfl
                        have hcz43_2 : wc.cell? ⟨gb129, 2, none⟩ = some (.int .i64 a0_2) := (blk_cell BK129.out 2).trans rfl
                        have hcz43_3 : wc.cell? ⟨gb129, 3, none⟩ = some (.slice (some ad134) l0_3.length c0_3) := (blk_cell BK129.out 3).trans rfl
                        have hfz43_0 := blk_frozen BK129.out 0
                        have hfz43_1 := blk_frozen BK129.out 1
                        have hfz43_2 := blk_frozen BK129.out 2
                        have hfz43_3 := blk_frozen BK129.out 3
                        have hcz44_0 : wc.cell? ⟨gb135, 0, none⟩ = some (.int .i64 ((rd_T52 l0_3 x6_1).f0)) := (blk_cell BK135.out 0).trans rfl
                        have hcz44_1 : wc.cell? ⟨gb135, 1, none⟩ = some (.slice A134_1 ((rd_T52 l0_3 x6_1).f1).length c134_1) := (blk_cell BK135.out 1).trans rfl
                        have hfz44_0 := blk_frozen BK135.out 0
                        have hfz44_1 := blk_frozen BK135.out 1
                        have p150 : 0 ≤ (((rd_T52 l0_3 x6_1).f0) : Int) := of_decide_eq_true (by first | (with_reducible assumption) | assumption)
                        have q150 : ((rd_T52 l0_3 x6_1).f0) < (l0_1.length : Int) := of_decide_eq_true (by first | (with_reducible assumption) | assumption)
                        obtain ⟨ad150, e150, hx150_0⟩ := Kd.at_string HR0_1.out ((rd_T52 l0_3 x6_1).f0) p150 q150
                        cases e150
                        replace hx150_0 := (HB.out.cell (World.block_lt_of_cell? w _ hx150_0)).trans hx150_0
                        replace p150 := eq_true p150
                        replace q150 := eq_true q150
                        go_wp2_with (first | (at_builtin; refine print_append_str (w0 := w) w.heap.size rfl (.tmp 47) _ 101 9 5 rfl Tryd.underlying101 Tryd.underlying9 info5 u5 x5_1 (rdOf ByteArray.empty l0_1 ((rd_T52 l0_3 x6_1).f0)) rfl rfl ?aO ?aB ?aS ?aL ?_; (case aB => exact (by repeat (first | (with_reducible first | exact HB.out | apply below_alloc | apply pw_below_drewN | apply below_drew1 | refine below_set ?_ GE129.out | refine below_set ?_ GE135.out) | exact HB.out))); (case aO => exact (Kd.own_of_R (by (with_reducible repeat (first | apply Kd.R_alloc | apply Kd.R_drewN | apply Kd.R_drew)); exact HO_5.out))); (case aS => exact (below_size (by repeat (first | (with_reducible first | exact HB.out | apply below_alloc | apply pw_below_drewN | apply below_drew1 | refine below_set ?_ GE129.out | refine below_set ?_ GE135.out) | exact HB.out)))); (case aL => have := LMc40.out; omega); intro v152 w45 ho0 hb hg; have ho := Kd.R_of_own (h1 := fun _ => rfl) (ok := fun _ => True) ho0 (fun _ _ => trivial); clear ho0; have hat := True.intro; rw [← Ny151.out] at ho; change Kd.R (Kd.int .u8) 5 w45 w.heap.size (fun _ => True) v152 y151 at ho; have n0_ := Aside0.mk (blk_grown (g := gb129) (o := .cells #[.slice A0_0 l0_0.length c0_0, .slice (some ad150) l0_1.length c0_1, .int .i64 a0_2, .slice (some ad134) l0_3.length c0_3] 25 (0, 0)) (by (with_reducible repeat (first | refine blk_drewN ?_ _ | refine blk_drew ?_ | refine blk_alloc ?_ _)); exact BK129.out) hg (Kd.R_ne HO_5.out BK129.out (by decide))); have n1_ := Aside0.mk (blk_grown (g := gb135) (o := .cells #[.int .i64 ((rd_T52 l0_3 x6_1).f0), .slice A134_1 ((rd_T52 l0_3 x6_1).f1).length c134_1] 52 (0, 0)) (by (with_reducible repeat (first | refine blk_drewN ?_ _ | refine blk_drew ?_ | refine blk_alloc ?_ _)); exact BK135.out) hg (Kd.R_ne HO_5.out BK135.out (by decide))); have n2_ := Aside0.mk (hb); have n3_ := Aside0.mk (ho); clear BK129; clear BK135; clear HB; clear HO_5; have BK129 := n0_; have BK135 := n1_; have HB := n2_; have HO153 := n3_; clear n0_ n1_ n2_ n3_; clear ho hb hg hat) | (at_builtin; refine print_append_str (w0 := w) w.heap.size rfl (.tmp 55) _ 101 9 5 rfl Tryd.underlying101 Tryd.underlying9 info5 v152 y151 (⟨#[32, 58]⟩ : ByteArray) rfl rfl ?aO ?aB ?aS ?aL ?_; (case aB => exact (by repeat (first | (with_reducible first | exact HB.out | apply below_alloc | apply pw_below_drewN | apply below_drew1 | refine below_set ?_ GE129.out | refine below_set ?_ GE135.out) | exact HB.out))); (case aO => exact (Kd.own_of_R (by (with_reducible repeat (first | apply Kd.R_alloc | apply Kd.R_drewN | apply Kd.R_drew)); exact HO153.out))); (case aS => exact (below_size (by repeat (first | (with_reducible first | exact HB.out | apply below_alloc | apply pw_below_drewN | apply below_drew1 | refine below_set ?_ GE129.out | refine below_set ?_ GE135.out) | exact HB.out)))); (case aL => have e_ : (⟨#[32, 58]⟩ : ByteArray).size = 2 := rfl; have := LMc41.out; omega); intro v155 w46 ho0 hb hg; have ho := Kd.R_of_own (h1 := fun _ => rfl) (ok := fun _ => True) ho0 (fun _ _ => trivial); clear ho0; have hat := True.intro; rw [← Ny154.out] at ho; change Kd.R (Kd.int .u8) 5 w46 w.heap.size (fun _ => True) v155 y154 at ho; have n0_ := Aside0.mk (blk_grown (g := gb129) (o := .cells #[.slice A0_0 l0_0.length c0_0, .slice (some ad150) l0_1.length c0_1, .int .i64 a0_2, .slice (some ad134) l0_3.length c0_3] 25 (0, 0)) (by (with_reducible repeat (first | refine blk_drewN ?_ _ | refine blk_drew ?_ | refine blk_alloc ?_ _)); exact BK129.out) hg (Kd.R_ne HO153.out BK129.out (by decide))); have n1_ := Aside0.mk (blk_grown (g := gb135) (o := .cells #[.int .i64 ((rd_T52 l0_3 x6_1).f0), .slice A134_1 ((rd_T52 l0_3 x6_1).f1).length c134_1] 52 (0, 0)) (by (with_reducible repeat (first | refine blk_drewN ?_ _ | refine blk_drew ?_ | refine blk_alloc ?_ _)); exact BK135.out) hg (Kd.R_ne HO153.out BK135.out (by decide))); have n2_ := Aside0.mk (hb); have n3_ := Aside0.mk (ho); clear BK129; clear BK135; clear HB; clear HO153; have BK129 := n0_; have BK135 := n1_; have HB := n2_; have HO156 := n3_; clear n0_ n1_ n2_ n3_; clear ho hb hg hat))
                        go_meet
                        case rel => exact ⟨_, (y154), H', ⟨by have := HK1.out; have := HJ8.out; first | omega | exact Nat.le_refl _⟩, ⟨by (with_reducible repeat (first | apply Kd.R_alloc | apply Kd.R_drewN | apply Kd.R_drew)); exact HO156.out⟩, ⟨by (with_reducible repeat (first | refine blk_drewN ?_ _ | refine blk_drew ?_ | refine blk_alloc ?_ _)); exact BK129.out⟩, ⟨by (with_reducible repeat (first | refine blk_drewN ?_ _ | refine blk_drew ?_ | refine blk_alloc ?_ _)); exact BK135.out⟩, ⟨by repeat (first | (with_reducible first | exact HB.out | apply below_alloc | apply pw_below_drewN | apply below_drew1 | refine below_set ?_ GE129.out | refine below_set ?_ GE135.out) | exact HB.out)⟩⟩
                      · rw [if_neg c41] at H
                        exact absurd H (by simp)
                    · rw [if_neg c40] at H
                      exact absurd H (by simp)
                  · rw [if_neg c39] at H
                    exact absurd H (by simp)
                · rw [if_neg c38] at H
                  exact absurd H (by simp)
           case rest =>
            clear HC22
            try clear c1
            try clear p1
            try clear q1
            try clear hx1
            try clear c2
            try clear p2
            try clear c3
            try clear c3b0
            try clear c3b1
            try clear c4
            try clear p6
            try clear c7
            try clear c7b0
            try clear c8
            try clear c8b0
            try clear c12
            try clear c13
            try clear p13
            try clear q13
            try clear hx13
            try clear c14
            try clear c14b0
            try clear p14
            try clear q14
            try clear hx14
            try clear p15
            try clear q15
            try clear hx15
            try clear c16
            try clear c16b0
            try clear c17
            try clear c17b0
            try clear c23
            try clear c24
            try clear c26
            try clear c26b0
            try clear c27
            try clear c28
            try clear c28b0
            try clear c29
            try clear c29b0
            try clear c30
            try clear c31
            try clear c33
            try clear c38
            try clear c38b0
            try clear c39
            try clear c39b0
            try clear c40
            try clear c41
            try clear c42
            try clear hcz10_0
            try clear hcz10_1
            try clear hcz10_2
            try clear hcz10_3
            try clear hcz13_0
            try clear hcz13_1
            try clear hcz34_0
            try clear hcz34_1
            try clear hcz34_2
            try clear hcz34_3
            try clear hcz35_0
            try clear hcz35_1
            try clear hcz43_0
            try clear hcz43_1
            try clear hcz43_2
            try clear hcz43_3
            try clear hcz44_0
            try clear hcz44_1
            try clear hcz5_0
            try clear hcz5_1
            try clear hcz5_2
            try clear hcz5_3
            try clear hfz10_0
            try clear hfz10_1
            try clear hfz10_2
            try clear hfz10_3
            try clear hfz13_0
            try clear hfz13_1
            try clear hfz34_0
            try clear hfz34_1
            try clear hfz34_2
            try clear hfz34_3
            try clear hfz35_0
            try clear hfz35_1
            try clear hfz43_0
            try clear hfz43_1
            try clear hfz43_2
            try clear hfz43_3
            try clear hfz44_0
            try clear hfz44_1
            try clear hfz5_0
            try clear hfz5_1
            try clear hfz5_2
            try clear hfz5_3
            try clear hx134_0
            try clear hx134_1
            try clear hx136_0
            try clear hx136_1
            try clear hx143_0
            try clear hx150_0
            try clear p1
            try clear p13
            try clear p134
            try clear p136
            try clear p143
            try clear p150
            try clear p2
            try clear p6
            try clear q1
            try clear q13
            try clear q134
            try clear q136
            try clear q143
            try clear q150
            obtain ⟨kq, x5_21, HA, HJ21, HO_5, BK129, BK135, HB⟩ := hcut
            cases kq with
            | zero => exact absurd HA.out (by simp [dovetailref05_Text.j2])
            | succ kj21 =>
             have H := HA.out
             clear HA
             simp only [dovetailref05_Text.j2] at H
             have H' := Aside0.mk H
             clear H
             go_wp2
             go_loopg [5, 8] kj21 (fun kq v5 v8 w' => ∃ (x5_4 : List Int) (x8_4 : Int), v8 = .int .i64 x8_4 ∧ Aside0 (dovetailref05_Text.l1 kq x5_4 x6_1 x8_4 l0_0 l0_1 a0_2 l0_3 ((rd_T52 l0_3 x6_1).f0) ((rd_T52 l0_3 x6_1).f1) = some (r1, r2)) ∧ Aside0 (kq ≤ kj21) ∧ Aside0 (Kd.R (Kd.int .u8) 5 w' w.heap.size (fun _ => True) v5 x5_4) ∧ Aside0 (w'.heap[gb129]? = some (.cells #[(.slice A0_0 l0_0.length c0_0), (.slice A0_1 l0_1.length c0_1), .int .i64 a0_2, (.slice (some ad134) l0_3.length c0_3)] 25 (0, 0))) ∧ Aside0 (w'.heap[gb135]? = some (.cells #[.int .i64 ((rd_T52 l0_3 x6_1).f0), (.slice A134_1 ((rd_T52 l0_3 x6_1).f1).length c134_1)] 52 (0, 0))) ∧ Aside0 (Below w.heap.size w w'))
             case atStart => exact ⟨(x5_21), (0), (by first | rfl | (simp; done) | (simp [*]; done)), H', ⟨Nat.le_refl _⟩, ⟨by (with_reducible repeat (first | apply Kd.R_alloc | apply Kd.R_drewN | apply Kd.R_drew)); exact HO_5.out⟩, ⟨by (with_reducible repeat (first | refine blk_drewN ?_ _ | refine blk_drew ?_ | refine blk_alloc ?_ _)); exact BK129.out⟩, ⟨by (with_reducible repeat (first | refine blk_drewN ?_ _ | refine blk_drew ?_ | refine blk_alloc ?_ _)); exact BK135.out⟩, ⟨by repeat (first | (with_reducible first | exact HB.out | apply below_alloc | apply pw_below_drewN | apply below_drew1 | refine below_set ?_ GE129.out | refine below_set ?_ GE135.out) | exact HB.out)⟩⟩
             case round =>
              clear H'
              try clear c1
              try clear p1
              try clear q1
              try clear hx1
              try clear c2
              try clear p2
              try clear c3
              try clear c3b0
              try clear c3b1
              try clear c4
              try clear p6
              try clear c7
              try clear c7b0
              try clear c8
              try clear c8b0
              try clear c12
              try clear c13
              try clear p13
              try clear q13
              try clear hx13
              try clear c14
              try clear c14b0
              try clear p14
              try clear q14
              try clear hx14
              try clear p15
              try clear q15
              try clear hx15
              try clear c16
              try clear c16b0
              try clear c17
              try clear c17b0
              try clear c23
              try clear c24
              try clear c26
              try clear c26b0
              try clear c27
              try clear c28
              try clear c28b0
              try clear c29
              try clear c29b0
              try clear c30
              try clear c31
              try clear c33
              try clear c38
              try clear c38b0
              try clear c39
              try clear c39b0
              try clear c40
              try clear c41
              try clear c42
              try clear hcz10_0
              try clear hcz10_1
              try clear hcz10_2
              try clear hcz10_3
              try clear hcz13_0
              try clear hcz13_1
              try clear hcz34_0
              try clear hcz34_1
              try clear hcz34_2
              try clear hcz34_3
              try clear hcz35_0
              try clear hcz35_1
              try clear hcz43_0
              try clear hcz43_1
              try clear hcz43_2
              try clear hcz43_3
              try clear hcz44_0
              try clear hcz44_1
              try clear hcz5_0
              try clear hcz5_1
              try clear hcz5_2
              try clear hcz5_3
              try clear hfz10_0
              try clear hfz10_1
              try clear hfz10_2
              try clear hfz10_3
              try clear hfz13_0
              try clear hfz13_1
              try clear hfz34_0
              try clear hfz34_1
              try clear hfz34_2
              try clear hfz34_3
              try clear hfz35_0
              try clear hfz35_1
              try clear hfz43_0
              try clear hfz43_1
              try clear hfz43_2
              try clear hfz43_3
              try clear hfz44_0
              try clear hfz44_1
              try clear hfz5_0
              try clear hfz5_1
              try clear hfz5_2
              try clear hfz5_3
              try clear hx134_0
              try clear hx134_1
              try clear hx136_0
              try clear hx136_1
              try clear hx143_0
              try clear hx150_0
              try clear p1
              try clear p13
              try clear p134
              try clear p136
              try clear p14
              try clear p143
              try clear p15
              try clear p150
              try clear p2
              try clear p6
              try clear q1
              try clear q13
              try clear q134
              try clear q136
              try clear q14
              try clear q143
              try clear q15
              try clear q150
              obtain ⟨x5_4, x8_4, rfl, HA, HK4, HO_5, BK129, BK135, HB⟩ := hrel
              cases gk with
              | zero => exact absurd HA.out (by simp [dovetailref05_Text.l1])
              | succ k4 =>
               have H := HA.out
               clear HA
               simp only [dovetailref05_Text.l1] at H
               by_cases c47 : x8_4 < (((rd_T52 l0_3 x6_1).f1).length : Int)
               · rw [if_pos c47] at H
                 have c47b0 : decide (x8_4 < (((rd_T52 l0_3 x6_1).f1).length : Int)) = true := decide_eq_true c47
                 clear c47
                 by_cases c48 : x5_4.length < 140737488355328
                 · rw [if_pos c48] at H
                   have LMc48 := Aside0.mk c48
                   clear c48
                   obtain ⟨y157, hy157⟩ : ∃ y_ : List Int, y_ = (x5_4 ++ [32]) := ⟨_, rfl⟩
                   replace H : (if 0 ≤ x8_4 then ((dovetailref05_Symbol.f k4 l0_0 l0_1 a0_2 l0_3 (rd ((rd_T52 l0_3 x6_1).f1) x8_4)).bind fun t161 => (if y157.length + t161.size < 140737488355328 then (dovetailref05_Text.l1 k4 (y157 ++ bytesOf t161) x6_1 (wrap64 (x8_4 + 1)) l0_0 l0_1 a0_2 l0_3 ((rd_T52 l0_3 x6_1).f0) ((rd_T52 l0_3 x6_1).f1)) else (none))) else (none)) = some (r1, r2) := by first | (rw [hy157]; with_reducible exact H) | (have H2_ := (Option.bind_some _ _).symm.trans H; rw [hy157]; with_reducible exact H2_) | (have H2_ := (Option.bind_some _ _).symm.trans H; with_reducible exact H2_) | with_reducible exact H | (rw [hy157]; exact H) | exact H
                   have Ny157 := Aside0.mk hy157
                   clear hy157
                   by_cases c49 : 0 ≤ x8_4
                   · rw [if_pos c49] at H
                     have c49b0 : decide (0 ≤ x8_4) = true := decide_eq_true c49
                     clear c49
                     replace H := Option.bind_eq_some_iff.mp H
                     obtain ⟨t161, A500, H⟩ := H
                     replace H : (if y157.length + t161.size < 140737488355328 then (dovetailref05_Text.l1 k4 (y157 ++ bytesOf t161) x6_1 (wrap64 (x8_4 + 1)) l0_0 l0_1 a0_2 l0_3 ((rd_T52 l0_3 x6_1).f0) ((rd_T52 l0_3 x6_1).f1)) else (none)) = some (r1, r2) := H
                     have A50 := Aside0.mk A500
                     clear A500
                     by_cases c51 : y157.length + t161.size < 140737488355328
                     · rw [if_pos c51] at H
                       have LMc51 := Aside0.mk c51
                       clear c51
                       obtain ⟨y162, hy162⟩ : ∃ y_ : List Int, y_ = (y157 ++ bytesOf t161) := ⟨_, rfl⟩
                       replace H : (dovetailref05_Text.l1 k4 y162 x6_1 (wrap64 (x8_4 + 1)) l0_0 l0_1 a0_2 l0_3 ((rd_T52 l0_3 x6_1).f0) ((rd_T52 l0_3 x6_1).f1)) = some (r1, r2) := by first | (rw [hy162]; with_reducible exact H) | (have H2_ := (Option.bind_some _ _).symm.trans H; rw [hy162]; with_reducible exact H2_) | (have H2_ := (Option.bind_some _ _).symm.trans H; with_reducible exact H2_) | with_reducible exact H | (rw [hy162]; exact H) | exact H
                       have Ny162 := Aside0.mk hy162
                       clear hy162
                       have H' := Aside0.mk H
                       clear H
                       have hnb52 := NB135_129.out
                       have hnc52 := NB129_135.out
                       have hcz53_0 : wr.cell? ⟨gb135, 0, none⟩ = some (.int .i64 ((rd_T52 l0_3 x6_1).f0)) := (blk_cell BK135.out 0).trans rfl
                       have hcz53_1 : wr.cell? ⟨gb135, 1, none⟩ = some (.slice A134_1 ((rd_T52 l0_3 x6_1).f1).length c134_1) := (blk_cell BK135.out 1).trans rfl
                       have hfz53_0 := blk_frozen BK135.out 0
                       have hfz53_1 := blk_frozen BK135.out 1
                       try go_wp2_with (first | ((with_reducible refine gate_builtin (b := .append) (xs := #[.tmp 64, .tmp 65]) rfl ?_); at_builtin; refine Kd.R_append (Kd.int .u8) (w0 := w) w.heap.size rfl (.tmp 64) (.tmp 65) 101 5 (.int .u8 0) 1 rfl Tryd.underlying101 info5 rfl (by decide) (by omega) u5 x5_4 32 [.int .u8 32] (fun _ => True) (fun _ => False) rfl rfl ?aP (fun _ hk => hk.elim) ?aF ?aO ?aB ?aS ?aL ?_; (case aP => exact rfl); (case aB => exact (by repeat (first | (with_reducible first | exact HB.out | apply below_alloc | apply pw_below_drewN | apply below_drew1 | refine below_set ?_ GE129.out | refine below_set ?_ GE135.out) | exact HB.out))); (case aF => exact (fun _ _ => trivial)); (case aO => exact (by (with_reducible repeat (first | apply Kd.R_alloc | apply Kd.R_drewN | apply Kd.R_drew)); exact HO_5.out)); (case aS => exact (below_size (by repeat (first | (with_reducible first | exact HB.out | apply below_alloc | apply pw_below_drewN | apply below_drew1 | refine below_set ?_ GE129.out | refine below_set ?_ GE135.out) | exact HB.out)))); (case aL => have := LMc48.out; omega); intro v158 w54 ho hb hg hat; rw [← Ny157.out] at ho; have n0_ := Aside0.mk (blk_grown (g := gb129) (o := .cells #[.slice A0_0 l0_0.length c0_0, .slice A0_1 l0_1.length c0_1, .int .i64 a0_2, .slice (some ad134) l0_3.length c0_3] 25 (0, 0)) (by (with_reducible repeat (first | refine blk_drewN ?_ _ | refine blk_drew ?_ | refine blk_alloc ?_ _)); exact BK129.out) hg (Kd.R_ne HO_5.out BK129.out (by decide))); have n1_ := Aside0.mk (blk_grown (g := gb135) (o := .cells #[.int .i64 ((rd_T52 l0_3 x6_1).f0), .slice A134_1 ((rd_T52 l0_3 x6_1).f1).length c134_1] 52 (0, 0)) (by (with_reducible repeat (first | refine blk_drewN ?_ _ | refine blk_drew ?_ | refine blk_alloc ?_ _)); exact BK135.out) hg (Kd.R_ne HO_5.out BK135.out (by decide))); have n2_ := Aside0.mk (hb); have n3_ := Aside0.mk (ho); clear BK129; clear BK135; clear HB; clear HO_5; have BK129 := n0_; have BK135 := n1_; have HB := n2_; have HO159 := n3_; clear n0_ n1_ n2_ n3_; clear ho hb hg hat))
                       have n0_ := Aside0.mk (Kd.R_drew HO159.out)
                       have n1_ := Aside0.mk (blk_drew BK129.out)
                       have n2_ := Aside0.mk (blk_drew BK135.out)
                       have n3_ := Aside0.mk (below_drew1 HB.out)
                       clear HO159
                       clear BK129
                       clear BK135
                       clear HB
                       have HO159 := n0_
                       have BK129 := n1_
                       have BK135 := n2_
                       have HB := n3_
                       clear n0_ n1_ n2_ n3_
                       have p160 : 0 ≤ (x8_4 : Int) := of_decide_eq_true (by first | (with_reducible assumption) | assumption)
                       have q160 : x8_4 < (((rd_T52 l0_3 x6_1).f1).length : Int) := of_decide_eq_true (by first | (with_reducible assumption) | assumption)
                       obtain ⟨ad160, e160, hx160_0⟩ := Kd.at_int HR134_1.out x8_4 p160 q160
                       have hw160_0 := hx160_0
                       cases e160
                       replace hx160_0 := (HB.out.cell (World.block_lt_of_cell? w _ hx160_0)).trans hx160_0
                       replace p160 := eq_true p160
                       replace q160 := eq_true q160
                       refine start_ (n := 10) (S := fun w' => w'.cell? ⟨gb129, 0, none⟩ = some (.slice A0_0 l0_0.length c0_0) ∧ w'.cell? ⟨gb129, 1, none⟩ = some (.slice A0_1 l0_1.length c0_1) ∧ w'.cell? ⟨gb129, 2, none⟩ = some (.int .i64 a0_2) ∧ w'.cell? ⟨gb129, 3, none⟩ = some (.slice (some ad134) l0_3.length c0_3) ∧ w'.cell? ⟨gb135, 0, none⟩ = some (.int .i64 ((rd_T52 l0_3 x6_1).f0)) ∧ w'.cell? ⟨gb135, 1, none⟩ = some (.slice (some ad160) ((rd_T52 l0_3 x6_1).f1).length c134_1) ∧ w'.cell? (ad160.add (x8_4).toNat) = some (.int .i64 (rd ((rd_T52 l0_3 x6_1).f1) x8_4))) (ds := []) #[false, false, false, false, false, false, false, false, false, false] (by kernel_rfl) rfl rfl ⟨(blk_cell BK129.out 0).trans rfl, (blk_cell BK129.out 1).trans rfl, (blk_cell BK129.out 2).trans rfl, (blk_cell BK129.out 3).trans rfl, (blk_cell BK135.out 0).trans rfl, (blk_cell BK135.out 1).trans rfl, ((HB.out.cell (World.block_lt_of_cell? w _ hw160_0)).trans hw160_0)⟩ (fun hHeld => ?_); refine with_tabW dovetailref05_Text.tab19 dovetailref05_Text.bits19 (fun HT_ HW_ => ?_)
                       generalize w54.drew = w55 at HO159 BK129 BK135 HB hx160_0 hHeld ⊢
                       refine pure_ (i := 0) (N := some 67) (v := ?_) (a' := ?_) #[true, false, false, false, false, false, false, false, false, false] rfl rfl (any_of HT_.out (by kernel_rfl)) (fun _ _ _ h => h) (Or.inl ⟨by rfl, ?_⟩) ?_ ?_
                       rotate_left
                       · intro w'
                         go_simp
                         with_reducible rfl
                       rotate_left
                       · simp only [Act.put, List.setIfInBounds_toArray, List.set_cons_zero, List.set_cons_succ, i64_w, i32_w]
                         rfl
                       refine pure_ (i := 2) (N := some 69) (v := ?_) (a' := ?_) #[true, false, true, false, false, false, false, false, false, false] rfl rfl (any_of HT_.out (by kernel_rfl)) (fun _ _ _ h => h) (Or.inl ⟨by rfl, ?_⟩) ?_ ?_
                       rotate_left
                       · intro w'
                         go_simp
                         with_reducible rfl
                       rotate_left
                       · simp only [Act.put, List.setIfInBounds_toArray, List.set_cons_zero, List.set_cons_succ, i64_w, i32_w]
                         rfl
                       refine pure_ (i := 4) (N := some 71) (v := ?_) (a' := ?_) #[true, false, true, false, true, false, false, false, false, false] rfl rfl (any_of HT_.out (by kernel_rfl)) (fun _ _ _ h => h) (Or.inl ⟨by rfl, ?_⟩) ?_ ?_
                       rotate_left
                       · intro w'
                         go_simp
                         with_reducible rfl
                       rotate_left
                       · simp only [Act.put, List.setIfInBounds_toArray, List.set_cons_zero, List.set_cons_succ, i64_w, i32_w]
                         rfl
                       refine take_ (i := 1) (N := some 68) (v := ?_) (a' := ?_) #[true, true, true, false, true, false, false, false, false, false] rfl rfl (take_ofW HT_.out HW_.out (by kernel_rfl)) (fun _ _ _ h => h) (Or.inl ⟨by rfl, ?_⟩) hHeld ?_ ?_
                       rotate_left
                       · rintro w' ⟨s0, s1, s2, s3, s4, s5, s6⟩
                         go_simp
                         with_reducible rfl
                       rotate_left
                       · simp only [Act.put, List.setIfInBounds_toArray, List.set_cons_zero, List.set_cons_succ, i64_w, i32_w]
                         rfl
                       refine take_ (i := 3) (N := some 70) (v := ?_) (a' := ?_) #[true, true, true, true, true, false, false, false, false, false] rfl rfl (take_ofW HT_.out HW_.out (by kernel_rfl)) (fun _ _ _ h => h) (Or.inl ⟨by rfl, ?_⟩) hHeld ?_ ?_
                       rotate_left
                       · rintro w' ⟨s0, s1, s2, s3, s4, s5, s6⟩
                         go_simp
                         with_reducible rfl
                       rotate_left
                       · simp only [Act.put, List.setIfInBounds_toArray, List.set_cons_zero, List.set_cons_succ, i64_w, i32_w]
                         rfl
                       refine pure_ (i := 5) (N := some 72) (v := ?_) (a' := ?_) #[true, true, true, true, true, true, false, false, false, false] rfl rfl (any_of HT_.out (by kernel_rfl)) (fun _ _ _ h => h) (Or.inl ⟨by rfl, ?_⟩) ?_ ?_
                       rotate_left
                       · intro w'
                         go_simp
                         with_reducible rfl
                       rotate_left
                       · simp only [Act.put, List.setIfInBounds_toArray, List.set_cons_zero, List.set_cons_succ, i64_w, i32_w]
                         rfl
                       refine take_ (i := 6) (N := some 73) (v := ?_) (a' := ?_) #[true, true, true, true, true, true, true, false, false, false] rfl rfl (take_ofW HT_.out HW_.out (by kernel_rfl)) (fun _ _ _ h => h) (Or.inl ⟨by rfl, ?_⟩) hHeld ?_ ?_
                       rotate_left
                       · rintro w' ⟨s0, s1, s2, s3, s4, s5, s6⟩
                         go_simp
                         with_reducible rfl
                       rotate_left
                       · simp only [Act.put, List.setIfInBounds_toArray, List.set_cons_zero, List.set_cons_succ, i64_w, i32_w]
                         rfl
                       refine one_ (i := 7) (N := some 74) #[true, true, true, true, true, true, true, true, false, false] rfl rfl (one_of HT_.out (by kernel_rfl)) (by decide) (fun K hK => ?_)
                       refine goes_ Tryd.func20 (by kernel_rfl) rfl #[.agg #[.slice A0_0 l0_0.length c0_0, .slice A0_1 l0_1.length c0_1, .int .i64 a0_2, .slice (some ad134) l0_3.length c0_3], .int .i64 (rd ((rd_T52 l0_3 x6_1).f1) x8_4)] (by rfl) rfl rfl (by (try simp only [List.map_toArray, List.map_cons, List.map_nil]); first | done | rfl | (simp only [List.length_drop, List.length_take]; rfl)) ?_
                       with_reducible refine (dovetailref05_Symbol.calls k4 _ _ l0_0 _ _ l0_1 a0_2 _ _ l0_3 (rd ((rd_T52 l0_3 x6_1).f1) x8_4) t161 _ ?side1 ?side2 ?side3 ?side4 ?side5 ?side6 A50.out).mono ?_
                       (case side1 => repeat (first | exact (Kd.C_below HR0_0.out HB.out) | (with_reducible refine Kd.C_alloc ?_ _) | (with_reducible refine Kd.C_drewN ?_ _) | (with_reducible refine Kd.C_drew ?_)))
                       (case side2 => exact HC0_0.out)
                       (case side3 => repeat (first | exact (Kd.C_below HR0_1.out HB.out) | (with_reducible refine Kd.C_alloc ?_ _) | (with_reducible refine Kd.C_drewN ?_ _) | (with_reducible refine Kd.C_drew ?_)))
                       (case side4 => exact HC0_1.out)
                       (case side5 => repeat (first | exact (Kd.C_below HR0_3.out HB.out) | (with_reducible refine Kd.C_alloc ?_ _) | (with_reducible refine Kd.C_drewN ?_ _) | (with_reducible refine Kd.C_drew ?_)))
                       (case side6 => exact HC0_3.out)
                       rintro e w56 ⟨rfl, hb⟩
                       refine ⟨_, rfl, ?_⟩
                       have n0_ := Aside0.mk (Kd.R_below (by (with_reducible repeat (first | apply Kd.R_alloc | apply Kd.R_drewN | apply Kd.R_drew)); exact HO159.out) hb)
                       have n1_ := Aside0.mk (blk_below (g := gb129) (o := .cells #[.slice A0_0 l0_0.length c0_0, .slice A0_1 l0_1.length c0_1, .int .i64 a0_2, .slice (some ad134) l0_3.length c0_3] 25 (0, 0)) (by (with_reducible repeat (first | refine blk_drewN ?_ _ | refine blk_drew ?_ | refine blk_alloc ?_ _)); exact BK129.out) hb)
                       have n2_ := Aside0.mk (blk_below (g := gb135) (o := .cells #[.int .i64 ((rd_T52 l0_3 x6_1).f0), .slice (some ad160) ((rd_T52 l0_3 x6_1).f1).length c134_1] 52 (0, 0)) (by (with_reducible repeat (first | refine blk_drewN ?_ _ | refine blk_drew ?_ | refine blk_alloc ?_ _)); exact BK135.out) hb)
                       have n3_ := Aside0.mk (below_step (by repeat (first | (with_reducible first | exact HB.out | apply below_alloc | apply pw_below_drewN | apply below_drew1 | refine below_set ?_ GE129.out | refine below_set ?_ GE135.out) | exact HB.out)) hb)
                       clear HO159
                       clear BK129
                       clear BK135
                       clear HB
                       have HO159 := n0_
                       have BK129 := n1_
                       have BK135 := n2_
                       have HB := n3_
                       clear n0_ n1_ n2_ n3_
                       (try clear hb)
                       (try clear hb2)
                       (try clear hk)
                       (try clear hi)
                       refine hK.out _ _ ⟨(blk_cell BK129.out 0).trans rfl, (blk_cell BK129.out 1).trans rfl, (blk_cell BK129.out 2).trans rfl, (blk_cell BK129.out 3).trans rfl, (blk_cell BK135.out 0).trans rfl, (blk_cell BK135.out 1).trans rfl, ((HB.out.cell (World.block_lt_of_cell? w _ hw160_0)).trans hw160_0)⟩ (fun hHeld => ?_)
                       clear hK K
                       refine norm_ (a' := ?_) ?_ ?_
                       rotate_left
                       · show Act.put _ (some 74) _ = _
                         simp only [Act.put, List.setIfInBounds_toArray, List.set_cons_zero, List.set_cons_succ, i64_w, i32_w]
                         rfl
                       refine one_ (i := 8) (N := some 75) #[true, true, true, true, true, true, true, true, true, false] rfl rfl (one_of HT_.out (by kernel_rfl)) (by decide) (fun K hK => ?_)
                       refine print_append_str_step (w0 := w) w.heap.size (by rfl) (.tmp 67) _ 101 9 5 rfl Tryd.underlying101 Tryd.underlying9 info5 v158 y157 t161 rfl rfl ?aO ?aB ?aS ?aL ?_
                       (case aB => exact (by repeat (first | (with_reducible first | exact HB.out | apply below_alloc | apply pw_below_drewN | apply below_drew1 | refine below_set ?_ GE129.out | refine below_set ?_ GE135.out) | exact HB.out)))
                       (case aO => exact (Kd.own_of_R (by (with_reducible repeat (first | apply Kd.R_alloc | apply Kd.R_drewN | apply Kd.R_drew)); exact HO159.out)))
                       (case aS => exact (below_size (by repeat (first | (with_reducible first | exact HB.out | apply below_alloc | apply pw_below_drewN | apply below_drew1 | refine below_set ?_ GE129.out | refine below_set ?_ GE135.out) | exact HB.out))))
                       (case aL => have := LMc51.out; omega)
                       intro v163 w57 ho0 hb hg
                       have ho := Kd.R_of_own (h1 := fun _ => rfl) (ok := fun _ => True) ho0 (fun _ _ => trivial)
                       clear ho0
                       have hat := True.intro
                       rw [← Ny162.out] at ho
                       change Kd.R (Kd.int .u8) 5 w57 w.heap.size (fun _ => True) v163 y162 at ho
                       have n0_ := Aside0.mk (blk_grown (g := gb129) (o := .cells #[.slice A0_0 l0_0.length c0_0, .slice A0_1 l0_1.length c0_1, .int .i64 a0_2, .slice (some ad134) l0_3.length c0_3] 25 (0, 0)) (by (with_reducible repeat (first | refine blk_drewN ?_ _ | refine blk_drew ?_ | refine blk_alloc ?_ _)); exact BK129.out) hg (Kd.R_ne HO159.out BK129.out (by decide)))
                       have n1_ := Aside0.mk (blk_grown (g := gb135) (o := .cells #[.int .i64 ((rd_T52 l0_3 x6_1).f0), .slice (some ad160) ((rd_T52 l0_3 x6_1).f1).length c134_1] 52 (0, 0)) (by (with_reducible repeat (first | refine blk_drewN ?_ _ | refine blk_drew ?_ | refine blk_alloc ?_ _)); exact BK135.out) hg (Kd.R_ne HO159.out BK135.out (by decide)))
                       have n2_ := Aside0.mk (hb)
                       have n3_ := Aside0.mk (ho)
                       clear BK129
                       clear BK135
                       clear HB
                       clear HO159
                       have BK129 := n0_
                       have BK135 := n1_
                       have HB := n2_
                       have HO164 := n3_
                       clear n0_ n1_ n2_ n3_
                       clear ho hb hg hat
                       refine hK.out _ _ ⟨(blk_cell BK129.out 0).trans rfl, (blk_cell BK129.out 1).trans rfl, (blk_cell BK129.out 2).trans rfl, (blk_cell BK129.out 3).trans rfl, (blk_cell BK135.out 0).trans rfl, (blk_cell BK135.out 1).trans rfl, ((HB.out.cell (World.block_lt_of_cell? w _ hw160_0)).trans hw160_0)⟩ (fun hHeld => ?_)
                       clear hK K
                       refine norm_ (a' := ?_) ?_ ?_
                       rotate_left
                       · show Act.put _ (some 75) _ = _
                         simp only [Act.put, List.setIfInBounds_toArray, List.set_cons_zero, List.set_cons_succ, i64_w, i32_w]
                         rfl
                       refine pure_ (i := 9) (N := some 5) (v := ?_) (a' := ?_) #[true, true, true, true, true, true, true, true, true, true] rfl rfl (any_of HT_.out (by kernel_rfl)) (fun _ _ _ h => h) (Or.inl ⟨by rfl, ?_⟩) ?_ ?_
                       rotate_left
                       · intro w'
                         go_simp
                         with_reducible rfl
                       rotate_left
                       · simp only [Act.put, List.setIfInBounds_toArray, List.set_cons_zero, List.set_cons_succ, i64_w, i32_w]
                         rfl
                       refine done_ (done_of HT_.out (by kernel_rfl)) ?_
                       try go_wp2
                       go_roundg k4
                       case measure => have := HK1.out; have := HJ8.out; have := HJ21.out; have := HK4.out; omega
                       case rel => exact ⟨(y162), (wrap64 (x8_4 + 1)), (by first | rfl | (simp; done) | (simp [*]; done)), H', ⟨by have := HK1.out; have := HJ8.out; have := HJ21.out; have := HK4.out; omega⟩, ⟨by (with_reducible repeat (first | apply Kd.R_alloc | apply Kd.R_drewN | apply Kd.R_drew)); exact HO164.out⟩, ⟨by (with_reducible repeat (first | refine blk_drewN ?_ _ | refine blk_drew ?_ | refine blk_alloc ?_ _)); exact BK129.out⟩, ⟨by (with_reducible repeat (first | refine blk_drewN ?_ _ | refine blk_drew ?_ | refine blk_alloc ?_ _)); exact BK135.out⟩, ⟨by repeat (first | (with_reducible first | exact HB.out | apply below_alloc | apply pw_below_drewN | apply below_drew1 | refine below_set ?_ GE129.out | refine below_set ?_ GE135.out) | exact HB.out)⟩⟩
                     · rw [if_neg c51] at H
                       exact absurd H (by simp)
                   · rw [if_neg c49] at H
                     exact absurd H (by simp)
                 · rw [if_neg c48] at H
                   exact absurd H (by simp)
               · rw [if_neg c47] at H
                 have c47b0 : decide (x8_4 < (((rd_T52 l0_3 x6_1).f1).length : Int)) = false := decide_eq_false c47
                 clear c47
                 have H' := Aside0.mk H
                 clear H
                 have hnb58 := NB135_129.out
                 have hnc58 := NB129_135.out
                 have hcz59_0 : wr.cell? ⟨gb135, 0, none⟩ = some (.int .i64 ((rd_T52 l0_3 x6_1).f0)) := (blk_cell BK135.out 0).trans rfl
                 have hcz59_1 : wr.cell? ⟨gb135, 1, none⟩ = some (.slice A134_1 ((rd_T52 l0_3 x6_1).f1).length c134_1) := (blk_cell BK135.out 1).trans rfl
                 have hfz59_0 := blk_frozen BK135.out 0
                 have hfz59_1 := blk_frozen BK135.out 1
                 go_wp2
                 go_roundg k4
                 case measure => have := HK1.out; have := HJ8.out; have := HJ21.out; have := HK4.out; omega
                 case rel => exact ⟨(x5_4), (wrap64 (x6_1 + 1)), (by first | rfl | (simp; done) | (simp [*]; done)), H', ⟨by have := HK1.out; have := HJ8.out; have := HJ21.out; have := HK4.out; omega⟩, ⟨by (with_reducible repeat (first | apply Kd.R_alloc | apply Kd.R_drewN | apply Kd.R_drew)); exact HO_5.out⟩, ⟨by (with_reducible repeat (first | refine blk_drewN ?_ _ | refine blk_drew ?_ | refine blk_alloc ?_ _)); exact BK129.out⟩, ⟨by repeat (first | (with_reducible first | exact HB.out | apply below_alloc | apply pw_below_drewN | apply below_drew1 | refine below_set ?_ GE129.out | refine below_set ?_ GE135.out) | exact HB.out)⟩⟩
       · rw [if_neg c8] at H
         exact absurd H (by simp)
     · rw [if_neg c7] at H
       have c7b0 : decide (x6_1 < (l0_3.length : Int)) = false := decide_eq_false c7
       clear c7
       by_cases c60 : x5_1.length < 140737488355328
       · rw [if_pos c60] at H
         have LMc60 := Aside0.mk c60
         clear c60
         obtain ⟨y131, hy131⟩ : ∃ y_ : List Int, y_ = (x5_1 ++ [10]) := ⟨_, rfl⟩
         replace H : (if (y131.length : Int) > 1048576 then (some ((⟨#[]⟩ : ByteArray), 12)) else (some (strOfNums y131, 0))) = some (r1, r2) := by first | (rw [hy131]; with_reducible exact H) | (have H2_ := (Option.bind_some _ _).symm.trans H; rw [hy131]; with_reducible exact H2_) | (have H2_ := (Option.bind_some _ _).symm.trans H; with_reducible exact H2_) | with_reducible exact H | (rw [hy131]; exact H) | exact H
         have Ny131 := Aside0.mk hy131
         clear hy131
         by_cases c61 : (y131.length : Int) > 1048576
         · rw [if_pos c61] at H
           have c61b0 : decide (1048576 < (y131.length : Int)) = true := decide_eq_true c61
           have c61b1 : decide (1048576 < y131.length) = true := decide_eq_true (by omega)
           clear c61
           simp only [Option.some.injEq, Prod.mk.injEq] at H
           obtain ⟨rfl, rfl⟩ := H
           have hcz62_0 : wr.cell? ⟨gb129, 0, none⟩ = some (.slice A0_0 l0_0.length c0_0) := (blk_cell BK129.out 0).trans rfl
           have hcz62_1 : wr.cell? ⟨gb129, 1, none⟩ = some (.slice A0_1 l0_1.length c0_1) := (blk_cell BK129.out 1).trans rfl
           have hcz62_2 : wr.cell? ⟨gb129, 2, none⟩ = some (.int .i64 a0_2) := (blk_cell BK129.out 2).trans rfl
           have hcz62_3 : wr.cell? ⟨gb129, 3, none⟩ = some (.slice A0_3 l0_3.length c0_3) := (blk_cell BK129.out 3).trans rfl
           have hfz62_0 := blk_frozen BK129.out 0
           have hfz62_1 := blk_frozen BK129.out 1
           have hfz62_2 := blk_frozen BK129.out 2
           have hfz62_3 := blk_frozen BK129.out 3
           go_wp2_with (first | ((with_reducible refine gate_builtin (b := .append) (xs := #[.tmp 76, .tmp 77]) rfl ?_); at_builtin; refine Kd.R_append (Kd.int .u8) (w0 := w) w.heap.size rfl (.tmp 76) (.tmp 77) 101 5 (.int .u8 0) 1 rfl Tryd.underlying101 info5 rfl (by decide) (by omega) u5 x5_1 10 [.int .u8 10] (fun _ => True) (fun _ => False) rfl rfl ?aP (fun _ hk => hk.elim) ?aF ?aO ?aB ?aS ?aL ?_; (case aP => exact rfl); (case aB => exact (by repeat (first | (with_reducible first | exact HB.out | apply below_alloc | apply pw_below_drewN | apply below_drew1 | refine below_set ?_ GE129.out) | exact HB.out))); (case aF => exact (fun _ _ => trivial)); (case aO => exact (by (with_reducible repeat (first | apply Kd.R_alloc | apply Kd.R_drewN | apply Kd.R_drew)); exact HO_5.out)); (case aS => exact (below_size (by repeat (first | (with_reducible first | exact HB.out | apply below_alloc | apply pw_below_drewN | apply below_drew1 | refine below_set ?_ GE129.out) | exact HB.out)))); (case aL => have := LMc60.out; omega); intro v132 w63 ho hb hg hat; rw [← Ny131.out] at ho; have n0_ := Aside0.mk (blk_grown (g := gb129) (o := .cells #[.slice A0_0 l0_0.length c0_0, .slice A0_1 l0_1.length c0_1, .int .i64 a0_2, .slice A0_3 l0_3.length c0_3] 25 (0, 0)) (by (with_reducible repeat (first | refine blk_drewN ?_ _ | refine blk_drew ?_ | refine blk_alloc ?_ _)); exact BK129.out) hg (Kd.R_ne HO_5.out BK129.out (by decide))); have n1_ := Aside0.mk (hb); have n2_ := Aside0.mk (ho); clear BK129; clear HB; clear HO_5; have BK129 := n0_; have HB := n1_; have HO133 := n2_; clear n0_ n1_ n2_; clear ho hb hg hat; obtain ⟨Ao64, co64, eo64⟩ := Kd.R_slice HO133.out; subst eo64))
           go_ret2
           exact ⟨by first | rfl | (simp [errW_none, errW_some] <;> rfl) | (simp [*, errW_none, errW_some] <;> rfl), by repeat (first | (with_reducible first | exact HB.out | apply below_alloc | apply pw_below_drewN | apply below_drew1 | refine below_set ?_ GE129.out) | exact HB.out)⟩
         · rw [if_neg c61] at H
           have c61b0 : decide (1048576 < (y131.length : Int)) = false := decide_eq_false c61
           have c61b1 : decide (1048576 < y131.length) = false := decide_eq_false (by omega)
           clear c61
           simp only [Option.some.injEq, Prod.mk.injEq] at H
           obtain ⟨rfl, rfl⟩ := H
           have hcz65_0 : wr.cell? ⟨gb129, 0, none⟩ = some (.slice A0_0 l0_0.length c0_0) := (blk_cell BK129.out 0).trans rfl
           have hcz65_1 : wr.cell? ⟨gb129, 1, none⟩ = some (.slice A0_1 l0_1.length c0_1) := (blk_cell BK129.out 1).trans rfl
           have hcz65_2 : wr.cell? ⟨gb129, 2, none⟩ = some (.int .i64 a0_2) := (blk_cell BK129.out 2).trans rfl
           have hcz65_3 : wr.cell? ⟨gb129, 3, none⟩ = some (.slice A0_3 l0_3.length c0_3) := (blk_cell BK129.out 3).trans rfl
           have hfz65_0 := blk_frozen BK129.out 0
           have hfz65_1 := blk_frozen BK129.out 1
           have hfz65_2 := blk_frozen BK129.out 2
           have hfz65_3 := blk_frozen BK129.out 3
           go_wp2_with (first | ((with_reducible refine gate_builtin (b := .append) (xs := #[.tmp 76, .tmp 77]) rfl ?_); at_builtin; refine Kd.R_append (Kd.int .u8) (w0 := w) w.heap.size rfl (.tmp 76) (.tmp 77) 101 5 (.int .u8 0) 1 rfl Tryd.underlying101 info5 rfl (by decide) (by omega) u5 x5_1 10 [.int .u8 10] (fun _ => True) (fun _ => False) rfl rfl ?aP (fun _ hk => hk.elim) ?aF ?aO ?aB ?aS ?aL ?_; (case aP => exact rfl); (case aB => exact (by repeat (first | (with_reducible first | exact HB.out | apply below_alloc | apply pw_below_drewN | apply below_drew1 | refine below_set ?_ GE129.out) | exact HB.out))); (case aF => exact (fun _ _ => trivial)); (case aO => exact (by (with_reducible repeat (first | apply Kd.R_alloc | apply Kd.R_drewN | apply Kd.R_drew)); exact HO_5.out)); (case aS => exact (below_size (by repeat (first | (with_reducible first | exact HB.out | apply below_alloc | apply pw_below_drewN | apply below_drew1 | refine below_set ?_ GE129.out) | exact HB.out)))); (case aL => have := LMc60.out; omega); intro v132 w66 ho hb hg hat; rw [← Ny131.out] at ho; have n0_ := Aside0.mk (blk_grown (g := gb129) (o := .cells #[.slice A0_0 l0_0.length c0_0, .slice A0_1 l0_1.length c0_1, .int .i64 a0_2, .slice A0_3 l0_3.length c0_3] 25 (0, 0)) (by (with_reducible repeat (first | refine blk_drewN ?_ _ | refine blk_drew ?_ | refine blk_alloc ?_ _)); exact BK129.out) hg (Kd.R_ne HO_5.out BK129.out (by decide))); have n1_ := Aside0.mk (hb); have n2_ := Aside0.mk (ho); clear BK129; clear HB; clear HO_5; have BK129 := n0_; have HB := n1_; have HO133 := n2_; clear n0_ n1_ n2_; clear ho hb hg hat; obtain ⟨Ao67, co67, eo67⟩ := Kd.R_slice HO133.out; subst eo67; have hcv68 := own_string (P := Tryd.prog) Tryd.underlying101 Tryd.underlying5 Tryd.underlying9 (Kd.own_of_R HO133.out)))
           go_ret2
           exact ⟨by first | rfl | (simp [errW_none, errW_some] <;> rfl) | (simp [*, errW_none, errW_some] <;> rfl), by repeat (first | (with_reducible first | exact HB.out | apply below_alloc | apply pw_below_drewN | apply below_drew1 | refine below_set ?_ GE129.out) | exact HB.out)⟩
       · rw [if_neg c60] at H
         exact absurd H (by simp)
 · rw [if_neg c3] at H
   have c3b0 : (t130 == 0) = false := beq_eq_false_iff_ne.mpr c3
   have c3b1 : (t130 != 0) = true := bne_iff_ne.mpr c3
   simp only [Option.some.injEq, Prod.mk.injEq] at H
   obtain ⟨rfl, rfl⟩ := H
   go_enter Tryd.func24, Tryd.ntmps24
   go_wp2_with (first | ((with_reducible refine gate_dst (N := 1) rfl ?_); refine box_event ?hg (N := 1) ?hd (cs := #[.slice A0_0 l0_0.length c0_0, .slice A0_1 l0_1.length c0_1, .int .i64 a0_2, .slice A0_3 l0_3.length c0_3]) (t := 25) ?hr ?_; (case hd => rfl); (case hg => rfl); (case hr => first | (go_simp; done) | (go_simp; rfl)); intro gb129 hg w69 hbox hb; have n0_ := Aside0.mk (below_step (by repeat (first | (with_reducible first | exact HB.out | apply below_alloc | apply pw_below_drewN | apply below_drew1) | exact HB.out)) hb); have n1_ := Aside0.mk (hbox); have n2_ := Aside0.mk ((by rw [hg]; exact (below_size (by repeat (first | (with_reducible first | exact HB.out | apply below_alloc | apply pw_below_drewN | apply below_drew1) | exact HB.out))) : w.heap.size ≤ gb129)); have n3_ := Aside0.mk ((by rw [hg]; exact (below_size (by repeat (first | (with_reducible first | exact HB.out | apply below_alloc | apply pw_below_drewN | apply below_drew1) | exact HB.out))) : w.heap.size ≤ gb129)); clear HB; have HB := n0_; have BK129 := n1_; have GW129 := n2_; have GE129 := n3_; clear n0_ n1_ n2_ n3_; clear hb hbox hg; have hcz70_0 : w69.cell? ⟨gb129, 0, none⟩ = some (.slice A0_0 l0_0.length c0_0) := (blk_cell BK129.out 0).trans rfl; have hcz70_1 : w69.cell? ⟨gb129, 1, none⟩ = some (.slice A0_1 l0_1.length c0_1) := (blk_cell BK129.out 1).trans rfl; have hcz70_2 : w69.cell? ⟨gb129, 2, none⟩ = some (.int .i64 a0_2) := (blk_cell BK129.out 2).trans rfl; have hcz70_3 : w69.cell? ⟨gb129, 3, none⟩ = some (.slice A0_3 l0_3.length c0_3) := (blk_cell BK129.out 3).trans rfl; have hfz70_0 := blk_frozen BK129.out 0; have hfz70_1 := blk_frozen BK129.out 1; have hfz70_2 := blk_frozen BK129.out 2; have hfz70_3 := blk_frozen BK129.out 3) | ((with_reducible refine gate_callee (f := 26) rfl ?_); refine goesL_ (some 10) rfl rfl Tryd.func26 (by kernel_rfl) rfl #[.agg #[.slice A0_0 l0_0.length c0_0, .slice A0_1 l0_1.length c0_1, .int .i64 a0_2, .slice A0_3 l0_3.length c0_3]] rfl (by (try simp only [List.map_toArray, List.map_cons, List.map_nil]); first | done | rfl | (simp only [List.length_drop, List.length_take]; rfl)) ?_; (with_reducible refine (dovetailref05_Readable.calls k _ _ l0_0 _ _ l0_1 a0_2 _ _ l0_3 t130 _ ?side1 ?side2 ?side3 ?side4 ?side5 ?side6 A2.out).mono ?_); (case side1 => repeat (first | exact (Kd.C_below HR0_0.out HB.out) | (with_reducible refine Kd.C_alloc ?_ _) | (with_reducible refine Kd.C_drewN ?_ _) | (with_reducible refine Kd.C_drew ?_))); (case side2 => exact HC0_0.out); (case side3 => repeat (first | exact (Kd.C_below HR0_1.out HB.out) | (with_reducible refine Kd.C_alloc ?_ _) | (with_reducible refine Kd.C_drewN ?_ _) | (with_reducible refine Kd.C_drew ?_))); (case side4 => exact HC0_1.out); (case side5 => repeat (first | exact (Kd.C_below HR0_3.out HB.out) | (with_reducible refine Kd.C_alloc ?_ _) | (with_reducible refine Kd.C_drewN ?_ _) | (with_reducible refine Kd.C_drew ?_))); (case side6 => exact HC0_3.out); rintro e w71 ⟨rfl, hb⟩; refine ⟨_, rfl, ?_⟩; have n0_ := Aside0.mk (blk_below (g := gb129) (o := .cells #[.slice A0_0 l0_0.length c0_0, .slice A0_1 l0_1.length c0_1, .int .i64 a0_2, .slice A0_3 l0_3.length c0_3] 25 (0, 0)) (by (with_reducible repeat (first | refine blk_drewN ?_ _ | refine blk_drew ?_ | refine blk_alloc ?_ _)); exact BK129.out) hb); have n1_ := Aside0.mk (below_step (by repeat (first | (with_reducible first | exact HB.out | apply below_alloc | apply pw_below_drewN | apply below_drew1 | refine below_set ?_ GE129.out) | exact HB.out)) hb); clear BK129; clear HB; have BK129 := n0_; have HB := n1_; clear n0_ n1_; (try clear hb); (try clear hb2); (try clear hk); (try clear hi)))
   go_ret2
   exact ⟨by first | rfl | (simp [errW_none, errW_some] <;> rfl) | (simp [*, errW_none, errW_some] <;> rfl), by repeat (first | (with_reducible first | exact HB.out | apply below_alloc | apply pw_below_drewN | apply below_drew1 | refine below_set ?_ GE129.out) | exact HB.out)⟩

end Go.Proofs.YthjhaogfpdkhbaaDoor.D
/- Chapter 5: the document's Symbols, Rule, Readable, Text answer what the definitions say. -/
set_option linter.unusedVariables false
set_option linter.unusedSimpArgs false
namespace Go.Proofs.YthjhaogfpdkhbaaDoor.Sh
open Go.RowKit Go.Proofs.YthjhaogfpdkhbaaDoorW.PrintWords Go.Proofs.YthjhaogfpdkhbaaDoorW.PrintLast Go.Proofs.YthjhaogfpdkhbaaDoorW.PrintMore
open Go.Proofs.YthjhaogfpdkhbaaDoor.B Go.Proofs.YthjhaogfpdkhbaaDoor.H Go.Proofs.YthjhaogfpdkhbaaDoor.D

theorem nbOf (a : ByteArray) : bytesOf a = nb a.data.toList := rfl
theorem lift_k {α : Type} {g : Nat → Option α} (hm : ∀ k, LeO (g k) (g (k + 1))) {k k' : Nat} (h : k ≤ k') {r : α} (e : g k = some r) : g k' = some r := at_rounds (g := g) hm h e
section
variable {l0 l1 : List ByteArray} {a2 : Int} {R : List S52} {m : Nat}
theorem rises_l (l : List Int) (n : Int) (hl : l.length < 9223372036854775807) : ∀ (d i : Nat) (x : Nat) (k : Nat), l.length - i = d → i ≤ l.length → x ≤ i → d < k → dovetailref05_rises.l0 k l n (x : Int) (i : Int) = some (decide (P.riseL (l.drop i) (x : Int) = some n)) := by
 intro d
 induction d with
 | zero =>
  intro i x k hd hi hx hk
  obtain ⟨k, rfl⟩ : ∃ j, k = j + 1 := ⟨k - 1, by omega⟩
  have : i = l.length := by omega
  subst this
  rw [dovetailref05_rises.l0, if_neg (by omega), List.drop_length]
  congr 1
  unfold P.riseL
  rw [Bool.eq_iff_iff, beq_iff_eq, decide_eq_true_eq, Option.some.injEq]
 | succ d ih =>
  intro i x k hd hi hx hk
  obtain ⟨k, rfl⟩ : ∃ j, k = j + 1 := ⟨k - 1, by omega⟩
  have hlt : i < l.length := by omega
  have hrd : rd l (i : Int) = l[i] := by rw [rd_D, getD_lt _ _ _ hlt]
  rw [dovetailref05_rises.l0, if_pos (by omega), if_pos (by omega), hrd, w64n i (by omega), w64n x (by omega), List.drop_eq_getElem_cons hlt]
  unfold P.riseL
  by_cases c : l[i] > (x : Int)
  · rw [if_pos c, if_pos c]; simp
  · rw [if_neg c, if_neg c]
    by_cases e : l[i] = (x : Int)
    · rw [if_pos e, if_pos e, ih (i + 1) (x + 1) k (by omega) (by omega) (by omega) (by omega)]
      rfl
    · rw [if_neg e, if_neg e, ih (i + 1) x k (by omega) (by omega) (by omega) (by omega)]
theorem rises_f (l : List Int) (n : Int) (hl : l.length < 9223372036854775807) (k : Nat) (hk : l.length < k) : dovetailref05_rises.f k l n = some (decide (P.riseL l 0 = some n)) := by
 have := rises_l l n hl l.length 0 0 k (by omega) (by omega) (by omega) hk
 rw [List.drop_zero] at this
 exact this
def readK (l0 l1 : List ByteArray) (a2 : Int) (R : List S52) : Int :=
 if (chk (namesOK l0) (namesOK l1) l0.length l1.length a2 R).1 = 0 then
  if P.namesFree l1 = true then if P.formB l0 l1 a2 R = true then 0 else 13 else 10
 else (chk (namesOK l0) (namesOK l1) l0.length l1.length a2 R).1
theorem names_small {l : List ByteArray} (h : namesOK l = true) : ∀ x ∈ l, x.size ≤ 32 := by
 intro x hx
 obtain ⟨i, hi, rfl⟩ := List.getElem_of_mem hx
 unfold namesOK at h
 have := List.all_eq_true.1 h i (by simpa using hi)
 simp only [faultAt, Bool.not_eq_true', Bool.or_eq_false_iff, getD_lt _ _ _ hi, decide_eq_false_iff_not] at this
 omega
theorem flat_len : ∀ (Q : List S52), (∀ x ∈ Q, x.f1.length ≤ 32) → (P.termsL Q).length ≤ 32 * Q.length
 | [], _ => by simp [P.termsL]
 | x :: Q, h => by
  have h1 := flat_len Q (fun y hy => h y (List.mem_cons_of_mem _ hy))
  have h2 := h x List.mem_cons_self
  have e : P.termsL (x :: Q) = (x.f1.filter fun s => decide (0 ≤ s)) ++ P.termsL Q := by simp [P.termsL]
  have h3 : (x.f1.filter fun s => decide (0 ≤ s)).length ≤ x.f1.length := List.length_filter_le _ _
  rw [e, List.length_append, List.length_cons]
  omega
theorem read_l2 (hR : ∀ x ∈ R, x.f1.length ≤ 32) (hl : R.length ≤ 120) (x6 : List Int) (i : Nat) (hi : i < R.length) : ∀ (e j k : Nat) (t : List Int), R[i].f1.length - j = e → j ≤ R[i].f1.length → t.length + e ≤ 100000 →
 dovetailref05_Readable.l2 (k + e + 1) x6 t (i : Int) (j : Int) l0 l1 a2 R = dovetailref05_Readable.l1 k x6 (t ++ (R[i].f1.drop j).filter fun s => decide (0 ≤ s)) ((i + 1 : Nat) : Int) l0 l1 a2 R := by
 have hx := hR R[i] (List.getElem_mem hi)
 have hrd : rd_T52 R (i : Int) = R[i] := by rw [rdR_D, getD_lt R i _ hi]
 intro e
 induction e with
 | zero =>
  intro j k t he hj ht
  have : j = R[i].f1.length := by omega
  subst this
  rw [dovetailref05_Readable.l2, if_pos (by omega), if_pos (by omega), hrd, if_neg (by omega), w64n i (by omega), List.drop_length]
  simp
 | succ e ih =>
  intro j k t he hj ht
  have hlt : j < R[i].f1.length := by omega
  have hrj : rd R[i].f1 (j : Int) = R[i].f1[j] := by rw [rd_D, getD_lt _ _ _ hlt]
  rw [show k + (e + 1) + 1 = (k + e + 1) + 1 by omega, dovetailref05_Readable.l2, if_pos (by omega), if_pos (by omega), hrd, if_pos (by omega), if_pos (by omega), hrj, w64n j (by omega), List.drop_eq_getElem_cons hlt, List.filter_cons]
  by_cases c : R[i].f1[j] ≥ 0
  · rw [if_pos c, if_pos (by omega), ih (j + 1) k _ (by omega) (by omega) (by rw [List.length_append, List.length_singleton]; omega), decide_eq_true c, if_pos rfl, List.append_assoc]
    rfl
  · rw [if_neg c, ih (j + 1) k t (by omega) (by omega) (by omega), decide_eq_false c, if_neg (by decide)]
theorem read_l1 (hR : ∀ x ∈ R, x.f1.length ≤ 32) (hl : R.length ≤ 120) (hn0 : l0.length ≤ 60) (hn1 : l1.length ≤ 60) : ∀ (d i : Nat), R.length - i = d → i ≤ R.length →
 ∃ k, dovetailref05_Readable.l1 k (P.leftsL (R.take i)) (P.termsL (R.take i)) (i : Int) l0 l1 a2 R = some (if P.formB l0 l1 a2 R = true then 0 else 13) := by
 intro d
 induction d with
 | zero =>
  intro i hd hi
  have : i = R.length := by omega
  subst this
  have ht := flat_len R hR
  have hll : (P.leftsL R).length = R.length := by simp [P.leftsL]
  refine ⟨10001, ?_⟩
  rw [dovetailref05_Readable.l1, if_neg (by omega), List.take_length, rises_f _ _ (by omega) _ (by omega), rises_f _ _ (by omega) _ (by omega)]
  unfold P.formB
  by_cases c : a2 = 0
  · rw [if_pos c, Option.bind_some, decide_eq_true c, Bool.true_and]
    by_cases c1 : P.riseL (P.leftsL R) 0 = some (l1.length : Int)
    · rw [decide_eq_true c1, if_pos rfl, Option.bind_some, Bool.true_and]
      by_cases c2 : P.riseL (P.termsL R) 0 = some (l0.length : Int)
      · rw [decide_eq_true c2, if_pos rfl, if_pos rfl]
      · rw [decide_eq_false c2, if_neg (by decide), if_neg (by decide)]
    · rw [decide_eq_false c1, if_neg (by decide), Bool.false_and, if_neg (by decide)]
  · rw [if_neg c, decide_eq_false c, Bool.false_and, if_neg (by decide)]
 | succ d ih =>
  intro i hd hi
  have hlt : i < R.length := by omega
  obtain ⟨k, hk⟩ := ih (i + 1) (by omega) (by omega)
  have hx := hR R[i] (List.getElem_mem hlt)
  have ht := flat_len (R.take i) (fun x hx => hR x (List.mem_of_mem_take hx))
  rw [List.length_take] at ht
  have hll : (P.leftsL (R.take i)).length = i := by simp [P.leftsL]; omega
  have hrd : rd_T52 R (i : Int) = R[i] := by rw [rdR_D, getD_lt R i _ hlt]
  have e1 : P.leftsL (R.take (i + 1)) = P.leftsL (R.take i) ++ [R[i].f0] := by unfold P.leftsL; rw [List.take_succ_eq_append_getElem hlt, List.map_append]; rfl
  have e2 : P.termsL (R.take (i + 1)) = P.termsL (R.take i) ++ (R[i].f1.filter fun s => decide (0 ≤ s)) := by unfold P.termsL; rw [List.take_succ_eq_append_getElem hlt, List.flatMap_append, List.flatMap_cons, List.flatMap_nil, List.append_nil]
  have h2 := read_l2 (l0 := l0) (l1 := l1) (a2 := a2) hR hl (P.leftsL (R.take i) ++ [R[i].f0]) i hlt R[i].f1.length 0 k (P.termsL (R.take i)) (by omega) (by omega) (by omega)
  rw [List.drop_zero, ← e1, ← e2, hk] at h2
  refine ⟨k + R[i].f1.length + 1 + 1, ?_⟩
  rw [dovetailref05_Readable.l1, if_pos (by omega), if_pos (by omega), hll, if_pos (by omega), hrd, ← e1]
  exact h2
theorem rReadable_f (m0 : l0.length ≤ 9223372036854775807) (m1 : l1.length ≤ 9223372036854775807) : ∃ k, dovetailref05_Readable.f k l0 l1 a2 R = some (readK l0 l1 a2 R) := by
 unfold readK
 by_cases h : (chk (namesOK l0) (namesOK l1) l0.length l1.length a2 R).1 = 0
 · rw [if_pos h]
   obtain ⟨q1, q2, q3, q4, q5, q6, q7⟩ := chk_ok h
   have hsz := names_small q4
   obtain ⟨k1, hk1⟩ := read_l1 (l0 := l0) (l1 := l1) (a2 := a2) (R := R) (fun x hx => (okR_sides (q7 x hx)).1) q2 (by omega) (by omega) R.length 0 (by omega) (by omega)
   have main : ∀ (d i : Nat), l1.length - i = d → i ≤ l1.length → ∃ k, dovetailref05_Readable.l0 k (i : Int) l0 l1 a2 R = some (if (l1.drop i).all (fun x => P.freeL x.data.toList) = true then (if P.formB l0 l1 a2 R = true then 0 else 13) else 10) := by
    intro d
    induction d with
    | zero =>
     intro i hd hi
     have : i = l1.length := by omega
     subst this
     refine ⟨k1 + 1, ?_⟩
     rw [dovetailref05_Readable.l0, if_neg (by omega), List.drop_length, if_pos (by rfl)]
     exact hk1
    | succ d ih =>
     intro i hd hi
     have hlt : i < l1.length := by omega
     obtain ⟨k, hk⟩ := ih (i + 1) (by omega) (by omega)
     have hs := hsz l1[i] (List.getElem_mem hlt)
     refine ⟨max k 100 + 1, ?_⟩
     have hk' := lift_k (g := fun k => dovetailref05_Readable.l0 k ((i + 1 : Nat) : Int) l0 l1 a2 R) (fun k => (dovetailref05_Readable.mono_l k).1 _ _ _ _ _) (Nat.le_max_left k 100) hk
     rw [dovetailref05_Readable.l0, if_pos (by omega), if_pos (by omega), rdS, Int.toNat_natCast, getD_lt _ _ _ hlt, rfree_f _ (by omega) _ (by omega), Option.bind_some, w64n i (by omega), List.drop_eq_getElem_cons hlt, List.all_cons]
     cases P.freeL l1[i].data.toList with
     | true => rw [if_pos rfl, Bool.true_and]; exact hk'
     | false => rw [if_neg (by decide), Bool.false_and, if_neg (by decide)]
   obtain ⟨k, hk⟩ := main l1.length 0 (by omega) (by omega)
   rw [List.drop_zero] at hk
   refine ⟨max k 20000, ?_⟩
   unfold dovetailref05_Readable.f
   rw [refCheck_f l0 l1 a2 R m0 m1 _ (by omega), Option.bind_some, if_pos h]
   exact lift_k (g := fun k => dovetailref05_Readable.l0 k 0 l0 l1 a2 R) (fun k => (dovetailref05_Readable.mono_l k).1 _ _ _ _ _) (Nat.le_max_left k 20000) hk
 · rw [if_neg h]
   refine ⟨20000, ?_⟩
   unfold dovetailref05_Readable.f
   rw [refCheck_f l0 l1 a2 R m0 m1 _ (Nat.le_refl _), Option.bind_some, if_neg h]
def textP (l0 l1 : List ByteArray) (a2 : Int) (R : List S52) : List UInt8 × Int :=
 if readK l0 l1 a2 R = 0 then if 1048576 < (P.textL l0 l1 R).length then ([], 12) else (P.textL l0 l1 R, 0) else ([], readK l0 l1 a2 R)
structure Rd (l0 l1 : List ByteArray) (a2 : Int) (R : List S52) : Prop where
 z0 : ∀ x ∈ l0, x.size ≤ 32
 z1 : ∀ x ∈ l1, x.size ≤ 32
 len : l0.length + l1.length ≤ 60
 rules : R.length ≤ 120
 ok : ∀ x ∈ R, okR l0.length l1.length x = true
 fr : ∀ x ∈ l1, P.freeL x.data.toList = true
 form : P.formB l0 l1 a2 R = true
 names0 : namesOK l0 = true
 names1 : namesOK l1 = true
 ax0 : 0 ≤ a2
 ax1 : a2 < (l1.length : Int)
theorem read_ok (h : readK l0 l1 a2 R = 0) : Rd l0 l1 a2 R := by
 unfold readK at h
 by_cases hc : (chk (namesOK l0) (namesOK l1) l0.length l1.length a2 R).1 = 0
 · rw [if_pos hc] at h
   obtain ⟨q1, q2, q3, q4, q5, q6, q7⟩ := chk_ok hc
   by_cases hf : P.namesFree l1 = true
   · rw [if_pos hf] at h
     by_cases hg : P.formB l0 l1 a2 R = true
     · exact ⟨names_small q3, names_small q4, q1, q2, q7, fun x hx => by
        unfold P.namesFree at hf
        exact List.all_eq_true.1 hf x hx, hg, q3, q4, q5, q6⟩
     · rw [if_neg hg] at h; exact absurd h (by decide)
   · rw [if_neg hf] at h; exact absurd h (by decide)
 · rw [if_neg hc] at h; exact absurd h hc
theorem alt_len (h : Rd l0 l1 a2 R) : ∀ (Q : List S52) (p : Option Int), (∀ x ∈ Q, x ∈ R) → (P.altsL l0 l1 p Q).length ≤ 4455 * Q.length
 | [], _, _ => by simp [P.altsL]
 | x :: Q, p, hq => by
  have h1 := alt_len h Q (some x.f0) (fun y hy => hq y (List.mem_cons_of_mem _ hy))
  have h2 := P.altL_length h.z0 h.z1 p x
  have h3 := (okR_sides (h.ok x (hq x List.mem_cons_self))).1
  have h4 : (4 * 32 + 7) * (x.f1.length + 1) ≤ (4 * 32 + 7) * 33 := Nat.mul_le_mul_left _ (by omega)
  unfold P.altsL
  rw [List.length_append, List.length_cons]
  omega
theorem text_l1 (h : Rd l0 l1 a2 R) (i : Nat) (hi : i < R.length) (x : S52) (hx : R[i] = x) (k : Nat) (hk : 200 ≤ k) : ∀ (e j : Nat) (pre : List UInt8), x.f1.length - j = e → j ≤ x.f1.length → pre.length + 200 * e ≤ 10000000 →
 dovetailref05_Text.l1 (k + e + 1) (nb pre) (i : Int) (j : Int) l0 l1 a2 R x.f0 x.f1 = dovetailref05_Text.l0 k (nb (pre ++ P.tlL l0 l1 (x.f1.drop j))) ((i + 1 : Nat) : Int) l0 l1 a2 R := by
 have hr := h.rules
 have hln := h.len
 intro e
 induction e with
 | zero =>
  intro j pre he hj hp
  have : j = x.f1.length := by omega
  subst this
  rw [dovetailref05_Text.l1, if_neg (by omega), w64n i (by omega), List.drop_length]
  simp [P.tlL]
 | succ e ih =>
  intro j pre he hj hp
  have hlt : j < x.f1.length := by omega
  have hxl := (okR_sides (h.ok R[i] (List.getElem_mem hi))).1
  rw [hx] at hxl
  have hrj : rd x.f1 (j : Int) = x.f1[j] := by rw [rd_D, getD_lt _ _ _ hlt]
  have hs := P.symL_length h.z0 h.z1 x.f1[j]
  rw [show k + (e + 1) + 1 = (k + e + 1) + 1 by omega, dovetailref05_Text.l1, if_pos (by omega), nb_length, if_pos (by omega), Option.bind_some, if_pos (by omega), hrj, rsym_f (m := 32) (by omega) h.z0 h.z1 (by omega) (by omega) _ _ (by omega), Option.bind_some, List.length_append, nb_length, P.size_lit, if_pos (by simp only [List.length_singleton]; omega), nbOf, w64n j (by omega), show ([(32 : Int)] : List Int) = nb [32] from rfl, ← nb_append, ← nb_append, ih (j + 1) _ (by omega) (by omega) (by simp only [List.length_append, List.length_singleton]; omega), List.drop_eq_getElem_cons hlt]
  congr 2
  unfold P.tlL
  rw [List.flatMap_cons, List.append_assoc, List.append_assoc]; rfl
theorem text_step (h : Rd l0 l1 a2 R) (i : Nat) (hi : i < R.length) (k : Nat) (hk : 200 ≤ k) (pre : List UInt8) (hp : pre.length ≤ 1000000) (p : Option Int) (hpr : p = if i = 0 then none else some (R.getD (i - 1) z52).f0) :
 dovetailref05_Text.l0 (k + R[i].f1.length + 4) (nb pre) (i : Int) l0 l1 a2 R = dovetailref05_Text.l0 k (nb (pre ++ P.altL l0 l1 p R[i])) ((i + 1 : Nat) : Int) l0 l1 a2 R := by
 have hr := h.rules
 have hln := h.len
 have hmem := List.getElem_mem hi
 have hxo := okR_sides (h.ok R[i] hmem)
 have hrd : rd_T52 R (i : Int) = R[i] := by rw [rdR_D, getD_lt R i _ hi]
 have hl1 := text_l1 h i hi R[i] rfl k hk R[i].f1.length 0
 rw [List.drop_zero] at hl1
 obtain ⟨x, hx⟩ : ∃ x, x = R[i] := ⟨_, rfl⟩
 rw [← hx] at hxo hrd hl1 ⊢
 have hname : P.symL l0 l1 (-1 - x.f0) = (l1.getD x.f0.toNat ByteArray.empty).data.toList := by
  unfold P.symL
  rw [if_neg (by omega), if_neg (by omega), if_pos (by omega), show -1 - (-1 - x.f0) = x.f0 by omega, if_pos]
  rw [getD_lt _ _ _ (by omega)]
  exact h.fr _ (List.getElem_mem _)
 have hns := getD_size h.z1 x.f0.toNat
 have hj2 : ∀ q : List UInt8, q.length ≤ 1000100 → dovetailref05_Text.j2 (k + x.f1.length + 2) (nb q) (i : Int) l0 l1 a2 R x.f0 x.f1 = dovetailref05_Text.l0 k (nb (q ++ P.tlL l0 l1 x.f1)) ((i + 1 : Nat) : Int) l0 l1 a2 R := by
  intro q hq
  rw [show k + x.f1.length + 2 = (k + x.f1.length + 1) + 1 by omega, dovetailref05_Text.j2]
  exact hl1 q (by omega) (by omega) (by omega)
 have hhead : ∀ q : List UInt8, q.length ≤ 1000001 → (if 0 ≤ x.f0 then (if x.f0 < (l1.length : Int) then (if (nb q).length + (rdOf ByteArray.empty l1 x.f0).size < 140737488355328 then ((some (nb q ++ bytesOf (rdOf ByteArray.empty l1 x.f0) : List Int)).bind fun y => (if y.length + 2 < 140737488355328 then (dovetailref05_Text.j2 (k + x.f1.length + 2) (y ++ bytesOf (⟨#[32, 58]⟩ : ByteArray)) (i : Int) l0 l1 a2 R x.f0 x.f1) else (none))) else (none)) else (none)) else (none)) = dovetailref05_Text.l0 k (nb (q ++ (P.symL l0 l1 (-1 - x.f0) ++ [32, 58]) ++ P.tlL l0 l1 x.f1)) ((i + 1 : Nat) : Int) l0 l1 a2 R := by
  intro q hq
  have hsz : (l1.getD x.f0.toNat ByteArray.empty).data.toList.length = (l1.getD x.f0.toNat ByteArray.empty).size := by simp
  rw [if_pos (by omega), if_pos (by omega), nb_length, rdS, if_pos (by omega), Option.bind_some, List.length_append, nb_length, nbOf, nb_length, hsz, if_pos (by omega), nbOf, ← nb_append, ← nb_append, hj2 _ (by simp only [List.length_append, hsz]; show _ + _ + 2 ≤ _; omega), hname]
  simp
 have hj1 : dovetailref05_Text.j1 (k + x.f1.length + 3) (nb pre) (i : Int) (decide (p = some x.f0)) l0 l1 a2 R x.f0 x.f1 = dovetailref05_Text.l0 k (nb (pre ++ P.altL l0 l1 p x)) ((i + 1 : Nat) : Int) l0 l1 a2 R := by
  rw [show k + x.f1.length + 3 = (k + x.f1.length + 2) + 1 by omega, dovetailref05_Text.j1]
  unfold P.altL
  by_cases c : p = some x.f0
  · rw [decide_eq_true c, if_pos rfl, nb_length, if_pos (by omega), nbOf, ← nb_append, hj2 _ (by simp only [List.length_append]; show _ + 2 ≤ _; omega), if_pos c, List.append_assoc]
  · rw [decide_eq_false c, if_neg (by decide), if_neg c]
    by_cases d : i = 0
    · have hp0 : p = none := by rw [hpr, if_pos d]
      rw [if_neg (by omega), hhead pre (by omega), if_pos hp0]
      simp
    · have hp0 : p ≠ none := by rw [hpr, if_neg d]; simp
      have := hhead (pre ++ [10]) (by simp; omega)
      rw [if_pos (by omega), nb_length, if_pos (by omega), Option.bind_some, show ([(10 : Int)] : List Int) = nb [10] from rfl, ← nb_append, this, if_neg hp0]
      simp
 rw [show k + x.f1.length + 4 = (k + x.f1.length + 3) + 1 by omega, dovetailref05_Text.l0, if_pos (by omega), if_pos (by omega), hrd]
 by_cases d : i = 0
 · rw [if_neg (by omega)]
   have : decide (p = some x.f0) = false := by rw [hpr, if_pos d]; simp
   rw [this] at hj1
   exact hj1
 · have hw : wrap64 ((i : Int) - 1) = ((i - 1 : Nat) : Int) := by unfold wrap64; omega
   rw [if_pos (by omega), hw, if_pos (by omega), if_pos (by omega), rdR_D]
   have : ((R.getD (i - 1) z52).f0 == x.f0) = decide (p = some x.f0) := by
    rw [hpr, if_neg d, Bool.eq_iff_iff, beq_iff_eq, decide_eq_true_eq, Option.some.injEq]
   rw [this]
   exact hj1
theorem rText_f (m0 : l0.length ≤ 9223372036854775807) (m1 : l1.length ≤ 9223372036854775807) : ∃ k, dovetailref05_Text.f k l0 l1 a2 R = some (⟨(textP l0 l1 a2 R).1.toArray⟩, (textP l0 l1 a2 R).2) := by
 obtain ⟨k0, hk0⟩ := rReadable_f (l0 := l0) (l1 := l1) (a2 := a2) (R := R) m0 m1
 unfold textP
 by_cases h : readK l0 l1 a2 R = 0
 · rw [if_pos h]
   have hd := read_ok h
   have hr := hd.rules
   have hall := alt_len hd R none (fun x hx => hx)
   have main : ∀ (d i : Nat), R.length - i = d → i ≤ R.length → ∃ k, 200 ≤ k ∧ dovetailref05_Text.l0 k (nb (P.altsL l0 l1 none (R.take i))) (i : Int) l0 l1 a2 R = some (if 1048576 < (P.textL l0 l1 R).length then ((⟨#[]⟩ : ByteArray), 12) else (⟨(P.textL l0 l1 R).toArray⟩, 0)) := by
    intro d
    induction d with
    | zero =>
     intro i hd' hi
     have : i = R.length := by omega
     subst this
     refine ⟨200, Nat.le_refl _, ?_⟩
     have hlen : (P.textL l0 l1 R).length = (P.altsL l0 l1 none R).length + 1 := by simp [P.textL]
     rw [show (200 : Nat) = 199 + 1 from rfl, dovetailref05_Text.l0, if_neg (by omega), List.take_length, nb_length, if_pos (by omega), Option.bind_some, List.length_append, nb_length, show ([(10 : Int)] : List Int) = nb [10] from rfl, ← nb_append, nb_str]
     by_cases c : 1048576 < (P.textL l0 l1 R).length
     · rw [if_pos c, if_pos (by simp only [nb_length, List.length_singleton]; omega)]
     · rw [if_neg c, if_neg (by simp only [nb_length, List.length_singleton]; omega)]; rfl
    | succ d ih =>
     intro i hd' hi
     have hlt : i < R.length := by omega
     obtain ⟨k, hk, e⟩ := ih (i + 1) (by omega) (by omega)
     have hpre := alt_len hd (R.take i) none (fun x hx => List.mem_of_mem_take hx)
     rw [List.length_take] at hpre
     have hst := text_step hd i hlt k hk (P.altsL l0 l1 none (R.take i)) (by omega) (if i = 0 then none else some (R.getD (i - 1) z52).f0) rfl
     have hsn : P.altsL l0 l1 none (R.take (i + 1)) = P.altsL l0 l1 none (R.take i) ++ P.altL l0 l1 (if i = 0 then none else some (R.getD (i - 1) z52).f0) R[i] := by
      rw [List.take_succ_eq_append_getElem hlt, P.altsL_snoc]
      congr 2
      unfold P.lastF
      by_cases c : i = 0
      · subst c; rfl
      · rw [if_neg c, List.getLast?_take, if_neg c, List.getElem?_eq_getElem (by omega)]
        rw [getD_lt _ _ _ (by omega)]
        rfl
     rw [← hsn, e] at hst
     exact ⟨_, by omega, hst⟩
   obtain ⟨k, hk, e⟩ := main R.length 0 (by omega) (by omega)
   refine ⟨max k k0, ?_⟩
   have e' := lift_k (g := fun k => dovetailref05_Text.l0 k (nb (P.altsL l0 l1 none (R.take 0))) ((0 : Nat) : Int) l0 l1 a2 R) (fun k => (dovetailref05_Text.mono_l k).1 _ _ _ _ _ _) (Nat.le_max_left k k0) e
   have h0' := lift_k (g := fun k => dovetailref05_Readable.f k l0 l1 a2 R) (fun k => dovetailref05_Readable.mono _ _ _ _ k) (Nat.le_max_right k k0) hk0
   unfold dovetailref05_Text.f
   rw [h0', Option.bind_some, if_pos h]
   by_cases c : 1048576 < (P.textL l0 l1 R).length
   · rw [if_pos c] at e' ⊢; exact e'
   · rw [if_neg c] at e' ⊢; exact e'
 · rw [if_neg h]
   refine ⟨k0, ?_⟩
   unfold dovetailref05_Text.f
   rw [hk0, Option.bind_some, if_neg h]
end
end Go.Proofs.YthjhaogfpdkhbaaDoor.Sh
/- errors.Is at a rule error, after the kit's worked example. -/
set_option linter.unusedVariables false
set_option linter.unusedSimpArgs false
namespace Go.Proofs.YthjhaogfpdkhbaaDoor.E
open Go.RowKit Go.Extern.Stop Go.Stop Go.Extern
theorem noIsWR (v : Value) (xT : TypeId) (w : World) : (Instr.typeAssert (.iface 126 v) xT 152 true).run Tryd.prog w = .ok (.tuple #[.nilIface, .bool false]) w := run_typeAssert_lacksB Tryd.underlying152 (by kernel_rfl) (by kernel_rfl) v xT w
theorem hasUnwrapWR (v : Value) (xT : TypeId) (w : World) : (Instr.typeAssert (.iface 126 v) xT 155 true).run Tryd.prog w = .ok (.tuple #[.iface 126 v, .bool true]) w := run_typeAssert_hasB Tryd.underlying155 (by kernel_rfl) v xT w
theorem methodUnwrapR (v : Value) (w : World) : (Go.method 309 126 v "Unwrap").run Tryd.prog w = .ok (133, v) w := by kernel_rfl

theorem isR_same (pb po : Nat) (b : Addr) (w : World) (h1 : w.cell? ⟨pb, po + 1, none⟩ = some (.iface 178 (.pointer (some b)))) :
 Calls Tryd.prog 55 #[.iface 126 (.pointer (some ⟨pb, po, none⟩)), .iface 178 (.pointer (some b))] w fun e w' => e = .returned (.bool true) ∧ w = w' := by
 obtain ⟨i, hi, hcmp⟩ := Option.map_eq_some_iff.1 isComp
 obtain ⟨j, hj, hjs⟩ := Option.map_eq_some_iff.1 isSize
 have h8 := @run_callFunc_extern Tryd.prog 86 _ Extern.ReflectliteType.typeOf Tryd.func86 (by kernel_rfl) (by kernel_rfl) (by kernel_rfl) (by kernel_rfl)
 have h32 := @run_callFunc_extern Tryd.prog 136 _ compF Tryd.func136 (by kernel_rfl) (by kernel_rfl) (by kernel_rfl) (by kernel_rfl)
 have tT := isTypeOf
 have cT := isComparable
 have mR := isMethodComparable
 have nE := noIsE
 have uE := noUnwrapE
 have vE := noUnwrapsE
 have nW := noIsWR
 have uW := hasUnwrapWR
 have mU := methodUnwrapR
 have heq := run_eql_iface_ptr_same (P := Tryd.prog) w b Tryd.underlying30 Tryd.underlying178 hi hcmp hj
 have hty := run_eql_iface_types (P := Tryd.prog) 126 178 (.pointer (some ⟨pb, po, none⟩)) (.pointer (some b)) Tryd.underlying30 (by decide) w
 go_enter Tryd.func55, Tryd.ntmps55
 go_wp2
 refine wp_loop_rounds 2 ?_
 rw [rounds_succ]
 go_wp2
 rw [rounds_succ]
 go_wp2
 go_ret
 exact ⟨rfl, rfl⟩

theorem isR_other (pb po : Nat) (b a : Addr) (ca cb : Array Value) (ta tb : TypeId) (w : World) (h1 : w.cell? ⟨pb, po + 1, none⟩ = some (.iface 178 (.pointer (some a)))) (hne : a ≠ b) (ha : w.heap[a.block]? = some (.cells ca ta (0, 0))) (hb : w.heap[b.block]? = some (.cells cb tb (0, 0))) :
 Calls Tryd.prog 55 #[.iface 126 (.pointer (some ⟨pb, po, none⟩)), .iface 178 (.pointer (some b))] w fun e w' => e = .returned (.bool false) ∧ w = w' := by
 obtain ⟨i, hi, hcmp⟩ := Option.map_eq_some_iff.1 isComp
 obtain ⟨j, hj, hjs⟩ := Option.map_eq_some_iff.1 isSize
 have h8 := @run_callFunc_extern Tryd.prog 86 _ Extern.ReflectliteType.typeOf Tryd.func86 (by kernel_rfl) (by kernel_rfl) (by kernel_rfl) (by kernel_rfl)
 have h32 := @run_callFunc_extern Tryd.prog 136 _ compF Tryd.func136 (by kernel_rfl) (by kernel_rfl) (by kernel_rfl) (by kernel_rfl)
 have tT := isTypeOf
 have cT := isComparable
 have mR := isMethodComparable
 have nE := noIsE
 have uE := noUnwrapE
 have vE := noUnwrapsE
 have nW := noIsWR
 have uW := hasUnwrapWR
 have mU := methodUnwrapR
 have heq := run_eql_iface_ptr_other (P := Tryd.prog) w Tryd.underlying30 Tryd.underlying178 hi hcmp hj (by rw [hjs]; decide) hne ha hb
 have hty := run_eql_iface_types (P := Tryd.prog) 126 178 (.pointer (some ⟨pb, po, none⟩)) (.pointer (some b)) Tryd.underlying30 (by decide) w
 go_enter Tryd.func55, Tryd.ntmps55
 go_wp2
 refine wp_loop_rounds 2 ?_
 rw [rounds_succ]
 go_wp2
 rw [rounds_succ]
 go_wp2
 go_ret
 exact ⟨rfl, rfl⟩
end Go.Proofs.YthjhaogfpdkhbaaDoor.E
/- errors.As at a rule error, after the kit's worked example. -/
set_option linter.unusedVariables false
set_option linter.unusedSimpArgs false
namespace Go.Proofs.YthjhaogfpdkhbaaDoor.E
open Go.RowKit Go.Extern.Stop Go.Stop Go.Extern

end Go.Proofs.YthjhaogfpdkhbaaDoor.E
/- kit.Kind and kit.Rule of what gram.Check answers. -/
set_option linter.unusedVariables false
set_option linter.unusedSimpArgs false
namespace Go.Proofs.YthjhaogfpdkhbaaDoor.B
open Go.RowKit Go.Proofs.YthjhaogfpdkhbaaDoorW.PrintWords Go.Proofs.YthjhaogfpdkhbaaDoorW.PrintLast Go.Proofs.YthjhaogfpdkhbaaDoorW.PrintMore Go.Proofs.YthjhaogfpdkhbaaDoor.E

theorem IsK.rule {ad : Int → Addr} {w : World} (hs : SentsK ad w) (k : Int) (h1 : 1 ≤ k) (h2 : k ≤ 15) (b : Nat) (hc : w.cell? ⟨b, 1, none⟩ = some (.iface 178 (.pointer (some (ad k))))) : IsK ad w (.iface 126 (.pointer (some ⟨b, 0, none⟩))) k := by
 intro j hj1 hj2 W hW
 have hc' : W.cell? ⟨b, 0 + 1, none⟩ = some (.iface 178 (.pointer (some (ad k)))) := (hW.cell (World.block_lt_of_cell? w _ hc)).trans hc
 by_cases h : j = k
 · subst h
   rw [decide_eq_true rfl]
   exact isR_same b 0 (ad j) W hc'
 · rw [decide_eq_false h]
   obtain ⟨ca, ta, hca⟩ := (hs.below hW).box k h1 h2
   obtain ⟨cb, tb, hcb⟩ := (hs.below hW).box j hj1 hj2
   exact isR_other b 0 (ad j) (ad k) ca cb ta tb W hc' (hs.ne k j h1 h2 hj1 hj2 (fun e => h e.symm)) hca hcb
def Handle (w : World) : Prop := w.cell? ⟨15, 0, none⟩ = some (.iface 150 (.agg #[.pointer (some ⟨16, 30, none⟩)]))
theorem Handle.below {w w' : World} (h : Handle w) (hb : Below w.heap.size w w') : Handle w' := (hb.cell (World.block_lt_of_cell? w _ h)).trans h

end Go.Proofs.YthjhaogfpdkhbaaDoor.B
/- Errors of all kinds: none, a sentinel, a rule's; kit.Kind and kit.Rule of them; told by a number (kind + 16 * (rule + 1)). -/
set_option linter.unusedVariables false
set_option linter.unusedSimpArgs false
namespace Go.Proofs.YthjhaogfpdkhbaaDoor.F
open Go.RowKit Go.Proofs.YthjhaogfpdkhbaaDoorW.PrintWords Go.Proofs.YthjhaogfpdkhbaaDoorW.PrintLast Go.Proofs.YthjhaogfpdkhbaaDoorW.PrintMore
open Go.Proofs.YthjhaogfpdkhbaaDoor.B Go.Proofs.YthjhaogfpdkhbaaDoor.E

def ErrW (ad : Int → Addr) (w : World) (v : Value) (p : Int × Int) : Prop :=
 (p.1 = 0 ∧ p.2 = -1 ∧ v = .nilIface) ∨ ((1 ≤ p.1 ∧ p.1 ≤ 15) ∧ p.2 = -1 ∧ v = .iface 178 (.pointer (some (ad p.1)))) ∨
 ((1 ≤ p.1 ∧ p.1 ≤ 15) ∧ 0 ≤ p.2 ∧ p.2 < 1000 ∧ ∃ b, v = .iface 126 (.pointer (some ⟨b, 0, none⟩)) ∧ w.heap[b]? = some (.cells #[.int .i64 p.2, .iface 178 (.pointer (some (ad p.1)))] 128 (0, 0)))
theorem ErrW.of {ad : Int → Addr} {w : World} {v : Value} {p : Int × Int} (h : ErrV ad w v p) : ErrW ad w v p := by
 rcases h with h | ⟨h1, h2, h3⟩ | ⟨h1, h2, h3, h4⟩
 · exact .inl h
 · exact .inr (.inl ⟨by omega, h2, h3⟩)
 · exact .inr (.inr ⟨by omega, h2, by omega, h4⟩)
theorem ErrW.below {ad : Int → Addr} {w w' : World} {v : Value} {p : Int × Int} (h : ErrW ad w v p) (hb : Below w.heap.size w w') : ErrW ad w' v p := by
 rcases h with h | h | ⟨h1, h2, h3, b, hv, hx⟩
 · exact .inl h
 · exact .inr (.inl h)
 · exact .inr (.inr ⟨h1, h2, h3, b, hv, Box.below (W := w) (W' := w') hx hb⟩)
theorem ErrW.nil {ad : Int → Addr} {w : World} {v : Value} {p : Int × Int} (h : ErrW ad w v p) (h0 : p.1 = 0) : v = .nilIface := by
 rcases h with h | h | h
 · exact h.2.2
 · have := h.1; omega
 · have := h.1; omega
theorem ErrW.any {ad : Int → Addr} {w : World} {v : Value} {p : Int × Int} (h : ErrW ad w v p) (h0 : p.1 ≠ 0) : ∃ t u, v = .iface t u := by
 rcases h with h | h | h
 · exact absurd h.1 h0
 · exact ⟨_, _, h.2.2⟩
 · obtain ⟨_, _, _, b, h, _⟩ := h; exact ⟨_, _, h⟩
theorem ErrW.sent {ad : Int → Addr} {w : World} {k : Int} (h1 : 1 ≤ k) (h2 : k ≤ 15) : ErrW ad w (.iface 178 (.pointer (some (ad k)))) (k, -1) := .inr (.inl ⟨⟨h1, h2⟩, rfl, rfl⟩)
theorem Kind_w {ad : Int → Addr} {w : World} (hs : SentsK ad w) {v : Value} {p : Int × Int} (hv : ErrW ad w v p) : Calls Tryd.prog 14 #[v] w fun e w' => e = .returned (.int .i64 p.1) ∧ Below w.heap.size w w' := by
 rcases hv with ⟨h0, _, rfl⟩ | ⟨h1, _, rfl⟩ | ⟨h1, _, _, b, rfl, hx⟩
 · rw [h0]; exact Kind_nil w
 · exact Kind_any ad _ _ p.1 h1.1 h1.2 w hs (IsK.sent hs p.1 h1.1 h1.2)
 · exact Kind_any ad _ _ p.1 h1.1 h1.2 w hs (IsK.rule hs p.1 h1.1 h1.2 b (Box.cell (W := w) hx 1 _ rfl))
def encE (p : Int × Int) : Option Int := if p.1 = 0 then none else some (p.1 + 16 * (p.2 + 1))
def kindE : Option Int → Int
 | none => 0
 | some c => c % 16
def ruleE : Option Int → Int
 | none => -1
 | some c => c / 16 - 1
def ErrF (ad : Int → Addr) (w : World) (v : Value) (r : Option Int) : Prop := ∃ p, ErrW ad w v p ∧ r = encE p
theorem ErrF.below {ad : Int → Addr} {w w' : World} {v : Value} {r : Option Int} (h : ErrF ad w v r) (hb : Below w.heap.size w w') : ErrF ad w' v r := by
 obtain ⟨p, h1, h2⟩ := h
 exact ⟨p, h1.below hb, h2⟩
theorem SentsK.three {ad : Int → Addr} {w : World} (h : SentsK ad w) : Go.Proofs.YthjhaogfpdkhbaaDoor.B.Sents ad w := by
 obtain ⟨⟨h1, h2, h3, h4, h5, h6, h7, h8, h9, h10, h11, h12, h13, h14, h15⟩, _, _⟩ := h
 exact ⟨h3, h10, h1⟩
theorem Check_any (ad : Int → Addr) (A0 : Option Addr) (c0 : Nat) (l0 : List ByteArray) (A1 : Option Addr) (c1 : Nat) (l1 : List ByteArray) (a2 : Int) (A3 : Option Addr) (c3 : Nat) (l3 : List S52) (w : World) (hs : SentsK ad w) (hr0 : Kd.C Kd.string w A0 l0.length l0) (hc0 : l0.length ≤ c0) (hr1 : Kd.C Kd.string w A1 l1.length l1) (hc1 : l1.length ≤ c1) (hr3 : Kd.C k52 w A3 l3.length l3) (hc3 : l3.length ≤ c3) :
 Calls Tryd.prog 51 #[.agg #[.slice A0 l0.length c0, .slice A1 l1.length c1, .int .i64 a2, .slice A3 l3.length c3]] w fun e w' => (∃ v, e = .returned v ∧ ErrV ad w' v (chk (namesOK l0) (namesOK l1) l0.length l1.length a2 l3)) ∧ Below w.heap.size w w' := by
 have m0 := C_max hr0
 have m1 := C_max hr1
 exact Check_full ad _ A0 c0 l0 A1 c1 l1 a2 A3 c3 l3 _ _ w (SentsK.three hs) hr0 hc0 hr1 hc1 hr3 hc3 (Names_f l0 (l0.length + l0.length + l1.length + l1.length + 2) m0 (by omega)) (Names_f l1 (l0.length + l0.length + l1.length + l1.length + 2) m1 (by omega))
def dovetailkit_Kind.f (a0 : Option Int) : Option Int := some (kindE a0)
def dovetailkit_Rule.f (a0 : Option Int) : Option Int := some (ruleE a0)
end Go.Proofs.YthjhaogfpdkhbaaDoor.F
/- show.Rule, show.Readable: walked. -/
set_option linter.unusedVariables false
set_option linter.unusedSimpArgs false
namespace Go.Proofs.YthjhaogfpdkhbaaDoor.Sh
open Go.RowKit Go.Proofs.YthjhaogfpdkhbaaDoorW.PrintWords Go.Proofs.YthjhaogfpdkhbaaDoorW.PrintLast Go.Proofs.YthjhaogfpdkhbaaDoorW.PrintMore
open Go.Proofs.YthjhaogfpdkhbaaDoor.B Go.Proofs.YthjhaogfpdkhbaaDoor.H Go.Proofs.YthjhaogfpdkhbaaDoor.F

theorem sent_name {ad : Int → Addr} {w : World} (h : SentsK ad w) : w.cell? ⟨10, 0, none⟩ = some (.iface 178 (.pointer (some (ad 10)))) := by
 obtain ⟨⟨h1, h2, h3, h4, h5, h6, h7, h8, h9, h10, h11, h12, h13, h14, h15⟩, _, _⟩ := h
 exact h10
theorem sent_form {ad : Int → Addr} {w : World} (h : SentsK ad w) : w.cell? ⟨12, 0, none⟩ = some (.iface 178 (.pointer (some (ad 13)))) := by
 obtain ⟨⟨h1, h2, h3, h4, h5, h6, h7, h8, h9, h10, h11, h12, h13, h14, h15⟩, _, _⟩ := h
 exact h13
theorem sent_long {ad : Int → Addr} {w : World} (h : SentsK ad w) : w.cell? ⟨0, 0, none⟩ = some (.iface 178 (.pointer (some (ad 12)))) := by
 obtain ⟨⟨h1, h2, h3, h4, h5, h6, h7, h8, h9, h10, h11, h12, h13, h14, h15⟩, _, _⟩ := h
 exact h12
theorem GS.alloc {w W : World} {cs : Array Value} (h : GS w cs W) (o : Obj) : GS w cs (W.alloc o) := h.more ((Below.refl _ W).alloc (Nat.le_refl _) o)
theorem GS.lt {w W : World} {cs : Array Value} (h : GS w cs W) : w.heap.size < W.heap.size := by
 have h2 : W.heap[w.heap.size]? = some (.cells cs 25 (0, 0)) := h.2
 rcases Nat.lt_or_ge w.heap.size W.heap.size with h1 | h1
 · exact h1
 · rw [Array.getElem?_eq_none h1] at h2; cases h2
end Go.Proofs.YthjhaogfpdkhbaaDoor.Sh
