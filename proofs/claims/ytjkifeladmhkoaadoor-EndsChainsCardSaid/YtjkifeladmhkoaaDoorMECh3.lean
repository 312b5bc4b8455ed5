/- Texts of this claim, one behind the other. -/
import Derived.Test.YtjkifeladmhkoaaDoorMECh2
import Derived.Test.YtjkifeladmhkoaaDoorMECh1
import Derived.Test.YtjkifeladmhkoaaDoorProg
import Derived.Below
import Derived.Deep.Draws
import Derived.Deep.AppendLies
import Derived.Maps.AppendAt
import Derived.OwnWalk
import Derived.Laws.BytesArg
import Derived.Laws.MakeOwn
import Derived.Laws.OwnMore
import Derived.Deep.OwnRows
import Derived.Tactics
import Derived.Lib.ConvBytes
import Derived.Laws.Slices
import Derived.WalkKit
import Derived.KernelRfl
import Derived.RowKit3
import Derived.Deep.LoopGhost
import Derived.Deep.QuietTactic
import Derived.BigQuiet
import Derived.WideLaws
import Derived.Deep.DeepCutAuto
import Derived.Deep.CutBlock
import Derived.Deep.RegionHeld3
import Derived.Laws.Rows
import Derived.Lib.AppendStr
import Derived.ArgAppend
import Derived.Laws.IdiomCopy
import Derived.OrdersHeld
import Derived.Laws.BitsLemmas
import Derived.RowKit
/- dovetailref08.turned, Shows, Leads: walked; in the print's form. -/
set_option linter.unusedVariables false
set_option linter.unusedSimpArgs false
namespace Go.Proofs.YtjkifeladmhkoaaDoor.E8
open Go.RowKit YtjkifeladmhkoaaDoorW.PrintWords YtjkifeladmhkoaaDoorW.PrintLast YtjkifeladmhkoaaDoorW.PrintMore
open B

def tl (r : Bool) (l : List Int) : List Int := if r = true then l.reverse else l
theorem tl_length (r : Bool) (l : List Int) : (tl r l).length = l.length := by unfold tl; split <;> simp
theorem tl_at (r : Bool) (l : List Int) (k : Nat) (h : k < l.length) : (tl r l).getD k 0 = rdE r l k := by
 cases r
 · rfl
 · show l.reverse.getD k 0 = l.getD (l.length - 1 - k) 0
   rw [getD_lt _ _ _ (by simpa using h), getD_lt _ _ _ (by omega), List.getElem_reverse]
theorem infoInt8 : (Tryd.prog.info? 3).map (fun i => (i.zero, i.size, i.bytes)) = some (some (.int .i64 0), 1, 8) := by kernel_rfl
theorem rev_step (l : List Int) (k : Nat) (h : k < l.length) : l.reverse.take (k + 1) = l.reverse.take k ++ [l.getD (l.length - 1 - k) 0] := by
 rw [List.take_succ_eq_append_getElem (by simpa using h), List.getElem_reverse, getD_lt _ _ _ (by omega)]
set_option maxHeartbeats 1500000 in
set_option maxRecDepth 100000 in
theorem Turned_calls (A : Option Addr) (c : Nat) (l : List Int) (r : Bool) (w : World) (hr : Kd.C (Kd.int .i64) w A l.length l) (hc : l.length ≤ c) (hl : l.length * 8 ≤ 140737488351232) :
 Calls Tryd.prog 97 #[.slice A l.length c, .bool r] w fun e w' => ∃ A' c', e = .returned (.slice A' l.length c') ∧ Aside0 (l.length ≤ c' ∧ Kd.C (Kd.int .i64) w' A' l.length (tl r l) ∧ Below w.heap.size w w') := by
 have hm := C_max hr
 cases r
 · have HR := Aside0.mk hr
   clear hr
   go_enter Tryd.func97, Tryd.ntmps97
   go_wp2_with fail
   go_ret
   exact ⟨A, c, rfl, ⟨hc, HR.out, Below.refl _ w⟩⟩
 · have HR := Aside0.mk hr
   have HL := Lib.hid hl
   clear hr hl
   go_enter Tryd.func97, Tryd.ntmps97
   go_wp2_with fail
   go_loopw [5, 6] (fun o i wr => ∃ k : Nat, k ≤ l.length ∧ i = .int .i64 ((l.length : Int) - 1 - (k : Int)) ∧ Aside0 (Below w.heap.size w wr ∧ Kd.R (Kd.int .i64) 3 wr w.heap.size (fun _ => True) o (l.reverse.take k))) (fun _ i _ => ((intOf i) + 1).toNat)
   case atStart => exact ⟨0, Nat.zero_le _, by simp, ⟨Below.refl _ w, Kd.R_nil _ _ _ _ _⟩⟩
   case round =>
    obtain ⟨k, hk, rfl, tr⟩ := hrel
    by_cases hlt : k < l.length
    · obtain ⟨ad, rfl, hx⟩ := Kd.at_int (Kd.C_below HR.out tr.out.1) ((l.length - 1 - k : Nat) : Int) (by omega) (by omega)
      rw [Int.toNat_natCast, rd_D] at hx
      have e0 : (l.length : Int) - 1 - (k : Int) = ((l.length - 1 - k : Nat) : Int) := by omega
      have hst := rev_step l k hlt
      generalize hv : l.getD (l.length - 1 - k) 0 = v at hx hst
      have HST := Lib.hid hst
      have HLEN := Lib.hid (show (l.reverse.take k).length = k by rw [List.length_take, List.length_reverse]; omega)
      clear hst hv
      rw [e0]
      have hq1 : l.length - 1 - k < l.length := by omega
      have hq2 : (0 : Int) ≤ ((l.length - 1 - k : Nat) : Int) := by omega
      have E0 := Lib.hid e0
      clear e0
      generalize hj : l.length - 1 - k = j at *
      go_wp2_with ((with_reducible refine gate_builtin (b := .append) (xs := #[.tmp 17, .tmp 22]) rfl ?_); at_builtin; go_loud (refine Kd.R_append (Kd.int .i64) (w0 := w) w.heap.size rfl (.tmp 17) (.tmp 22) 24 3 (.int .i64 0) 8 rfl Tryd.underlying24 infoInt8 rfl (by decide) (by decide) u5 (l.reverse.take k) v [.int .i64 v] (fun _ => True) (fun _ => False) rfl rfl rfl (fun _ hk => hk.elim) (fun _ _ => trivial) tr.out.2 tr.out.1 (below_size tr.out.1) ?aL ?_; (case aL => have := HL.out; have := HLEN.out; omega); intro v1 w5 hR hB hg hat'; have T5 := Aside0.mk (And.intro hB hR); clear hR hB hg hat'))
      go_roundw
      case measure => first | (simp [intOf]; done) | (simp [intOf]; omega)
      case rel => exact ⟨k + 1, hlt, by congr 1; omega, ⟨T5.out.1, by rw [HST.out]; exact T5.out.2⟩⟩
    · have hkn : k = l.length := by omega
      subst hkn
      have hlen : (l.reverse.take l.length).length = l.length := by rw [List.length_take, List.length_reverse]; omega
      obtain ⟨A', c', hv⟩ := Kd.R_slice tr.out.2
      rw [hlen] at hv
      subst hv
      obtain ⟨_, h1, h2⟩ := Kd.R_reads' tr.out.2
      have HC := Aside0.mk (show l.length ≤ c' ∧ Kd.C (Kd.int .i64) wr A' l.length (tl true l) from ⟨h1, by rw [hlen] at h2; rw [List.take_of_length_le (by simp)] at h2; exact h2⟩)
      have e0 : (l.length : Int) - 1 - (l.length : Int) = -1 := by omega
      rw [e0]
      clear h1 h2 hlen hk hlt e0
      go_wp2_with fail
      go_ret
      exact ⟨A', c', rfl, ⟨HC.out.1, HC.out.2, tr.out.1⟩⟩
theorem tl_cells {r : Bool} {l : List Int} {W : World} {A : Option Addr} (h : Kd.C (Kd.int .i64) W A l.length (tl r l)) (h0 : 0 < l.length) : ∃ a, A = some a ∧ W.cell? a = some (.int .i64 (rdE r l 0)) ∧ (1 < l.length → W.cell? (a.add 1) = some (.int .i64 (rdE r l 1))) := by
 have h' := h
 rw [← tl_length r l] at h'
 obtain ⟨a, e, hx⟩ := Kd.at_int h' 0 (Int.le_refl _) (by rw [tl_length]; omega)
 refine ⟨a, e, ?_, fun h1 => ?_⟩
 · have e0 : rd (tl r l) 0 = rdE r l 0 := by rw [← tl_at r l 0 h0]; rfl
   rw [e0] at hx
   have ea : a.add (Int.toNat 0) = a := rfl
   rwa [ea] at hx
 · obtain ⟨a', e', hx'⟩ := Kd.at_int h' 1 (by decide) (by rw [tl_length]; omega)
   obtain rfl := Option.some.inj (e.symm.trans e')
   have e0 : rd (tl r l) 1 = rdE r l 1 := by rw [← tl_at r l 1 h1]; rfl
   rw [e0] at hx'
   exact hx'
def showsB (r : Bool) (l : List Int) (tm : Int) : Bool := if 0 < l.length ∧ 0 ≤ rdE r l 0 then decide (rdE r l 0 = tm) else decide (1 < l.length) && decide (rdE r l 1 = tm)
def leadsB (r : Bool) (l : List Int) : Int := if 0 < l.length ∧ rdE r l 0 < 0 then -1 - rdE r l 0 else -1
set_option maxHeartbeats 1500000 in
set_option maxRecDepth 100000 in
theorem ShowsR_calls (x0 : Int) (A : Option Addr) (c : Nat) (l : List Int) (tm : Int) (r : Bool) (w : World) (hr : Kd.C (Kd.int .i64) w A l.length l) (hc : l.length ≤ c) (hl : l.length * 8 ≤ 140737488351232) :
 Calls Tryd.prog 70 #[.agg #[.int .i64 x0, .slice A l.length c], .int .i64 tm, .bool r] w fun e w' => e = .returned (.bool (showsB r l tm)) ∧ Below w.heap.size w w' := by
 have hb : Below w.heap.size w (w.alloc (.cells #[.int .i64 x0, .slice A l.length c] 41)) := (Below.refl _ w).alloc (Nat.le_refl _) _
 have KT := Aside0.mk (Turned_calls A c l r _ (Kd.C_below hr hb) hc hl)
 have HB := Aside0.mk hb
 have HL := Lib.hid hl
 clear hr hb hl
 by_cases h0 : 0 < l.length
 · have d0 : decide ((0 : Int) < (l.length : Int)) = true := decide_eq_true (by omega)
   have d0' : decide (0 < l.length) = true := decide_eq_true h0
   by_cases h1 : 0 ≤ rdE r l 0
   · have hq : showsB r l tm = decide (rdE r l 0 = tm) := if_pos ⟨h0, h1⟩
     rw [hq]
     clear hq
     have KC : Aside0 (∀ {W A'}, Kd.C (Kd.int .i64) W A' l.length (tl r l) → ∃ a, A' = some a ∧ W.cell? a = some (.int .i64 (rdE r l 0))) := ⟨fun h => by obtain ⟨a, e, g, _⟩ := tl_cells h h0; exact ⟨a, e, g⟩⟩
     generalize rdE r l 0 = v0 at h1 KC
     have d1 : decide ((0 : Int) ≤ v0) = true := decide_eq_true h1
     go_enter Tryd.func70, Tryd.ntmps70
     go_wp2_with (go_at_call 97; (with_reducible refine KT.out.mono ?_); rintro e w1 ⟨A', c', rfl, t1⟩; obtain ⟨a, rfl, g0⟩ := KC.out t1.out.2.1)
     go_ret
     exact ⟨rfl, HB.out.trans (t1.out.2.2.mono HB.out.size)⟩
   · have hq : showsB r l tm = (decide (1 < l.length) && decide (rdE r l 1 = tm)) := if_neg (fun h => h1 h.2)
     rw [hq]
     clear hq
     by_cases h2 : 1 < l.length
     · have KC : Aside0 (∀ {W A'}, Kd.C (Kd.int .i64) W A' l.length (tl r l) → ∃ a, A' = some a ∧ W.cell? a = some (.int .i64 (rdE r l 0)) ∧ W.cell? (a.add 1) = some (.int .i64 (rdE r l 1))) := ⟨fun h => by obtain ⟨a, e, g, g1⟩ := tl_cells h h0; exact ⟨a, e, g, g1 h2⟩⟩
       rw [decide_eq_true h2, Bool.true_and]
       generalize rdE r l 0 = v0 at h1 KC
       generalize rdE r l 1 = v1 at KC
       have d1 : decide ((0 : Int) ≤ v0) = false := decide_eq_false h1
       have d2 : decide ((1 : Int) < (l.length : Int)) = true := decide_eq_true (by omega)
       have d2' : decide (1 < l.length) = true := decide_eq_true h2
       have H1 := Lib.hid h1
       clear h1
       go_enter Tryd.func70, Tryd.ntmps70
       go_wp2_with (go_at_call 97; (with_reducible refine KT.out.mono ?_); rintro e w1 ⟨A', c', rfl, t1⟩; obtain ⟨a, rfl, g0, g1⟩ := KC.out t1.out.2.1; have g1 : w1.cell? { block := a.block, off := a.off + 1 } = some (.int .i64 v1) := g1)
       go_ret
       exact ⟨rfl, HB.out.trans (t1.out.2.2.mono HB.out.size)⟩
     · have KC : Aside0 (∀ {W A'}, Kd.C (Kd.int .i64) W A' l.length (tl r l) → ∃ a, A' = some a ∧ W.cell? a = some (.int .i64 (rdE r l 0))) := ⟨fun h => by obtain ⟨a, e, g, g1⟩ := tl_cells h h0; exact ⟨a, e, g⟩⟩
       rw [decide_eq_false h2, Bool.false_and]
       generalize rdE r l 0 = v0 at h1 KC
       have d1 : decide ((0 : Int) ≤ v0) = false := decide_eq_false h1
       have d2 : decide ((1 : Int) < (l.length : Int)) = false := decide_eq_false (by omega)
       have d2' : decide (1 < l.length) = false := decide_eq_false h2
       have H1 := Lib.hid h1
       have H2 := Lib.hid h2
       clear h1 h2
       go_enter Tryd.func70, Tryd.ntmps70
       go_wp2_with (go_at_call 97; (with_reducible refine KT.out.mono ?_); rintro e w1 ⟨A', c', rfl, t1⟩; obtain ⟨a, rfl, g0⟩ := KC.out t1.out.2.1)
       go_ret
       exact ⟨rfl, HB.out.trans (t1.out.2.2.mono HB.out.size)⟩
 · have hq : showsB r l tm = false := by unfold showsB; rw [if_neg (fun h => h0 h.1), decide_eq_false (by omega)]; rfl
   rw [hq]
   have d0 : decide ((0 : Int) < (l.length : Int)) = false := decide_eq_false (by omega)
   have d0' : decide (0 < l.length) = false := decide_eq_false h0
   have d2 : decide ((1 : Int) < (l.length : Int)) = false := decide_eq_false (by omega)
   have d2' : decide (1 < l.length) = false := decide_eq_false (by omega)
   have H0 := Lib.hid h0
   clear hq h0
   go_enter Tryd.func70, Tryd.ntmps70
   go_wp2_with (go_at_call 97; (with_reducible refine KT.out.mono ?_); rintro e w1 ⟨A', c', rfl, t1⟩)
   go_ret
   exact ⟨rfl, HB.out.trans (t1.out.2.2.mono HB.out.size)⟩
set_option maxHeartbeats 1500000 in
set_option maxRecDepth 100000 in
theorem LeadsR_calls (x0 : Int) (A : Option Addr) (c : Nat) (l : List Int) (r : Bool) (w : World) (hr : Kd.C (Kd.int .i64) w A l.length l) (hc : l.length ≤ c) (hl : l.length * 8 ≤ 140737488351232) (hlo : ∀ s ∈ l, (-9223372036854775808 : Int) ≤ s) :
 Calls Tryd.prog 72 #[.agg #[.int .i64 x0, .slice A l.length c], .bool r] w fun e w' => e = .returned (.int .i64 (leadsB r l)) ∧ Below w.heap.size w w' := by
 have hb : Below w.heap.size w (w.alloc (.cells #[.int .i64 x0, .slice A l.length c] 41)) := (Below.refl _ w).alloc (Nat.le_refl _) _
 have KT := Aside0.mk (Turned_calls A c l r _ (Kd.C_below hr hb) hc hl)
 have HB := Aside0.mk hb
 have HL := Lib.hid hl
 clear hr hb hl
 by_cases h0 : 0 < l.length
 · have d0 : decide ((0 : Int) < (l.length : Int)) = true := decide_eq_true (by omega)
   have d0' : decide (0 < l.length) = true := decide_eq_true h0
   have hv := hlo _ (rdE_mem (r := r) h0)
   have KC : Aside0 (∀ {W A'}, Kd.C (Kd.int .i64) W A' l.length (tl r l) → ∃ a, A' = some a ∧ W.cell? a = some (.int .i64 (rdE r l 0))) := ⟨fun h => by obtain ⟨a, e, g, g1⟩ := tl_cells h h0; exact ⟨a, e, g⟩⟩
   by_cases h1 : rdE r l 0 < 0
   · have hq : leadsB r l = -1 - rdE r l 0 := if_pos ⟨h0, h1⟩
     rw [hq]
     clear hq hlo
     generalize rdE r l 0 = v0 at h1 KC hv
     have d1 : decide (v0 < 0) = true := decide_eq_true h1
     go_enter Tryd.func72, Tryd.ntmps72
     go_wp2_with (go_at_call 97; (with_reducible refine KT.out.mono ?_); rintro e w1 ⟨A', c', rfl, t1⟩; obtain ⟨a, rfl, g0⟩ := KC.out t1.out.2.1)
     go_ret
     exact ⟨rfl, HB.out.trans (t1.out.2.2.mono HB.out.size)⟩
   · have hq : leadsB r l = -1 := if_neg (fun h => h1 h.2)
     rw [hq]
     clear hq hlo
     generalize rdE r l 0 = v0 at h1 KC hv
     have d1 : decide (v0 < 0) = false := decide_eq_false h1
     have H1 := Lib.hid h1
     clear h1
     go_enter Tryd.func72, Tryd.ntmps72
     go_wp2_with (go_at_call 97; (with_reducible refine KT.out.mono ?_); rintro e w1 ⟨A', c', rfl, t1⟩; obtain ⟨a, rfl, g0⟩ := KC.out t1.out.2.1)
     go_ret
     exact ⟨rfl, HB.out.trans (t1.out.2.2.mono HB.out.size)⟩
 · have hq : leadsB r l = -1 := if_neg (fun h => h0 h.1)
   rw [hq]
   have d0 : decide ((0 : Int) < (l.length : Int)) = false := decide_eq_false (by omega)
   have d0' : decide (0 < l.length) = false := decide_eq_false h0
   have H0 := Lib.hid h0
   clear hq h0 hlo
   go_enter Tryd.func72, Tryd.ntmps72
   go_wp2_with (go_at_call 97; (with_reducible refine KT.out.mono ?_); rintro e w1 ⟨A', c', rfl, t1⟩)
   go_ret
   exact ⟨rfl, HB.out.trans (t1.out.2.2.mono HB.out.size)⟩
def dovetailref08_Shows.f (a0_0 : Int) (l0_1 : List Int) (a1 : Int) (a2 : Bool) : Option Bool := if l0_1.length * 8 ≤ 140737488351232 then some (showsB a2 l0_1 a1) else none
theorem dovetailref08_Shows.calls (a0_0 : Int) (A0_1 : Option Addr) (c0_1 : Nat) (l0_1 : List Int) (a1 : Int) (a2 : Bool) (r : Bool) (w : World) (hr0_1 : Kd.C (Kd.int .i64) w A0_1 l0_1.length l0_1) (hc0_1 : l0_1.length ≤ c0_1) (h : dovetailref08_Shows.f a0_0 l0_1 a1 a2 = some r) :
 Calls Tryd.prog 70 #[.agg #[.int .i64 a0_0, .slice A0_1 l0_1.length c0_1], .int .i64 a1, .bool a2] w fun e w' => e = .returned (.bool r) ∧ Below w.heap.size w w' := by
 unfold dovetailref08_Shows.f at h
 split at h
 · rename_i hl
   obtain rfl := Option.some.inj h
   exact ShowsR_calls a0_0 A0_1 c0_1 l0_1 a1 a2 w hr0_1 hc0_1 hl
 · cases h
def dovetailref08_Leads.f (a0_0 : Int) (l0_1 : List Int) (a1 : Bool) : Option Int := if l0_1.length * 8 ≤ 140737488351232 ∧ l0_1.all (fun s => decide ((-9223372036854775808 : Int) ≤ s)) = true then some (leadsB a1 l0_1) else none
theorem dovetailref08_Leads.calls (a0_0 : Int) (A0_1 : Option Addr) (c0_1 : Nat) (l0_1 : List Int) (a1 : Bool) (r : Int) (w : World) (hr0_1 : Kd.C (Kd.int .i64) w A0_1 l0_1.length l0_1) (hc0_1 : l0_1.length ≤ c0_1) (h : dovetailref08_Leads.f a0_0 l0_1 a1 = some r) :
 Calls Tryd.prog 72 #[.agg #[.int .i64 a0_0, .slice A0_1 l0_1.length c0_1], .bool a1] w fun e w' => e = .returned (.int .i64 r) ∧ Below w.heap.size w w' := by
 unfold dovetailref08_Leads.f at h
 split at h
 · rename_i hl
   obtain rfl := Option.some.inj h
   exact LeadsR_calls a0_0 A0_1 c0_1 l0_1 a1 w hr0_1 hc0_1 hl.1 (fun s hs => of_decide_eq_true (List.all_eq_true.1 hl.2 s hs))
 · cases h
end Go.Proofs.YtjkifeladmhkoaaDoor.E8
namespace Go.Proofs.YtjkifeladmhkoaaDoor.Er
open B (S41 z41 k41 k41_open k41_mk rd_T41 at_T41 dovetailref03_Check.f dovetailref03_Check.calls dovetailref03_Check.mono)
open Go.RowKit YtjkifeladmhkoaaDoorW.PrintWords YtjkifeladmhkoaaDoorW.PrintLast YtjkifeladmhkoaaDoorW.PrintMore
attribute [local go_sem] max2_int min2_int max_two min_two max_three min_three max_four min_four   -- for this text's walks alone
set_option linter.unusedVariables false
set_option linter.unusedSimpArgs false



theorem info3 : (Tryd.prog.info? 3).map (fun i => (i.zero, i.size, i.bytes)) = some (some (.int .i64 0), 1, 8) := by kernel_rfl
theorem info4 : (Tryd.prog.info? 4).map (fun i => (i.zero, i.size, i.bytes)) = some (some (.bool false), 1, 1) := by kernel_rfl
theorem info24 : (Tryd.prog.info? 24).map (fun i => (i.zero, i.size, i.bytes)) = some (some (.slice none 0 0), 1, 24) := by kernel_rfl
def rd_L3 (xs : List (List Int)) (i : Int) : (List Int) := xs.getD i.toNat ([] : List Int)
theorem at_L3 {w : World} {A : Option Addr} {n : Nat} {xs : List (List Int)} (h : Kd.C (Kd.slice 3 (Kd.int .i64)) w A n xs) (i : Int) (h0 : 0 ≤ i) (h1 : i < n) : ∃ ad A0 c0, A = some ad ∧ w.cell? (ad.add i.toNat) = some (.slice A0 (rd_L3 xs i).length c0) ∧ (rd_L3 xs i).length ≤ c0 ∧ (Kd.int .i64).C w A0 (rd_L3 xs i).length (rd_L3 xs i) := by
 obtain ⟨ad, c, e, _, hK, hc0⟩ := Kd.C_get h ([] : List Int) i h0 h1
 have hc : ∀ j u, c[j]? = some u → w.cell? (ad.add (i.toNat * 1 + j)) = some u := hc0
 obtain ⟨A0, c0, rfl, l0, g0⟩ := hK
 exact ⟨ad, A0, c0, e, by have hq := hc 0 _ rfl; rwa [Nat.mul_one, Nat.add_zero] at hq, l0, g0⟩


end Go.Proofs.YtjkifeladmhkoaaDoor.Er
namespace Go.Proofs.YtjkifeladmhkoaaDoor.Er
open B (S41 z41 k41 k41_open k41_mk rd_T41 at_T41 dovetailref03_Check.f dovetailref03_Check.calls dovetailref03_Check.mono)
open E8 (dovetailref08_Shows.f dovetailref08_Shows.calls dovetailref08_Leads.f dovetailref08_Leads.calls)
open Go.RowKit YtjkifeladmhkoaaDoorW.PrintWords YtjkifeladmhkoaaDoorW.PrintLast YtjkifeladmhkoaaDoorW.PrintMore
attribute [local go_sem] max2_int min2_int max_two min_two max_three min_three max_four min_four   -- for this text's walks alone
set_option linter.unusedVariables false
set_option linter.unusedSimpArgs false

end Go.Proofs.YtjkifeladmhkoaaDoor.Er
namespace Go.Proofs.YtjkifeladmhkoaaDoor.Er
open B (S41 z41 k41 k41_open k41_mk rd_T41 at_T41 dovetailref03_Check.f dovetailref03_Check.calls dovetailref03_Check.mono)
open E8 (dovetailref08_Shows.f dovetailref08_Shows.calls dovetailref08_Leads.f dovetailref08_Leads.calls)
open Go.RowKit YtjkifeladmhkoaaDoorW.PrintWords YtjkifeladmhkoaaDoorW.PrintLast YtjkifeladmhkoaaDoorW.PrintMore
attribute [local go_sem] max2_int min2_int max_two min_two max_three min_three max_four min_four   -- for this text's walks alone
set_option linter.unusedVariables false
set_option linter.unusedSimpArgs false

def dovetailref08_with.f (l0 : List Int) (a1 : Int) : Option (List Int) := if ([] : List Int).length + l0.length < 17592186044416 then ((some (([] : List Int) ++ l0 : List Int)).bind fun y142 => (if y142.length < 17592186044416 then (some (y142 ++ [a1])) else (none))) else (none)
set_option maxHeartbeats 8000000 in
set_option maxRecDepth 100000 in
theorem dovetailref08_with.calls (A0 : Option Addr) (c0 : Nat) (l0 : List Int) (a1 : Int) (r : List Int) (w : World) (hr0 : Kd.C (Kd.int .i64) w A0 l0.length l0) (hc0 : l0.length ≤ c0) (h : dovetailref08_with.f l0 a1 = some r) :
 Calls Tryd.prog 71 #[.slice A0 l0.length c0, .int .i64 a1] w fun e w' => ∃ v0_ : Value, e = .returned (v0_) ∧ Kd.R (Kd.int .i64) 3 w' w.heap.size (fun _ => True) v0_ r ∧ Below w.heap.size w w' := by
 have HR0 := Aside0.mk hr0
 have HC0 := Aside0.mk hc0
 clear hr0 hc0
 have HB := Aside0.mk (Below.refl w.heap.size w)
 have H : (if ([] : List Int).length + l0.length < 17592186044416 then ((some (([] : List Int) ++ l0 : List Int)).bind fun y142 => (if y142.length < 17592186044416 then (some (y142 ++ [a1])) else (none))) else (none)) = some r := h
 clear h
 by_cases c3 : ([] : List Int).length + l0.length < 17592186044416
 · rw [if_pos c3] at H
   have LMc3 := Aside0.mk c3
   clear c3
   obtain ⟨y142, hy142⟩ : ∃ y_ : List Int, y_ = (([] : List Int) ++ l0) := ⟨_, rfl⟩
   replace H : (if y142.length < 17592186044416 then (some (y142 ++ [a1])) else (none)) = some r := by first | (rw [hy142]; with_reducible exact H) | (have H2_ := (Option.bind_some _ _).symm.trans H; rw [hy142]; with_reducible exact H2_) | (have H2_ := (Option.bind_some _ _).symm.trans H; with_reducible exact H2_) | with_reducible exact H | (rw [hy142]; exact H) | exact H
   have Ny142 := Aside0.mk hy142
   clear hy142
   by_cases c4 : y142.length < 17592186044416
   · rw [if_pos c4] at H
     have LMc4 := Aside0.mk c4
     clear c4
     obtain ⟨y145, hy145⟩ : ∃ y_ : List Int, y_ = (y142 ++ [a1]) := ⟨_, rfl⟩
     replace H : (some y145) = some r := by first | (rw [hy145]; with_reducible exact H) | (have H2_ := (Option.bind_some _ _).symm.trans H; rw [hy145]; with_reducible exact H2_) | (have H2_ := (Option.bind_some _ _).symm.trans H; with_reducible exact H2_) | with_reducible exact H | (rw [hy145]; exact H) | exact H
     have Ny145 := Aside0.mk hy145
     clear hy145
     obtain rfl := Option.some.inj H
     go_enter Tryd.func71, Tryd.ntmps71
     go_wp2_with (first | ((with_reducible refine gate_builtin (b := .append) (xs := #[.tmp 6, .tmp 7]) rfl ?_); at_builtin; refine Kd.R_append_rows (Kd.int .i64) (w0 := w) w.heap.size rfl (.tmp 6) (.tmp 7) 24 3 (.int .i64 0) 8 rfl Tryd.underlying24 info3 rfl (by decide) (by omega) (.slice none 0 0) ([] : List Int) l0 _ _ _ (fun _ => True) (fun _ => False) rfl rfl ?aO ?aR (fun _ _ h => h) (fun _ h => h.elim) ?aF ?aB ?aS ?aL ?_; (case aR => repeat (first | exact HR0.out | (with_reducible refine Kd.C_alloc ?_ _) | (with_reducible refine Kd.C_drewN ?_ _) | (with_reducible refine Kd.C_drew ?_))); (case aB => exact (by repeat (first | (with_reducible first | exact HB.out | apply below_alloc | apply pw_below_drewN | apply below_drew1) | exact HB.out))); (case aF => exact (fun _ _ => trivial)); (case aO => exact ((Kd.R_nil _ _ _ _ (fun _ => True)))); (case aS => exact (below_size (by repeat (first | (with_reducible first | exact HB.out | apply below_alloc | apply pw_below_drewN | apply below_drew1) | exact HB.out)))); (case aL => have := LMc3.out; omega); intro v143 w5 ho hb hg hat; rw [← Ny142.out] at ho; have n0_ := Aside0.mk (hb); have n1_ := Aside0.mk (ho); clear HB; have HB := n0_; have HO144 := n1_; clear n0_ n1_; clear ho hb hg hat) | ((with_reducible refine gate_builtin (b := .append) (xs := #[.tmp 9, .tmp 11]) rfl ?_); at_builtin; refine Kd.R_append (Kd.int .i64) (w0 := w) w.heap.size rfl (.tmp 9) (.tmp 11) 24 3 (.int .i64 0) 8 rfl Tryd.underlying24 info3 rfl (by decide) (by omega) v143 y142 a1 [.int .i64 a1] (fun _ => True) (fun _ => False) rfl rfl ?aP (fun _ hk => hk.elim) ?aF ?aO ?aB ?aS ?aL ?_; (case aP => exact rfl); (case aB => exact (by repeat (first | (with_reducible first | exact HB.out | apply below_alloc | apply pw_below_drewN | apply below_drew1) | exact HB.out))); (case aF => exact (fun _ _ => trivial)); (case aO => exact (by (with_reducible repeat (first | apply Kd.R_alloc | apply Kd.R_drewN | apply Kd.R_drew)); exact HO144.out)); (case aS => exact (below_size (by repeat (first | (with_reducible first | exact HB.out | apply below_alloc | apply pw_below_drewN | apply below_drew1) | exact HB.out)))); (case aL => have := LMc4.out; omega); intro v146 w6 ho hb hg hat; rw [← Ny145.out] at ho; have n0_ := Aside0.mk (hb); have n1_ := Aside0.mk (ho); clear HB; clear HO144; have HB := n0_; have HO147 := n1_; clear n0_ n1_; clear ho hb hg hat))
     go_ret
     exact ⟨_, by first | rfl | (simp [errW_none, errW_some] <;> rfl) | (simp [*, errW_none, errW_some] <;> rfl), by (with_reducible repeat (first | apply Kd.R_alloc | apply Kd.R_drewN | apply Kd.R_drew)); exact HO147.out, by repeat (first | (with_reducible first | exact HB.out | apply below_alloc | apply pw_below_drewN | apply below_drew1) | exact HB.out)⟩
   · rw [if_neg c4] at H
     exact absurd H (by simp)
 · rw [if_neg c3] at H
   exact absurd H (by simp)

end Go.Proofs.YtjkifeladmhkoaaDoor.Er
/- The document's sets of chapter 8, in plain Lean: those that ends.Of tells. -/
namespace Go.Proofs.YtjkifeladmhkoaaDoor.E8
open Go.RowKit YtjkifeladmhkoaaDoorW.PrintWords YtjkifeladmhkoaaDoorW.PrintLast YtjkifeladmhkoaaDoorW.PrintMore
open B Er

def cntE : List Bool → Nat
 | [] => 0
 | b :: l => (if b = true then 1 else 0) + cntE l
theorem cntE_le : ∀ l : List Bool, cntE l ≤ l.length
 | [] => Nat.le_refl _
 | b :: l => by
  have := cntE_le l
  unfold cntE
  rw [List.length_cons]
  split <;> omega
theorem cntE_set : ∀ (l : List Bool) (m : Nat), m < l.length → l.getD m false = false → cntE (l.set m true) = cntE l + 1
 | [], m, h, _ => by simp at h
 | b :: l, 0, _, h => by
  have hb : b = false := by simpa using h
  subst hb
  simp [cntE]; omega
 | b :: l, m + 1, h, h0 => by
  have := cntE_set l m (by simpa using h) (by simpa using h0)
  rw [List.set_cons_succ]
  unfold cntE
  rw [this]; omega
theorem rdE_B (l : List Bool) (i : Nat) : rdOf false l (i : Int) = l.getD i false := by simp [rdOf]
theorem showsB_iff (r : Bool) (l : List Int) (t : Nat) : showsB r l (t : Int) = decide (shw r l = some t) := by
 unfold showsB shw
 by_cases c : 0 < l.length ∧ 0 ≤ rdE r l 0
 · rw [if_pos c, if_pos c]
   rw [decide_eq_decide]
   constructor
   · intro h; rw [h]; rfl
   · intro h; have := Option.some.inj h; omega
 · rw [if_neg c, if_neg c]
   by_cases c1 : 1 < l.length
   · rw [decide_eq_true c1, Bool.true_and]
     by_cases c2 : 0 ≤ rdE r l 1
     · rw [if_pos ⟨c1, c2⟩, decide_eq_decide]
       constructor
       · intro h; rw [h]; rfl
       · intro h; have := Option.some.inj h; omega
     · rw [if_neg (fun h => c2 h.2), decide_eq_false (by omega)]; rfl
   · rw [decide_eq_false c1, Bool.false_and, if_neg (fun h => c1 h.1)]; rfl
theorem leadsB_is (r : Bool) (l : List Int) : leadsB r l = match led r l with | some m => (m : Int) | none => -1 := by
 unfold leadsB led
 by_cases c : 0 < l.length ∧ rdE r l 0 < 0
 · rw [if_pos c, if_pos c]; dsimp only; rw [Int.toNat_of_nonneg (by omega)]
 · rw [if_neg c, if_neg c]
theorem shows_f {t n : Nat} {x : S41} (h : okR t n x = true) (r : Bool) (q : Nat) : dovetailref08_Shows.f x.f0 x.f1 (q : Int) r = some (decide (shw r x.f1 = some q)) := by
 have := (okR_sides h).1
 unfold dovetailref08_Shows.f
 rw [if_pos (by omega), showsB_iff]
theorem leads_f {t n : Nat} (hn : n ≤ 60) {x : S41} (h : okR t n x = true) (r : Bool) : dovetailref08_Leads.f x.f0 x.f1 r = some (match led r x.f1 with | some m => (m : Int) | none => -1) := by
 have h1 := (okR_sides h).1
 have hs := (okR_sides h).2.2.2
 unfold dovetailref08_Leads.f
 rw [if_pos ⟨by omega, List.all_eq_true.2 fun s hh => decide_eq_true (by have := (hs s hh).2; omega)⟩, leadsB_is]
def ShutE (R : List S41) (r : Bool) (t : Nat) (seen : List Bool) (v : Int) : Prop := ∀ x ∈ R, x.f0 = v → shw r x.f1 ≠ some t ∧ ∀ m, led r x.f1 = some m → seen.getD m false = true
theorem ShutE.mono {R : List S41} {r : Bool} {t : Nat} {seen : List Bool} {v : Int} (h : ShutE R r t seen v) (m : Nat) : ShutE R r t (seen.set m true) v := by
 intro x hx hv
 refine ⟨(h x hx hv).1, fun q hq => ?_⟩
 have := (h x hx hv).2 q hq
 rw [getD_set]
 split
 · rfl
 · exact this
section
variable {R : List S41} {r : Bool} {tt n f t : Nat} {l0 l1 : List ByteArray} {a2 : Int}
end
section
variable {R : List S41} {r : Bool} {l0 l1 : List ByteArray} {a2 : Int} {S : List Int}
end
end Go.Proofs.YtjkifeladmhkoaaDoor.E8
/- (ends.reading).shows, (ends.reading).leads: once for each of the two readings. -/
namespace Go.Proofs.YtjkifeladmhkoaaDoor.E8
open Go.RowKit YtjkifeladmhkoaaDoorW.PrintWords YtjkifeladmhkoaaDoorW.PrintLast YtjkifeladmhkoaaDoorW.PrintMore
open B

def fv (r : Bool) : Value := if r = true then .func (.func 83) #[] #[] else .func (.func 84) #[] #[]
theorem From1_calls (l : List Int) (k : Nat) (A : Option Addr) (c : Nat) (w : World) (hr : Kd.C (Kd.int .i64) w A l.length l) (hk : k < l.length) :
 Calls Tryd.prog 83 #[.slice A l.length c, .int .i64 (k : Int)] w fun e w' => e = .returned (.int .i64 (rdE true l k)) ∧ Below w.heap.size w w' := by
 have hm := C_max hr
 have hw : wrap64 ((l.length : Int) - 1) = ((l.length - 1 : Nat) : Int) := by unfold wrap64; omega
 have hw2 : wrap64 (((l.length - 1 : Nat) : Int) - (k : Int)) = ((l.length - 1 - k : Nat) : Int) := by unfold wrap64; omega
 obtain ⟨ad, rfl, hx⟩ := Kd.at_int hr ((l.length - 1 - k : Nat) : Int) (by omega) (by omega)
 rw [Int.toNat_natCast, rd_D] at hx
 have hq : rdE true l k = l.getD (l.length - 1 - k) 0 := rfl
 rw [hq]
 have h1 : ((l.length - 1 - k : Nat) : Int) < (l.length : Int) := by omega
 generalize l.getD (l.length - 1 - k) 0 = v at hx
 clear hq hr
 go_enter Tryd.func83, Tryd.ntmps83
 go_wp2_with fail
 go_ret
 exact ⟨rfl, Below.refl _ w⟩
theorem From2_calls (l : List Int) (k : Nat) (A : Option Addr) (c : Nat) (w : World) (hr : Kd.C (Kd.int .i64) w A l.length l) (hk : k < l.length) :
 Calls Tryd.prog 84 #[.slice A l.length c, .int .i64 (k : Int)] w fun e w' => e = .returned (.int .i64 (rdE false l k)) ∧ Below w.heap.size w w' := by
 have hm := C_max hr
 obtain ⟨ad, rfl, hx⟩ := Kd.at_int hr (k : Int) (by omega) (by omega)
 rw [Int.toNat_natCast, rd_D] at hx
 have hq : rdE false l k = l.getD k 0 := rfl
 rw [hq]
 have h1 : (k : Int) < (l.length : Int) := by omega
 generalize l.getD k 0 = v at hx
 clear hq hr
 go_enter Tryd.func84, Tryd.ntmps84
 go_wp2_with fail
 go_ret
 exact ⟨rfl, Below.refl _ w⟩
def shV (r : Bool) (l : List Int) : Int × Bool := match shw r l with | some t => ((t : Int), true) | none => (0, false)
def leV (r : Bool) (l : List Int) : Int × Bool := match led r l with | some t => ((t : Int), true) | none => (0, false)
theorem shV_at {r : Bool} {l : List Int} {k : Nat} (hk : k < min l.length 2) (h : ∀ j, j < k → rdE r l j < 0) (h0 : 0 ≤ rdE r l k) : shV r l = (rdE r l k, true) := by
 unfold shV shw
 match k, hk with
 | 0, hk => rw [if_pos ⟨by omega, h0⟩]; simp only; rw [Int.toNat_of_nonneg h0]
 | 1, hk =>
  have := h 0 (by omega)
  rw [if_neg (fun hh => by omega), if_pos ⟨by omega, h0⟩]; simp only; rw [Int.toNat_of_nonneg h0]
 | k + 2, hk => omega
theorem shV_no {r : Bool} {l : List Int} (h : ∀ j, j < min l.length 2 → rdE r l j < 0) : shV r l = (0, false) := by
 unfold shV shw
 rw [if_neg (fun hh => by have := h 0 (by omega); omega), if_neg (fun hh => by have := h 1 (by omega); omega)]
set_option maxRecDepth 100000 in
theorem Shows1_calls (l : List Int) (A : Option Addr) (c : Nat) (w : World) (hr : Kd.C (Kd.int .i64) w A l.length l) :
 Calls Tryd.prog 54 #[fv true, .slice A l.length c] w fun e w' => e = .returned (.tuple #[.int .i64 (shV true l).1, .bool (shV true l).2]) ∧ Below w.heap.size w w' := by
 have hF : ∀ (W : World), Below w.heap.size w W → ∀ k, k < l.length → Calls Tryd.prog 83 #[.slice A l.length c, .int .i64 (k : Int)] W fun e w' => e = .returned (.int .i64 (rdE true l k)) ∧ Aside0 (Below w.heap.size w w') := fun W hW k hk => (From1_calls l k A c W (Kd.C_below hr hW) hk).mono fun _ _ h => ⟨h.1, ⟨hW.trans (h.2.mono hW.size)⟩⟩
 have HF := Aside0.mk hF
 have hm := C_max hr
 obtain ⟨sv, hsv⟩ : ∃ sv, sv = shV true l := ⟨_, rfl⟩
 rw [← hsv]
 have HSV := Lib.hid hsv
 clear hF hr hsv
 unfold fv
 rw [if_pos rfl]
 go_enter Tryd.func54, Tryd.ntmps54
 go_wp2_with fail
 go_loopw [6, 7, 11] (fun _ _ i wr => ∃ k : Nat, k ≤ min l.length 2 ∧ i = .int .i64 k ∧ Hid (∀ j, j < k → rdE true l j < 0) ∧ Aside0 (Below w.heap.size w wr)) (fun _ _ i _ => min l.length 2 - (intOf i).toNat)
 case atStart => exact ⟨0, Nat.zero_le _, rfl, Lib.hid (fun j hj => by omega), ⟨Below.refl _ w⟩⟩
 case round =>
  obtain ⟨k, hk, rfl, hno, hbe⟩ := hrel
  by_cases hlt : k < min l.length 2
  · have hc := HF.out wr hbe.out k (by omega)
    have hlt2 : (k : Int) < min (l.length : Int) 2 := by omega
    by_cases hs : 0 ≤ rdE true l k
    · have hv := shV_at hlt hno.out hs
      rw [← HSV.out] at hv
      generalize rdE true l k = s at hc hs hv
      have HC := Aside0.mk hc
      have HV := Lib.hid hv
      clear hc hv HSV hno
      go_wp2_with (go_at_call 83; (with_reducible refine HC.out.mono ?_); rintro e w1 ⟨rfl, t1⟩)
      go_ret2
      exact ⟨by rw [HV.out]; rfl, t1.out⟩
    · have hs' : rdE true l k < 0 := by omega
      have hno' := Lib.hid (show ∀ j, j < k + 1 → rdE true l j < 0 from fun j hj => by
       rcases Nat.lt_or_ge j k with h | h
       · exact hno.out j h
       · obtain rfl : j = k := by omega
         exact hs')
      generalize rdE true l k = s at hc hs hs'
      have HC := Aside0.mk hc
      clear hc hno
      go_wp2_with (go_at_call 83; (with_reducible refine HC.out.mono ?_); rintro e w1 ⟨rfl, t1⟩)
      go_roundw
      case measure => simp [intOf]; omega
      case rel => exact ⟨k + 1, by omega, rfl, hno', t1⟩
  · have hv := shV_no (r := true) (l := l) (fun j hj => hno.out j (by omega))
    rw [← HSV.out] at hv
    obtain rfl : sv = _ := hv
    have hlt2 : ¬ (k : Int) < min (l.length : Int) 2 := by omega
    clear HSV hno
    go_wp2_with fail
    go_ret2
    exact ⟨rfl, hbe.out⟩
set_option maxRecDepth 100000 in
theorem Shows2_calls (l : List Int) (A : Option Addr) (c : Nat) (w : World) (hr : Kd.C (Kd.int .i64) w A l.length l) :
 Calls Tryd.prog 54 #[fv false, .slice A l.length c] w fun e w' => e = .returned (.tuple #[.int .i64 (shV false l).1, .bool (shV false l).2]) ∧ Below w.heap.size w w' := by
 have hF : ∀ (W : World), Below w.heap.size w W → ∀ k, k < l.length → Calls Tryd.prog 84 #[.slice A l.length c, .int .i64 (k : Int)] W fun e w' => e = .returned (.int .i64 (rdE false l k)) ∧ Aside0 (Below w.heap.size w w') := fun W hW k hk => (From2_calls l k A c W (Kd.C_below hr hW) hk).mono fun _ _ h => ⟨h.1, ⟨hW.trans (h.2.mono hW.size)⟩⟩
 have HF := Aside0.mk hF
 have hm := C_max hr
 obtain ⟨sv, hsv⟩ : ∃ sv, sv = shV false l := ⟨_, rfl⟩
 rw [← hsv]
 have HSV := Lib.hid hsv
 clear hF hr hsv
 unfold fv
 rw [if_neg (by decide)]
 go_enter Tryd.func54, Tryd.ntmps54
 go_wp2_with fail
 go_loopw [6, 7, 11] (fun _ _ i wr => ∃ k : Nat, k ≤ min l.length 2 ∧ i = .int .i64 k ∧ Hid (∀ j, j < k → rdE false l j < 0) ∧ Aside0 (Below w.heap.size w wr)) (fun _ _ i _ => min l.length 2 - (intOf i).toNat)
 case atStart => exact ⟨0, Nat.zero_le _, rfl, Lib.hid (fun j hj => by omega), ⟨Below.refl _ w⟩⟩
 case round =>
  obtain ⟨k, hk, rfl, hno, hbe⟩ := hrel
  by_cases hlt : k < min l.length 2
  · have hc := HF.out wr hbe.out k (by omega)
    have hlt2 : (k : Int) < min (l.length : Int) 2 := by omega
    by_cases hs : 0 ≤ rdE false l k
    · have hv := shV_at hlt hno.out hs
      rw [← HSV.out] at hv
      generalize rdE false l k = s at hc hs hv
      have HC := Aside0.mk hc
      have HV := Lib.hid hv
      clear hc hv HSV hno
      go_wp2_with (go_at_call 84; (with_reducible refine HC.out.mono ?_); rintro e w1 ⟨rfl, t1⟩)
      go_ret2
      exact ⟨by rw [HV.out]; rfl, t1.out⟩
    · have hs' : rdE false l k < 0 := by omega
      have hno' := Lib.hid (show ∀ j, j < k + 1 → rdE false l j < 0 from fun j hj => by
       rcases Nat.lt_or_ge j k with h | h
       · exact hno.out j h
       · obtain rfl : j = k := by omega
         exact hs')
      generalize rdE false l k = s at hc hs hs'
      have HC := Aside0.mk hc
      clear hc hno
      go_wp2_with (go_at_call 84; (with_reducible refine HC.out.mono ?_); rintro e w1 ⟨rfl, t1⟩)
      go_roundw
      case measure => simp [intOf]; omega
      case rel => exact ⟨k + 1, by omega, rfl, hno', t1⟩
  · have hv := shV_no (r := false) (l := l) (fun j hj => hno.out j (by omega))
    rw [← HSV.out] at hv
    obtain rfl : sv = _ := hv
    have hlt2 : ¬ (k : Int) < min (l.length : Int) 2 := by omega
    clear HSV hno
    go_wp2_with fail
    go_ret2
    exact ⟨rfl, hbe.out⟩
theorem Shows_calls (r : Bool) (l : List Int) (A : Option Addr) (c : Nat) (w : World) (hr : Kd.C (Kd.int .i64) w A l.length l) :
 Calls Tryd.prog 54 #[fv r, .slice A l.length c] w fun e w' => e = .returned (.tuple #[.int .i64 (shV r l).1, .bool (shV r l).2]) ∧ Below w.heap.size w w' := by
 cases r
 · exact Shows2_calls l A c w hr
 · exact Shows1_calls l A c w hr
set_option maxRecDepth 100000 in
theorem Leads1_calls (l : List Int) (A : Option Addr) (c : Nat) (w : World) (hr : Kd.C (Kd.int .i64) w A l.length l) (hx : ∀ s ∈ l, -9223372036854775808 ≤ s) :
 Calls Tryd.prog 55 #[fv true, .slice A l.length c] w fun e w' => e = .returned (.tuple #[.int .i64 (leV true l).1, .bool (leV true l).2]) ∧ Below w.heap.size w w' := by
 have hF : 0 < l.length → ∀ (W : World), Below w.heap.size w W → Calls Tryd.prog 83 #[.slice A l.length c, .int .i64 0] W fun e w' => e = .returned (.int .i64 (rdE true l 0)) ∧ Aside0 (Below w.heap.size w w') := fun h0 W hW => (From1_calls l 0 A c W (Kd.C_below hr hW) h0).mono fun _ _ h => ⟨h.1, ⟨hW.trans (h.2.mono hW.size)⟩⟩
 have hm := C_max hr
 have hb := Below.refl w.heap.size w
 by_cases h0 : 0 < l.length
 · have hF := hF h0
   have hne : ((l.length : Int) == 0) = false := beq_eq_false_iff_ne.2 (by omega)
   have hne' : ¬ ((l.length : Int) = 0) := by omega
   have hge := hx _ (rdE_mem (r := true) (k := 0) h0)
   by_cases hs : 0 ≤ rdE true l 0
   · have hv : leV true l = (0, false) := by unfold leV led; rw [if_neg (fun hh => by omega)]
     rw [hv]
     generalize rdE true l 0 = s at hF hs
     have HF := Aside0.mk hF
     have HB := Aside0.mk hb
     clear hF hr hv hx hb hge
     unfold fv
     rw [if_pos rfl]
     go_enter Tryd.func55, Tryd.ntmps55
     go_wp2_with (go_at_call 83; (with_reducible refine (HF.out _ HB.out).mono ?_); rintro e w1 ⟨rfl, t1⟩)
     go_ret2
     exact ⟨rfl, t1.out⟩
   · have hv : leV true l = (-1 - rdE true l 0, true) := by unfold leV led; rw [if_pos ⟨h0, by omega⟩]; simp only; rw [Int.toNat_of_nonneg (by omega)]
     rw [hv]
     have hs' : rdE true l 0 < 0 := by omega
     generalize rdE true l 0 = s at hF hs hs' hge ⊢
     have HF := Aside0.mk hF
     have HB := Aside0.mk hb
     clear hF hr hv hx hb
     unfold fv
     rw [if_pos rfl]
     go_enter Tryd.func55, Tryd.ntmps55
     go_wp2_with (first
      | (go_at_call 83; (with_reducible refine (HF.out _ t1.out).mono ?_); rintro e w2 ⟨rfl, t2⟩)
      | (go_at_call 83; (with_reducible refine (HF.out _ HB.out).mono ?_); rintro e w1 ⟨rfl, t1⟩))
     go_ret2
     exact ⟨rfl, t2.out⟩
 · have hv : leV true l = (0, false) := by unfold leV led; rw [if_neg (fun hh => h0 hh.1)]
   rw [hv]
   have h0' : l.length = 0 := by omega
   rw [h0']
   clear hF hr hv hx hm h0 h0'
   unfold fv
   rw [if_pos rfl]
   go_enter Tryd.func55, Tryd.ntmps55
   go_wp2_with fail
   go_ret2
   exact ⟨rfl, hb⟩
set_option maxRecDepth 100000 in
theorem Leads2_calls (l : List Int) (A : Option Addr) (c : Nat) (w : World) (hr : Kd.C (Kd.int .i64) w A l.length l) (hx : ∀ s ∈ l, -9223372036854775808 ≤ s) :
 Calls Tryd.prog 55 #[fv false, .slice A l.length c] w fun e w' => e = .returned (.tuple #[.int .i64 (leV false l).1, .bool (leV false l).2]) ∧ Below w.heap.size w w' := by
 have hF : 0 < l.length → ∀ (W : World), Below w.heap.size w W → Calls Tryd.prog 84 #[.slice A l.length c, .int .i64 0] W fun e w' => e = .returned (.int .i64 (rdE false l 0)) ∧ Aside0 (Below w.heap.size w w') := fun h0 W hW => (From2_calls l 0 A c W (Kd.C_below hr hW) h0).mono fun _ _ h => ⟨h.1, ⟨hW.trans (h.2.mono hW.size)⟩⟩
 have hm := C_max hr
 have hb := Below.refl w.heap.size w
 by_cases h0 : 0 < l.length
 · have hF := hF h0
   have hne : ((l.length : Int) == 0) = false := beq_eq_false_iff_ne.2 (by omega)
   have hne' : ¬ ((l.length : Int) = 0) := by omega
   have hge := hx _ (rdE_mem (r := false) (k := 0) h0)
   by_cases hs : 0 ≤ rdE false l 0
   · have hv : leV false l = (0, false) := by unfold leV led; rw [if_neg (fun hh => by omega)]
     rw [hv]
     generalize rdE false l 0 = s at hF hs
     have HF := Aside0.mk hF
     have HB := Aside0.mk hb
     clear hF hr hv hx hb hge
     unfold fv
     rw [if_neg (by decide)]
     go_enter Tryd.func55, Tryd.ntmps55
     go_wp2_with (go_at_call 84; (with_reducible refine (HF.out _ HB.out).mono ?_); rintro e w1 ⟨rfl, t1⟩)
     go_ret2
     exact ⟨rfl, t1.out⟩
   · have hv : leV false l = (-1 - rdE false l 0, true) := by unfold leV led; rw [if_pos ⟨h0, by omega⟩]; simp only; rw [Int.toNat_of_nonneg (by omega)]
     rw [hv]
     have hs' : rdE false l 0 < 0 := by omega
     generalize rdE false l 0 = s at hF hs hs' hge ⊢
     have HF := Aside0.mk hF
     have HB := Aside0.mk hb
     clear hF hr hv hx hb
     unfold fv
     rw [if_neg (by decide)]
     go_enter Tryd.func55, Tryd.ntmps55
     go_wp2_with (first
      | (go_at_call 84; (with_reducible refine (HF.out _ t1.out).mono ?_); rintro e w2 ⟨rfl, t2⟩)
      | (go_at_call 84; (with_reducible refine (HF.out _ HB.out).mono ?_); rintro e w1 ⟨rfl, t1⟩))
     go_ret2
     exact ⟨rfl, t2.out⟩
 · have hv : leV false l = (0, false) := by unfold leV led; rw [if_neg (fun hh => h0 hh.1)]
   rw [hv]
   have h0' : l.length = 0 := by omega
   rw [h0']
   clear hF hr hv hx hm h0 h0'
   unfold fv
   rw [if_neg (by decide)]
   go_enter Tryd.func55, Tryd.ntmps55
   go_wp2_with fail
   go_ret2
   exact ⟨rfl, hb⟩
theorem Leads_calls (r : Bool) (l : List Int) (A : Option Addr) (c : Nat) (w : World) (hr : Kd.C (Kd.int .i64) w A l.length l) (hx : ∀ s ∈ l, -9223372036854775808 ≤ s) :
 Calls Tryd.prog 55 #[fv r, .slice A l.length c] w fun e w' => e = .returned (.tuple #[.int .i64 (leV r l).1, .bool (leV r l).2]) ∧ Below w.heap.size w w' := by
 cases r
 · exact Leads2_calls l A c w hr hx
 · exact Leads1_calls l A c w hr hx
end Go.Proofs.YtjkifeladmhkoaaDoor.E8
/- (ends.reading).shows, (ends.reading).leads in the print's form; a reading shows as a whole number (not 0: from the right). -/
namespace Go.Proofs.YtjkifeladmhkoaaDoor.E8
open Go.RowKit YtjkifeladmhkoaaDoorW.PrintWords YtjkifeladmhkoaaDoorW.PrintLast YtjkifeladmhkoaaDoorW.PrintMore
open B

def fvI (a : Int) : Value := fv (decide (a ≠ 0))
def ends_reading_shows.f (a : Int) (l : List Int) : Option (Int × Bool) := some (shV (decide (a ≠ 0)) l)
def ends_reading_leads.f (a : Int) (l : List Int) : Option (Int × Bool) := if l.all (fun s => decide (-9223372036854775808 ≤ s)) = true then some (leV (decide (a ≠ 0)) l) else none
theorem ends_reading_shows.calls (a : Int) (A : Option Addr) (c : Nat) (l : List Int) (r1 : Int) (r2 : Bool) (w : World) (hr : Kd.C (Kd.int .i64) w A l.length l) (hc : l.length ≤ c) (h : ends_reading_shows.f a l = some (r1, r2)) :
 Calls Tryd.prog 54 #[fvI a, .slice A l.length c] w fun e w' => e = .returned (.tuple #[.int .i64 r1, .bool r2]) ∧ Below w.heap.size w w' := by
 have h' := Option.some.inj h
 have := Shows_calls (decide (a ≠ 0)) l A c w hr
 rw [h'] at this
 exact this
theorem ends_reading_leads.calls (a : Int) (A : Option Addr) (c : Nat) (l : List Int) (r1 : Int) (r2 : Bool) (w : World) (hr : Kd.C (Kd.int .i64) w A l.length l) (hc : l.length ≤ c) (h : ends_reading_leads.f a l = some (r1, r2)) :
 Calls Tryd.prog 55 #[fvI a, .slice A l.length c] w fun e w' => e = .returned (.tuple #[.int .i64 r1, .bool r2]) ∧ Below w.heap.size w w' := by
 unfold ends_reading_leads.f at h
 split at h
 · rename_i hl
   have h' := Option.some.inj h
   have := Leads_calls (decide (a ≠ 0)) l A c w hr (fun s hs => of_decide_eq_true (List.all_eq_true.1 hl s hs))
   rw [h'] at this
   exact this
 · cases h
end Go.Proofs.YtjkifeladmhkoaaDoor.E8
namespace Go.Proofs.YtjkifeladmhkoaaDoor.Es
open B (S41 z41 k41 k41_open k41_mk rd_T41 at_T41)
open Go.RowKit YtjkifeladmhkoaaDoorW.PrintWords YtjkifeladmhkoaaDoorW.PrintLast YtjkifeladmhkoaaDoorW.PrintMore
attribute [local go_sem] max2_int min2_int max_two min_two max_three min_three max_four min_four   -- for this text's walks alone
set_option linter.unusedVariables false
set_option linter.unusedSimpArgs false



theorem info45 : (Tryd.prog.info? 45).map (fun i => (i.zero, i.size, i.bytes)) = some (some (.int .u64 0), 1, 8) := by kernel_rfl

end Go.Proofs.YtjkifeladmhkoaaDoor.Es
namespace Go.Proofs.YtjkifeladmhkoaaDoor.Es
open E8 (fv ends_reading_shows.f ends_reading_shows.calls ends_reading_leads.f ends_reading_leads.calls fvI)
open B (S41 z41 k41 k41_open k41_mk rd_T41 at_T41)
open Go.RowKit YtjkifeladmhkoaaDoorW.PrintWords YtjkifeladmhkoaaDoorW.PrintLast YtjkifeladmhkoaaDoorW.PrintMore
attribute [local go_sem] max2_int min2_int max_two min_two max_three min_three max_four min_four   -- for this text's walks alone
set_option linter.unusedVariables false
set_option linter.unusedSimpArgs false

mutual
def ends_sets.l0 : Nat → Int → List Int → Bool → List ByteArray → List ByteArray → Int → List (S41) → Option (List Int)
 | 0, _, _, _, _, _, _, _ => none
 | k + 1, x1, x5, x6, x105000, x105001, x105002, x105003 => if x6 = true then (ends_sets.l1 k x1 x5 false x105003 (x105003.length : Int) 0 x105000 x105001 x105002 x105003) else (some x5)
def ends_sets.l1 : Nat → Int → List Int → Bool → List (S41) → Int → Int → List ByteArray → List ByteArray → Int → List (S41) → Option (List Int)
 | 0, _, _, _, _, _, _, _, _, _, _ => none
 | k + 1, x1, x5, x6, x20, x21, x22, x105000, x105001, x105002, x105003 => if x22 < x21 then (if 0 ≤ x22 then (if x22 < (x20.length : Int) then (if 0 ≤ ((rd_T41 x20 x22).f0) then (if ((rd_T41 x20 x22).f0) < (x5.length : Int) then ((ends_reading_shows.f x1 ((rd_T41 x20 x22).f1)).bind fun bt111 => (if bt111.2 = true then (if 0 ≤ bt111.1 then ((ends_reading_leads.f x1 ((rd_T41 x20 x22).f1)).bind fun bt113 => (if bt113.2 = true then (if 0 ≤ bt113.1 then (if bt113.1 < (x5.length : Int) then (if x6 = true then (ends_sets.l1 k x1 (x5.set (((rd_T41 x20 x22).f0) : Int).toNat (Go.bits .or .u64 (Go.bits .or .u64 (rd x5 ((rd_T41 x20 x22).f0)) (shl .u64 1 bt111.1)) (rd x5 bt113.1))) true x20 x21 (wrap64 (x22 + 1)) x105000 x105001 x105002 x105003) else (ends_sets.l1 k x1 (x5.set (((rd_T41 x20 x22).f0) : Int).toNat (Go.bits .or .u64 (Go.bits .or .u64 (rd x5 ((rd_T41 x20 x22).f0)) (shl .u64 1 bt111.1)) (rd x5 bt113.1))) ((Go.bits .or .u64 (Go.bits .or .u64 (rd x5 ((rd_T41 x20 x22).f0)) (shl .u64 1 bt111.1)) (rd x5 bt113.1)) != (rd x5 ((rd_T41 x20 x22).f0))) x20 x21 (wrap64 (x22 + 1)) x105000 x105001 x105002 x105003)) else (none)) else (none)) else (if x6 = true then (ends_sets.l1 k x1 (x5.set (((rd_T41 x20 x22).f0) : Int).toNat (Go.bits .or .u64 (rd x5 ((rd_T41 x20 x22).f0)) (shl .u64 1 bt111.1))) true x20 x21 (wrap64 (x22 + 1)) x105000 x105001 x105002 x105003) else (ends_sets.l1 k x1 (x5.set (((rd_T41 x20 x22).f0) : Int).toNat (Go.bits .or .u64 (rd x5 ((rd_T41 x20 x22).f0)) (shl .u64 1 bt111.1))) ((Go.bits .or .u64 (rd x5 ((rd_T41 x20 x22).f0)) (shl .u64 1 bt111.1)) != (rd x5 ((rd_T41 x20 x22).f0))) x20 x21 (wrap64 (x22 + 1)) x105000 x105001 x105002 x105003)))) else (none)) else ((ends_reading_leads.f x1 ((rd_T41 x20 x22).f1)).bind fun bt122 => (if bt122.2 = true then (if 0 ≤ bt122.1 then (if bt122.1 < (x5.length : Int) then (if x6 = true then (ends_sets.l1 k x1 (x5.set (((rd_T41 x20 x22).f0) : Int).toNat (Go.bits .or .u64 (rd x5 ((rd_T41 x20 x22).f0)) (rd x5 bt122.1))) true x20 x21 (wrap64 (x22 + 1)) x105000 x105001 x105002 x105003) else (ends_sets.l1 k x1 (x5.set (((rd_T41 x20 x22).f0) : Int).toNat (Go.bits .or .u64 (rd x5 ((rd_T41 x20 x22).f0)) (rd x5 bt122.1))) ((Go.bits .or .u64 (rd x5 ((rd_T41 x20 x22).f0)) (rd x5 bt122.1)) != (rd x5 ((rd_T41 x20 x22).f0))) x20 x21 (wrap64 (x22 + 1)) x105000 x105001 x105002 x105003)) else (none)) else (none)) else (if x6 = true then (ends_sets.l1 k x1 (x5.set (((rd_T41 x20 x22).f0) : Int).toNat (rd x5 ((rd_T41 x20 x22).f0))) true x20 x21 (wrap64 (x22 + 1)) x105000 x105001 x105002 x105003) else (ends_sets.l1 k x1 (x5.set (((rd_T41 x20 x22).f0) : Int).toNat (rd x5 ((rd_T41 x20 x22).f0))) ((rd x5 ((rd_T41 x20 x22).f0)) != (rd x5 ((rd_T41 x20 x22).f0))) x20 x21 (wrap64 (x22 + 1)) x105000 x105001 x105002 x105003)))))) else (none)) else (none)) else (none)) else (none)) else (ends_sets.l0 k x1 x5 x6 x105000 x105001 x105002 x105003)
end
def ends_sets.f (k : Nat) (l0_0 : List ByteArray) (l0_1 : List ByteArray) (a0_2 : Int) (l0_3 : List (S41)) (a1 : Int) : Option (List Int) := if 0 ≤ (l0_1.length : Int) then (if ((l0_1.length : Int) : Int).toNat ≤ 35184372088832 then (ends_sets.l0 k a1 (List.replicate ((l0_1.length : Int) : Int).toNat 0) true l0_0 l0_1 a0_2 l0_3) else (none)) else (none)
theorem ends_sets.mono_l : ∀ k, (∀ y0 y1 y2 y3 y4 y5 y6, LeO (ends_sets.l0 k y0 y1 y2 y3 y4 y5 y6) (ends_sets.l0 (k + 1) y0 y1 y2 y3 y4 y5 y6)) ∧ (∀ y0 y1 y2 y3 y4 y5 y6 y7 y8 y9, LeO (ends_sets.l1 k y0 y1 y2 y3 y4 y5 y6 y7 y8 y9) (ends_sets.l1 (k + 1) y0 y1 y2 y3 y4 y5 y6 y7 y8 y9))
 | 0 => ⟨fun _ _ _ _ _ _ _ r h => by simp [ends_sets.l0] at h, fun _ _ _ _ _ _ _ _ _ _ r h => by simp [ends_sets.l1] at h⟩
 | k + 1 => by
  obtain ⟨ih0, ih1⟩ := ends_sets.mono_l k
  refine ⟨?_, ?_⟩
  · intro y0 y1 y2 y3 y4 y5 y6
    unfold ends_sets.l0
    repeat' first
    | (with_reducible exact ih0 _ _ _ _ _ _ _)
    | (with_reducible exact ih1 _ _ _ _ _ _ _ _ _ _)
    | (with_reducible exact LeO.refl _)
    | (with_reducible exact LeO.none _)
    | (with_reducible refine LeO.ite ?_ ?_)
    | (with_reducible refine LeO.bind ?_ (fun _ => ?_))
    | exact ih0 _ _ _ _ _ _ _
    | exact ih1 _ _ _ _ _ _ _ _ _ _
    | exact LeO.none _
    | refine LeO.ite ?_ ?_
    | refine LeO.bind ?_ (fun _ => ?_)
  · intro y0 y1 y2 y3 y4 y5 y6 y7 y8 y9
    unfold ends_sets.l1
    repeat' first
    | (with_reducible exact ih0 _ _ _ _ _ _ _)
    | (with_reducible exact ih1 _ _ _ _ _ _ _ _ _ _)
    | (with_reducible exact LeO.refl _)
    | (with_reducible exact LeO.none _)
    | (with_reducible refine LeO.ite ?_ ?_)
    | (with_reducible refine LeO.bind ?_ (fun _ => ?_))
    | exact ih0 _ _ _ _ _ _ _
    | exact ih1 _ _ _ _ _ _ _ _ _ _
    | exact LeO.none _
    | refine LeO.ite ?_ ?_
    | refine LeO.bind ?_ (fun _ => ?_)
theorem ends_sets.mono : ∀ a0 a1 a2 a3 a4 k, LeO (ends_sets.f k a0 a1 a2 a3 a4) (ends_sets.f (k + 1) a0 a1 a2 a3 a4) := by
 intro a0 a1 a2 a3 a4 k
 obtain ⟨ih0, ih1⟩ := ends_sets.mono_l k
 unfold ends_sets.f
 repeat' first
  | (with_reducible exact ih0 _ _ _ _ _ _ _)
  | (with_reducible exact ih1 _ _ _ _ _ _ _ _ _ _)
  | (with_reducible exact LeO.refl _)
  | (with_reducible exact LeO.none _)
  | (with_reducible refine LeO.ite ?_ ?_)
  | (with_reducible refine LeO.bind ?_ (fun _ => ?_))
  | exact ih0 _ _ _ _ _ _ _
  | exact ih1 _ _ _ _ _ _ _ _ _ _
  | exact LeO.none _
  | refine LeO.ite ?_ ?_
  | refine LeO.bind ?_ (fun _ => ?_)
set_option maxHeartbeats 8000000 in
set_option maxRecDepth 100000 in
theorem ends_sets.calls (k : Nat) (A0_0 : Option Addr) (c0_0 : Nat) (l0_0 : List ByteArray) (A0_1 : Option Addr) (c0_1 : Nat) (l0_1 : List ByteArray) (a0_2 : Int) (A0_3 : Option Addr) (c0_3 : Nat) (l0_3 : List (S41)) (a1 : Int) (r : List Int) (w : World) (hr0_0 : Kd.C Kd.string w A0_0 l0_0.length l0_0) (hc0_0 : l0_0.length ≤ c0_0) (hr0_1 : Kd.C Kd.string w A0_1 l0_1.length l0_1) (hc0_1 : l0_1.length ≤ c0_1) (hr0_3 : Kd.C k41 w A0_3 l0_3.length l0_3) (hc0_3 : l0_3.length ≤ c0_3) (h : ends_sets.f k l0_0 l0_1 a0_2 l0_3 a1 = some r) :
 Calls Tryd.prog 59 #[.agg #[.slice A0_0 l0_0.length c0_0, .slice A0_1 l0_1.length c0_1, .int .i64 a0_2, .slice A0_3 l0_3.length c0_3], fvI a1] w fun e w' => ∃ v0_ : Value, e = .returned (v0_) ∧ Kd.R (Kd.int .u64) 45 w' w.heap.size (fun _ => True) v0_ r ∧ Below w.heap.size w w' := by
 have hu32 := Tryd.underlying32
 have hu41 := Tryd.underlying41
 have HR0_0 := Aside0.mk hr0_0
 have HC0_0 := Aside0.mk hc0_0
 clear hr0_0 hc0_0
 have HR0_1 := Aside0.mk hr0_1
 have HC0_1 := Aside0.mk hc0_1
 clear hr0_1 hc0_1
 have HR0_3 := Aside0.mk hr0_3
 have HC0_3 := Aside0.mk hc0_3
 clear hr0_3 hc0_3
 have HB := Aside0.mk (Below.refl w.heap.size w)
 have H : (if 0 ≤ (l0_1.length : Int) then (if ((l0_1.length : Int) : Int).toNat ≤ 35184372088832 then (ends_sets.l0 k a1 (List.replicate ((l0_1.length : Int) : Int).toNat 0) true l0_0 l0_1 a0_2 l0_3) else (none)) else (none)) = some r := h
 clear h
 by_cases c3 : 0 ≤ (l0_1.length : Int)
 · rw [if_pos c3] at H
   have c3b0 := eq_true c3
   have c3b1 : decide (0 ≤ (l0_1.length : Int)) = true := decide_eq_true c3
   clear c3
   by_cases c4 : ((l0_1.length : Int) : Int).toNat ≤ 35184372088832
   · rw [if_pos c4] at H
     have c4b0 := eq_true c4
     have c4b1 : decide (((l0_1.length : Int) : Int).toNat ≤ 35184372088832) = true := decide_eq_true c4
     clear c4
     obtain ⟨y105, hy105⟩ : ∃ y_ : List Int, y_ = (List.replicate ((l0_1.length : Int) : Int).toNat 0) := ⟨_, rfl⟩
     replace H : (ends_sets.l0 k a1 y105 true l0_0 l0_1 a0_2 l0_3) = some r := by first | (rw [hy105]; with_reducible exact H) | (have H2_ := (Option.bind_some _ _).symm.trans H; rw [hy105]; with_reducible exact H2_) | (have H2_ := (Option.bind_some _ _).symm.trans H; with_reducible exact H2_) | with_reducible exact H | (rw [hy105]; exact H) | exact H
     have Ny105 := Aside0.mk hy105
     clear hy105
     have H' := Aside0.mk H
     clear H
     go_enter Tryd.func59, Tryd.ntmps59
     go_wp2_with (first | ((with_reducible refine gate_dst (N := 2) rfl ?_); refine box_event ?hg (N := 2) ?hd (cs := #[.slice A0_0 l0_0.length c0_0, .slice A0_1 l0_1.length c0_1, .int .i64 a0_2, .slice A0_3 l0_3.length c0_3]) (t := 32) ?hr ?_; (case hd => rfl); (case hg => rfl); (case hr => first | (go_simp; done) | (go_simp; rfl)); intro gb104 hg w5 hbox hb; have n0_ := Aside0.mk (below_step (by repeat (first | (with_reducible first | exact HB.out | apply below_alloc | apply pw_below_drewN | apply below_drew1) | exact HB.out)) hb); have n1_ := Aside0.mk (hbox); have n2_ := Aside0.mk ((by rw [hg]; exact (below_size (by repeat (first | (with_reducible first | exact HB.out | apply below_alloc | apply pw_below_drewN | apply below_drew1) | exact HB.out))) : w.heap.size ≤ gb104)); have n3_ := Aside0.mk ((by rw [hg]; exact (below_size (by repeat (first | (with_reducible first | exact HB.out | apply below_alloc | apply pw_below_drewN | apply below_drew1) | exact HB.out))) : w.heap.size ≤ gb104)); clear HB; have HB := n0_; have BK104 := n1_; have GW104 := n2_; have GE104 := n3_; clear n0_ n1_ n2_ n3_; clear hb hbox hg; have hcz6_0 : w5.cell? ⟨gb104, 0, none⟩ = some (.slice A0_0 l0_0.length c0_0) := (blk_cell BK104.out 0).trans rfl; have hcz6_1 : w5.cell? ⟨gb104, 1, none⟩ = some (.slice A0_1 l0_1.length c0_1) := (blk_cell BK104.out 1).trans rfl; have hcz6_2 : w5.cell? ⟨gb104, 2, none⟩ = some (.int .i64 a0_2) := (blk_cell BK104.out 2).trans rfl; have hcz6_3 : w5.cell? ⟨gb104, 3, none⟩ = some (.slice A0_3 l0_3.length c0_3) := (blk_cell BK104.out 3).trans rfl; have hfz6_0 := blk_frozen BK104.out 0; have hfz6_1 := blk_frozen BK104.out 1; have hfz6_2 := blk_frozen BK104.out 2; have hfz6_3 := blk_frozen BK104.out 3) | ((with_reducible refine gate_dst (N := 17) rfl ?_); refine Kd.R_make (Kd.int .u64) _ 45 rfl (N := 17) rfl 34 _ _ rfl (l0_1.length : Int) rfl rfl Tryd.underlying34 (.int .u64 0) 8 info45 rfl (by decide) (by omega) 0 (ok := fun _ => True) (okp := fun _ => True) rfl (fun _ hk => hk) trivial (of_decide_eq_true (by first | (with_reducible assumption) | assumption)) (Nat.le_trans (Nat.mul_le_mul_right _ (of_decide_eq_true (by first | (with_reducible assumption) | assumption) : (l0_1.length : Int).toNat ≤ 35184372088832)) (by omega)) (Below.refl _ _) (Nat.le_refl _) ?_; intro v106 w7 ho8 hb hg_ hnew_; clear hg_ hnew_; (first | rw [← Ny105.out] at ho8 | (simp only [Int.reduceToNat] at ho8; rw [← Ny105.out] at ho8)); have n0_ := Aside0.mk (Kd.R_lower ho8 (below_size (by repeat (first | (with_reducible first | exact HB.out | apply below_alloc | apply pw_below_drewN | apply below_drew1 | refine below_set ?_ GE104.out) | exact HB.out)))); have n1_ := Aside0.mk (blk_below (g := gb104) (o := .cells #[.slice A0_0 l0_0.length c0_0, .slice A0_1 l0_1.length c0_1, .int .i64 a0_2, .slice A0_3 l0_3.length c0_3] 32 (0, 0)) (by (with_reducible repeat (first | refine blk_drewN ?_ _ | refine blk_drew ?_ | refine blk_alloc ?_ _)); exact BK104.out) hb); have n2_ := Aside0.mk (below_step (by repeat (first | (with_reducible first | exact HB.out | apply below_alloc | apply pw_below_drewN | apply below_drew1 | refine below_set ?_ GE104.out) | exact HB.out)) hb); clear BK104; clear HB; have HO107 := n0_; have BK104 := n1_; have HB := n2_; clear n0_ n1_ n2_; clear hb ho8))
     go_loopg [6] k (fun kq v6 w' => ∃ (x5_1 : List Int) (x6_1 : Bool), v6 = .bool x6_1 ∧ Aside0 (ends_sets.l0 kq a1 x5_1 x6_1 l0_0 l0_1 a0_2 l0_3 = some r) ∧ Aside0 (kq ≤ k) ∧ Aside0 (Kd.R (Kd.int .u64) 45 w' w.heap.size (fun _ => True) v106 x5_1) ∧ Aside0 (w'.heap[gb104]? = some (.cells #[(.slice A0_0 l0_0.length c0_0), (.slice A0_1 l0_1.length c0_1), .int .i64 a0_2, (.slice A0_3 l0_3.length c0_3)] 32 (0, 0))) ∧ Aside0 (Below w.heap.size w w'))
     case atStart => exact ⟨(y105), (true), (by first | rfl | (simp; done) | (simp [*]; done)), H', ⟨Nat.le_refl _⟩, ⟨by (with_reducible repeat (first | apply Kd.R_alloc | apply Kd.R_drewN | apply Kd.R_drew)); exact HO107.out⟩, ⟨by (with_reducible repeat (first | refine blk_drewN ?_ _ | refine blk_drew ?_ | refine blk_alloc ?_ _)); exact BK104.out⟩, ⟨by repeat (first | (with_reducible first | exact HB.out | apply below_alloc | apply pw_below_drewN | apply below_drew1 | refine below_set ?_ GE104.out) | exact HB.out)⟩⟩
     case round =>
      clear H'
      try clear p2
      try clear c3
      try clear c3b0
      try clear c3b1
      try clear c4
      try clear c4b0
      try clear c4b1
      try clear c5
      try clear hcz6_0
      try clear hcz6_1
      try clear hcz6_2
      try clear hcz6_3
      try clear hfz6_0
      try clear hfz6_1
      try clear hfz6_2
      try clear hfz6_3
      obtain ⟨x5_1, x6_1, rfl, HA, HK1, HO_5, BK104, HB⟩ := hrel
      cases gk with
      | zero => exact absurd HA.out (by simp [ends_sets.l0])
      | succ k1 =>
       have H := HA.out
       clear HA
       simp only [ends_sets.l0] at H
       by_cases c9 : x6_1 = true
       · subst c9
         have H1 : (ends_sets.l1 k1 a1 x5_1 false l0_3 (l0_3.length : Int) 0 l0_0 l0_1 a0_2 l0_3) = some r := by rw [if_pos rfl] at H; exact H
         clear H
         have H := H1
         clear H1
         have H' := Aside0.mk H
         clear H
         have hcz10_0 : wr.cell? ⟨gb104, 0, none⟩ = some (.slice A0_0 l0_0.length c0_0) := (blk_cell BK104.out 0).trans rfl
         have hcz10_1 : wr.cell? ⟨gb104, 1, none⟩ = some (.slice A0_1 l0_1.length c0_1) := (blk_cell BK104.out 1).trans rfl
         have hcz10_2 : wr.cell? ⟨gb104, 2, none⟩ = some (.int .i64 a0_2) := (blk_cell BK104.out 2).trans rfl
         have hcz10_3 : wr.cell? ⟨gb104, 3, none⟩ = some (.slice A0_3 l0_3.length c0_3) := (blk_cell BK104.out 3).trans rfl
         have hfz10_0 := blk_frozen BK104.out 0
         have hfz10_1 := blk_frozen BK104.out 1
         have hfz10_2 := blk_frozen BK104.out 2
         have hfz10_3 := blk_frozen BK104.out 3
         go_wp2
         go_loopg [6, 22] k1 (fun kq v6 v22 w' => ∃ (x5_2 : List Int) (x6_2 : Bool) (x22_2 : Int), v6 = .bool x6_2 ∧ v22 = .int .i64 x22_2 ∧ Aside0 (ends_sets.l1 kq a1 x5_2 x6_2 l0_3 (l0_3.length : Int) x22_2 l0_0 l0_1 a0_2 l0_3 = some r) ∧ Aside0 (kq ≤ k1) ∧ Aside0 (Kd.R (Kd.int .u64) 45 w' w.heap.size (fun _ => True) v106 x5_2) ∧ Aside0 (w'.heap[gb104]? = some (.cells #[(.slice A0_0 l0_0.length c0_0), (.slice A0_1 l0_1.length c0_1), .int .i64 a0_2, (.slice A0_3 l0_3.length c0_3)] 32 (0, 0))) ∧ Aside0 (Below w.heap.size w w'))
         case atStart => exact ⟨(x5_1), (false), (0), (by first | rfl | (simp; done) | (simp [*]; done)), (by first | rfl | (simp; done) | (simp [*]; done)), H', ⟨Nat.le_refl _⟩, ⟨by (with_reducible repeat (first | apply Kd.R_alloc | apply Kd.R_drewN | apply Kd.R_drew)); exact HO_5.out⟩, ⟨by (with_reducible repeat (first | refine blk_drewN ?_ _ | refine blk_drew ?_ | refine blk_alloc ?_ _)); exact BK104.out⟩, ⟨by repeat (first | (with_reducible first | exact HB.out | apply below_alloc | apply pw_below_drewN | apply below_drew1 | refine below_set ?_ GE104.out) | exact HB.out)⟩⟩
         case round =>
          clear H'
          try clear p2
          try clear c3
          try clear c3b0
          try clear c3b1
          try clear c4
          try clear c4b0
          try clear c4b1
          try clear c5
          try clear c9
          try clear hcz10_0
          try clear hcz10_1
          try clear hcz10_2
          try clear hcz10_3
          try clear hcz6_0
          try clear hcz6_1
          try clear hcz6_2
          try clear hcz6_3
          try clear hfz10_0
          try clear hfz10_1
          try clear hfz10_2
          try clear hfz10_3
          try clear hfz6_0
          try clear hfz6_1
          try clear hfz6_2
          try clear hfz6_3
          try clear p2
          obtain ⟨x5_2, x6_2, x22_2, rfl, rfl, HA, HK2, HO_5, BK104, HB⟩ := hrel
          cases gk with
          | zero => exact absurd HA.out (by simp [ends_sets.l1])
          | succ k2 =>
           have H := HA.out
           clear HA
           simp only [ends_sets.l1] at H
           by_cases c11 : x22_2 < (l0_3.length : Int)
           · rw [if_pos c11] at H
             have c11b0 : decide (x22_2 < (l0_3.length : Int)) = true := decide_eq_true c11
             clear c11
             by_cases c12 : 0 ≤ x22_2
             · rw [if_pos c12] at H
               have c12b0 : decide (0 ≤ x22_2) = true := decide_eq_true c12
               clear c12
               by_cases c13 : x22_2 < (l0_3.length : Int)
               · rw [if_pos c13] at H
                 have c13b0 : decide (x22_2 < (l0_3.length : Int)) = true := decide_eq_true c13
                 clear c13
                 by_cases c14 : 0 ≤ ((rd_T41 l0_3 x22_2).f0)
                 · rw [if_pos c14] at H
                   have c14b0 : decide (0 ≤ ((rd_T41 l0_3 x22_2).f0)) = true := decide_eq_true c14
                   clear c14
                   by_cases c15 : ((rd_T41 l0_3 x22_2).f0) < (x5_2.length : Int)
                   · rw [if_pos c15] at H
                     have c15b0 : decide (((rd_T41 l0_3 x22_2).f0) < (x5_2.length : Int)) = true := decide_eq_true c15
                     clear c15
                     replace H := Option.bind_eq_some_iff.mp H
                     obtain ⟨⟨t111, t112⟩, A160, H⟩ := H
                     replace H : (if t112 = true then (if 0 ≤ t111 then ((ends_reading_leads.f a1 ((rd_T41 l0_3 x22_2).f1)).bind fun bt113 => (if bt113.2 = true then (if 0 ≤ bt113.1 then (if bt113.1 < (x5_2.length : Int) then (if x6_2 = true then (ends_sets.l1 k2 a1 (x5_2.set (((rd_T41 l0_3 x22_2).f0) : Int).toNat (Go.bits .or .u64 (Go.bits .or .u64 (rd x5_2 ((rd_T41 l0_3 x22_2).f0)) (shl .u64 1 t111)) (rd x5_2 bt113.1))) true l0_3 (l0_3.length : Int) (wrap64 (x22_2 + 1)) l0_0 l0_1 a0_2 l0_3) else (ends_sets.l1 k2 a1 (x5_2.set (((rd_T41 l0_3 x22_2).f0) : Int).toNat (Go.bits .or .u64 (Go.bits .or .u64 (rd x5_2 ((rd_T41 l0_3 x22_2).f0)) (shl .u64 1 t111)) (rd x5_2 bt113.1))) ((Go.bits .or .u64 (Go.bits .or .u64 (rd x5_2 ((rd_T41 l0_3 x22_2).f0)) (shl .u64 1 t111)) (rd x5_2 bt113.1)) != (rd x5_2 ((rd_T41 l0_3 x22_2).f0))) l0_3 (l0_3.length : Int) (wrap64 (x22_2 + 1)) l0_0 l0_1 a0_2 l0_3)) else (none)) else (none)) else (if x6_2 = true then (ends_sets.l1 k2 a1 (x5_2.set (((rd_T41 l0_3 x22_2).f0) : Int).toNat (Go.bits .or .u64 (rd x5_2 ((rd_T41 l0_3 x22_2).f0)) (shl .u64 1 t111))) true l0_3 (l0_3.length : Int) (wrap64 (x22_2 + 1)) l0_0 l0_1 a0_2 l0_3) else (ends_sets.l1 k2 a1 (x5_2.set (((rd_T41 l0_3 x22_2).f0) : Int).toNat (Go.bits .or .u64 (rd x5_2 ((rd_T41 l0_3 x22_2).f0)) (shl .u64 1 t111))) ((Go.bits .or .u64 (rd x5_2 ((rd_T41 l0_3 x22_2).f0)) (shl .u64 1 t111)) != (rd x5_2 ((rd_T41 l0_3 x22_2).f0))) l0_3 (l0_3.length : Int) (wrap64 (x22_2 + 1)) l0_0 l0_1 a0_2 l0_3)))) else (none)) else ((ends_reading_leads.f a1 ((rd_T41 l0_3 x22_2).f1)).bind fun bt122 => (if bt122.2 = true then (if 0 ≤ bt122.1 then (if bt122.1 < (x5_2.length : Int) then (if x6_2 = true then (ends_sets.l1 k2 a1 (x5_2.set (((rd_T41 l0_3 x22_2).f0) : Int).toNat (Go.bits .or .u64 (rd x5_2 ((rd_T41 l0_3 x22_2).f0)) (rd x5_2 bt122.1))) true l0_3 (l0_3.length : Int) (wrap64 (x22_2 + 1)) l0_0 l0_1 a0_2 l0_3) else (ends_sets.l1 k2 a1 (x5_2.set (((rd_T41 l0_3 x22_2).f0) : Int).toNat (Go.bits .or .u64 (rd x5_2 ((rd_T41 l0_3 x22_2).f0)) (rd x5_2 bt122.1))) ((Go.bits .or .u64 (rd x5_2 ((rd_T41 l0_3 x22_2).f0)) (rd x5_2 bt122.1)) != (rd x5_2 ((rd_T41 l0_3 x22_2).f0))) l0_3 (l0_3.length : Int) (wrap64 (x22_2 + 1)) l0_0 l0_1 a0_2 l0_3)) else (none)) else (none)) else (if x6_2 = true then (ends_sets.l1 k2 a1 (x5_2.set (((rd_T41 l0_3 x22_2).f0) : Int).toNat (rd x5_2 ((rd_T41 l0_3 x22_2).f0))) true l0_3 (l0_3.length : Int) (wrap64 (x22_2 + 1)) l0_0 l0_1 a0_2 l0_3) else (ends_sets.l1 k2 a1 (x5_2.set (((rd_T41 l0_3 x22_2).f0) : Int).toNat (rd x5_2 ((rd_T41 l0_3 x22_2).f0))) ((rd x5_2 ((rd_T41 l0_3 x22_2).f0)) != (rd x5_2 ((rd_T41 l0_3 x22_2).f0))) l0_3 (l0_3.length : Int) (wrap64 (x22_2 + 1)) l0_0 l0_1 a0_2 l0_3))))) = some r := H
                     have A16 := Aside0.mk A160
                     clear A160
                     by_cases c17 : t112 = true
                     · subst c17
                       have H1 : (if 0 ≤ t111 then ((ends_reading_leads.f a1 ((rd_T41 l0_3 x22_2).f1)).bind fun bt113 => (if bt113.2 = true then (if 0 ≤ bt113.1 then (if bt113.1 < (x5_2.length : Int) then (if x6_2 = true then (ends_sets.l1 k2 a1 (x5_2.set (((rd_T41 l0_3 x22_2).f0) : Int).toNat (Go.bits .or .u64 (Go.bits .or .u64 (rd x5_2 ((rd_T41 l0_3 x22_2).f0)) (shl .u64 1 t111)) (rd x5_2 bt113.1))) true l0_3 (l0_3.length : Int) (wrap64 (x22_2 + 1)) l0_0 l0_1 a0_2 l0_3) else (ends_sets.l1 k2 a1 (x5_2.set (((rd_T41 l0_3 x22_2).f0) : Int).toNat (Go.bits .or .u64 (Go.bits .or .u64 (rd x5_2 ((rd_T41 l0_3 x22_2).f0)) (shl .u64 1 t111)) (rd x5_2 bt113.1))) ((Go.bits .or .u64 (Go.bits .or .u64 (rd x5_2 ((rd_T41 l0_3 x22_2).f0)) (shl .u64 1 t111)) (rd x5_2 bt113.1)) != (rd x5_2 ((rd_T41 l0_3 x22_2).f0))) l0_3 (l0_3.length : Int) (wrap64 (x22_2 + 1)) l0_0 l0_1 a0_2 l0_3)) else (none)) else (none)) else (if x6_2 = true then (ends_sets.l1 k2 a1 (x5_2.set (((rd_T41 l0_3 x22_2).f0) : Int).toNat (Go.bits .or .u64 (rd x5_2 ((rd_T41 l0_3 x22_2).f0)) (shl .u64 1 t111))) true l0_3 (l0_3.length : Int) (wrap64 (x22_2 + 1)) l0_0 l0_1 a0_2 l0_3) else (ends_sets.l1 k2 a1 (x5_2.set (((rd_T41 l0_3 x22_2).f0) : Int).toNat (Go.bits .or .u64 (rd x5_2 ((rd_T41 l0_3 x22_2).f0)) (shl .u64 1 t111))) ((Go.bits .or .u64 (rd x5_2 ((rd_T41 l0_3 x22_2).f0)) (shl .u64 1 t111)) != (rd x5_2 ((rd_T41 l0_3 x22_2).f0))) l0_3 (l0_3.length : Int) (wrap64 (x22_2 + 1)) l0_0 l0_1 a0_2 l0_3)))) else (none)) = some r := by rw [if_pos rfl] at H; exact H
                       clear H
                       have H := H1
                       clear H1
                       by_cases c18 : 0 ≤ t111
                       · rw [if_pos c18] at H
                         have c18b0 := eq_true c18
                         have c18b1 : decide (0 ≤ t111) = true := decide_eq_true c18
                         clear c18
                         obtain ⟨ji19, hji19⟩ : ∃ j_ : Int, (shl .u64 1 t111) = j_ := ⟨_, rfl⟩
                         replace H : ((ends_reading_leads.f a1 ((rd_T41 l0_3 x22_2).f1)).bind fun bt113 => (if bt113.2 = true then (if 0 ≤ bt113.1 then (if bt113.1 < (x5_2.length : Int) then (if x6_2 = true then (ends_sets.l1 k2 a1 (x5_2.set (((rd_T41 l0_3 x22_2).f0) : Int).toNat (Go.bits .or .u64 (Go.bits .or .u64 (rd x5_2 ((rd_T41 l0_3 x22_2).f0)) (ji19)) (rd x5_2 bt113.1))) true l0_3 (l0_3.length : Int) (wrap64 (x22_2 + 1)) l0_0 l0_1 a0_2 l0_3) else (ends_sets.l1 k2 a1 (x5_2.set (((rd_T41 l0_3 x22_2).f0) : Int).toNat (Go.bits .or .u64 (Go.bits .or .u64 (rd x5_2 ((rd_T41 l0_3 x22_2).f0)) (ji19)) (rd x5_2 bt113.1))) ((Go.bits .or .u64 (Go.bits .or .u64 (rd x5_2 ((rd_T41 l0_3 x22_2).f0)) (ji19)) (rd x5_2 bt113.1)) != (rd x5_2 ((rd_T41 l0_3 x22_2).f0))) l0_3 (l0_3.length : Int) (wrap64 (x22_2 + 1)) l0_0 l0_1 a0_2 l0_3)) else (none)) else (none)) else (if x6_2 = true then (ends_sets.l1 k2 a1 (x5_2.set (((rd_T41 l0_3 x22_2).f0) : Int).toNat (Go.bits .or .u64 (rd x5_2 ((rd_T41 l0_3 x22_2).f0)) (ji19))) true l0_3 (l0_3.length : Int) (wrap64 (x22_2 + 1)) l0_0 l0_1 a0_2 l0_3) else (ends_sets.l1 k2 a1 (x5_2.set (((rd_T41 l0_3 x22_2).f0) : Int).toNat (Go.bits .or .u64 (rd x5_2 ((rd_T41 l0_3 x22_2).f0)) (ji19))) ((Go.bits .or .u64 (rd x5_2 ((rd_T41 l0_3 x22_2).f0)) (ji19)) != (rd x5_2 ((rd_T41 l0_3 x22_2).f0))) l0_3 (l0_3.length : Int) (wrap64 (x22_2 + 1)) l0_0 l0_1 a0_2 l0_3)))) = some r := by first | (rw [hji19] at H; exact H) | (simp only [hji19] at H ⊢; exact H)
                         (try rw [hji19] at A16)
                         have hji19_ : (IntKind.u64.wrap (1 * 2 ^ min t111.toNat 64)) = ji19 := hji19
                         have hji19z : t111 ≤ 64 → (IntKind.u64.wrap (1 * 2 ^ t111.toNat)) = ji19 := shl_small hji19
                         have hji19u : (IntKind.u64.wrap (2 ^ min t111.toNat 64)) = ji19 := by have h_ := hji19_; rw [Int.one_mul] at h_; exact h_
                         have hji19v : t111 ≤ 64 → (IntKind.u64.wrap (2 ^ t111.toNat)) = ji19 := fun hle_ => by have h_ := hji19z hle_; rw [Int.one_mul] at h_; exact h_
                         replace H := Option.bind_eq_some_iff.mp H
                         obtain ⟨⟨t113, t114⟩, A200, H⟩ := H
                         replace H : (if t114 = true then (if 0 ≤ t113 then (if t113 < (x5_2.length : Int) then (if x6_2 = true then (ends_sets.l1 k2 a1 (x5_2.set (((rd_T41 l0_3 x22_2).f0) : Int).toNat (Go.bits .or .u64 (Go.bits .or .u64 (rd x5_2 ((rd_T41 l0_3 x22_2).f0)) (ji19)) (rd x5_2 t113))) true l0_3 (l0_3.length : Int) (wrap64 (x22_2 + 1)) l0_0 l0_1 a0_2 l0_3) else (ends_sets.l1 k2 a1 (x5_2.set (((rd_T41 l0_3 x22_2).f0) : Int).toNat (Go.bits .or .u64 (Go.bits .or .u64 (rd x5_2 ((rd_T41 l0_3 x22_2).f0)) (ji19)) (rd x5_2 t113))) ((Go.bits .or .u64 (Go.bits .or .u64 (rd x5_2 ((rd_T41 l0_3 x22_2).f0)) (ji19)) (rd x5_2 t113)) != (rd x5_2 ((rd_T41 l0_3 x22_2).f0))) l0_3 (l0_3.length : Int) (wrap64 (x22_2 + 1)) l0_0 l0_1 a0_2 l0_3)) else (none)) else (none)) else (if x6_2 = true then (ends_sets.l1 k2 a1 (x5_2.set (((rd_T41 l0_3 x22_2).f0) : Int).toNat (Go.bits .or .u64 (rd x5_2 ((rd_T41 l0_3 x22_2).f0)) (ji19))) true l0_3 (l0_3.length : Int) (wrap64 (x22_2 + 1)) l0_0 l0_1 a0_2 l0_3) else (ends_sets.l1 k2 a1 (x5_2.set (((rd_T41 l0_3 x22_2).f0) : Int).toNat (Go.bits .or .u64 (rd x5_2 ((rd_T41 l0_3 x22_2).f0)) (ji19))) ((Go.bits .or .u64 (rd x5_2 ((rd_T41 l0_3 x22_2).f0)) (ji19)) != (rd x5_2 ((rd_T41 l0_3 x22_2).f0))) l0_3 (l0_3.length : Int) (wrap64 (x22_2 + 1)) l0_0 l0_1 a0_2 l0_3))) = some r := H
                         have A20 := Aside0.mk A200
                         clear A200
                         by_cases c21 : t114 = true
                         · subst c21
                           have H1 : (if 0 ≤ t113 then (if t113 < (x5_2.length : Int) then (if x6_2 = true then (ends_sets.l1 k2 a1 (x5_2.set (((rd_T41 l0_3 x22_2).f0) : Int).toNat (Go.bits .or .u64 (Go.bits .or .u64 (rd x5_2 ((rd_T41 l0_3 x22_2).f0)) (ji19)) (rd x5_2 t113))) true l0_3 (l0_3.length : Int) (wrap64 (x22_2 + 1)) l0_0 l0_1 a0_2 l0_3) else (ends_sets.l1 k2 a1 (x5_2.set (((rd_T41 l0_3 x22_2).f0) : Int).toNat (Go.bits .or .u64 (Go.bits .or .u64 (rd x5_2 ((rd_T41 l0_3 x22_2).f0)) (ji19)) (rd x5_2 t113))) ((Go.bits .or .u64 (Go.bits .or .u64 (rd x5_2 ((rd_T41 l0_3 x22_2).f0)) (ji19)) (rd x5_2 t113)) != (rd x5_2 ((rd_T41 l0_3 x22_2).f0))) l0_3 (l0_3.length : Int) (wrap64 (x22_2 + 1)) l0_0 l0_1 a0_2 l0_3)) else (none)) else (none)) = some r := by rw [if_pos rfl] at H; exact H
                           clear H
                           have H := H1
                           clear H1
                           by_cases c22 : 0 ≤ t113
                           · rw [if_pos c22] at H
                             have c22b0 : decide (0 ≤ t113) = true := decide_eq_true c22
                             clear c22
                             by_cases c23 : t113 < (x5_2.length : Int)
                             · rw [if_pos c23] at H
                               have c23b0 : decide (t113 < (x5_2.length : Int)) = true := decide_eq_true c23
                               clear c23
                               by_cases c24 : x6_2 = true
                               · subst c24
                                 have H1 : (ends_sets.l1 k2 a1 (x5_2.set (((rd_T41 l0_3 x22_2).f0) : Int).toNat (Go.bits .or .u64 (Go.bits .or .u64 (rd x5_2 ((rd_T41 l0_3 x22_2).f0)) (ji19)) (rd x5_2 t113))) true l0_3 (l0_3.length : Int) (wrap64 (x22_2 + 1)) l0_0 l0_1 a0_2 l0_3) = some r := by rw [if_pos rfl] at H; exact H
                                 clear H
                                 have H := H1
                                 clear H1
                                 obtain ⟨y116, hy116⟩ : ∃ y_ : List Int, y_ = (x5_2.set (((rd_T41 l0_3 x22_2).f0) : Int).toNat (Go.bits .or .u64 (Go.bits .or .u64 (rd x5_2 ((rd_T41 l0_3 x22_2).f0)) (ji19)) (rd x5_2 t113))) := ⟨_, rfl⟩
                                 replace H : (ends_sets.l1 k2 a1 y116 true l0_3 (l0_3.length : Int) (wrap64 (x22_2 + 1)) l0_0 l0_1 a0_2 l0_3) = some r := by first | (rw [hy116]; with_reducible exact H) | (have H2_ := (Option.bind_some _ _).symm.trans H; rw [hy116]; with_reducible exact H2_) | (have H2_ := (Option.bind_some _ _).symm.trans H; with_reducible exact H2_) | with_reducible exact H | (rw [hy116]; exact H) | exact H
                                 have Ny116 := Aside0.mk hy116
                                 clear hy116
                                 have H' := Aside0.mk H
                                 clear H
                                 have p108 : 0 ≤ (x22_2 : Int) := of_decide_eq_true (by first | (with_reducible assumption) | assumption)
                                 have q108 : x22_2 < (l0_3.length : Int) := of_decide_eq_true (by first | (with_reducible assumption) | assumption)
                                 obtain ⟨ad108, A108_1, c108_1, e108, hx108_0, hx108_1, hl108_1, hi108_1⟩ := at_T41 HR0_3.out x22_2 p108 q108
                                 cases e108
                                 replace hx108_0 := (HB.out.cell (World.block_lt_of_cell? w _ hx108_0)).trans hx108_0
                                 replace hx108_1 := (HB.out.cell (World.block_lt_of_cell? w _ hx108_1)).trans hx108_1
                                 have HR108_1 := Aside0.mk hi108_1
                                 have HC108_1 := Aside0.mk hl108_1
                                 clear hi108_1 hl108_1
                                 replace p108 := eq_true p108
                                 replace q108 := eq_true q108
                                 go_wp2_with (first | ((with_reducible refine gate_dst (N := 8) rfl ?_); refine box_event ?hg (N := 8) ?hd (cs := #[.int .i64 0, .slice none 0 0]) (t := 41) ?hr ?_; (case hd => rfl); (case hg => rfl); (case hr => first | (go_simp; done) | (go_simp; rfl)); intro gb109 hg w26 hbox hb; have n0_ := Aside0.mk (Kd.R_below (by (with_reducible repeat (first | apply Kd.R_alloc | apply Kd.R_drewN | apply Kd.R_drew)); exact HO_5.out) hb); have n1_ := Aside0.mk (blk_below (g := gb104) (o := .cells #[.slice A0_0 l0_0.length c0_0, .slice A0_1 l0_1.length c0_1, .int .i64 a0_2, .slice (some ad108) l0_3.length c0_3] 32 (0, 0)) (by (with_reducible repeat (first | refine blk_drewN ?_ _ | refine blk_drew ?_ | refine blk_alloc ?_ _)); exact BK104.out) hb); have n2_ := Aside0.mk (below_step (by repeat (first | (with_reducible first | exact HB.out | apply below_alloc | apply pw_below_drewN | apply below_drew1 | refine below_set ?_ GE104.out) | exact HB.out)) hb); have n3_ := Aside0.mk (hbox); have n4_ := Aside0.mk ((by rw [hg]; exact (below_size (by repeat (first | (with_reducible first | exact HB.out | apply below_alloc | apply pw_below_drewN | apply below_drew1 | refine below_set ?_ GE104.out) | exact HB.out))) : w.heap.size ≤ gb109)); have n5_ := Aside0.mk ((by rw [hg]; exact (below_size (by repeat (first | (with_reducible first | exact HB.out | apply below_alloc | apply pw_below_drewN | apply below_drew1 | refine below_set ?_ GE104.out) | exact HB.out))) : w.heap.size ≤ gb109)); have n6_ := Aside0.mk ((by rw [hg]; exact Nat.ne_of_lt (blk_lt (g := gb104) (o := .cells #[.slice A0_0 l0_0.length c0_0, .slice A0_1 l0_1.length c0_1, .int .i64 a0_2, .slice (some ad108) l0_3.length c0_3] 32 (0, 0)) (by (with_reducible repeat (first | refine blk_drewN ?_ _ | refine blk_drew ?_ | refine blk_alloc ?_ _)); exact BK104.out)) : gb104 ≠ gb109)); have n7_ := Aside0.mk ((by rw [hg]; exact Nat.ne_of_gt (blk_lt (g := gb104) (o := .cells #[.slice A0_0 l0_0.length c0_0, .slice A0_1 l0_1.length c0_1, .int .i64 a0_2, .slice (some ad108) l0_3.length c0_3] 32 (0, 0)) (by (with_reducible repeat (first | refine blk_drewN ?_ _ | refine blk_drew ?_ | refine blk_alloc ?_ _)); exact BK104.out)) : gb109 ≠ gb104)); clear HO_5; clear BK104; clear HB; have HO_5 := n0_; have BK104 := n1_; have HB := n2_; have BK109 := n3_; have GW109 := n4_; have GE109 := n5_; have NB104_109 := n6_; have NB109_104 := n7_; clear n0_ n1_ n2_ n3_ n4_ n5_ n6_ n7_; clear hb hbox hg; have hnb27 := NB109_104.out; have hnc27 := NB104_109.out; have hcz28_0 : w26.cell? ⟨gb109, 0, none⟩ = some (.int .i64 0) := (blk_cell BK109.out 0).trans rfl; have hcz28_1 : w26.cell? ⟨gb109, 1, none⟩ = some (.slice none 0 0) := (blk_cell BK109.out 1).trans rfl; have hfz28_0 := blk_frozen BK109.out 0; have hfz28_1 := blk_frozen BK109.out 1; obtain ⟨Ao29, co29, eo29⟩ := Kd.R_slice HO_5.out; subst eo29; have p110 : 0 ≤ (((rd_T41 l0_3 x22_2).f0) : Int) := of_decide_eq_true (by first | (with_reducible assumption) | assumption); have q110 : ((rd_T41 l0_3 x22_2).f0) < (x5_2.length : Int) := of_decide_eq_true (by first | (with_reducible assumption) | assumption); obtain ⟨ad110, e110, hx110_0⟩ := Kd.at_int (Kd.R_reads' HO_5.out).2.2 ((rd_T41 l0_3 x22_2).f0) p110 q110; cases e110; have hn110_0 : ad110.block ≠ gb109 := Kd.own_blk (Kd.R_ne HO_5.out BK109.out (by decide)); have hn110_1 : ad110.block ≠ gb109 := Kd.own_blk (Kd.R_ne HO_5.out BK109.out (by decide)); replace hx110_0 := (cell_far (p := ⟨gb109, 0, none⟩) (by first | (rw [add_block]; exact hn110_0) | (show (Addr.add _ _).block ≠ _; rw [add_block]; exact hn110_0) | exact hn110_0) (.int .i64 ((rd_T41 l0_3 x22_2).f0))).trans hx110_0; replace hx110_0 := (cell_far (p := ⟨gb109, 1, none⟩) (by first | (rw [add_block]; exact hn110_1) | (show (Addr.add _ _).block ≠ _; rw [add_block]; exact hn110_1) | exact hn110_1) (.slice A108_1 ((rd_T41 l0_3 x22_2).f1).length c108_1)).trans hx110_0; clear hn110_0; clear hn110_1; replace p110 := eq_true p110; replace q110 := eq_true q110) | ((with_reducible refine gate_callee (f := 54) rfl ?_); refine goesL_ (some 35) rfl rfl Tryd.func54 (by kernel_rfl) rfl #[fvI a1, .slice A108_1 ((rd_T41 l0_3 x22_2).f1).length c108_1] rfl (by (try simp only [List.map_toArray, List.map_cons, List.map_nil]); first | done | rfl | (simp only [List.length_drop, List.length_take]; rfl)) ?_; (with_reducible refine (ends_reading_shows.calls a1 _ _ ((rd_T41 l0_3 x22_2).f1) t111 true _ ?side1 ?side2 A16.out).mono ?_); (case side1 => exact Kd.C_below HR108_1.out (by repeat (first | (with_reducible first | exact HB.out | apply below_alloc | apply pw_below_drewN | apply below_drew1 | refine below_set ?_ GE104.out | refine below_set ?_ GE109.out) | exact HB.out))); (case side2 => exact HC108_1.out); rintro e w30 ⟨rfl, hb⟩; refine ⟨_, rfl, ?_⟩; have n0_ := Aside0.mk (Kd.R_below (by (with_reducible repeat (first | apply Kd.R_alloc | apply Kd.R_drewN | apply Kd.R_drew)); exact (Kd.R_mono (Kd.R_far (p := ⟨gb109, 1, none⟩) (Kd.R_far (p := ⟨gb109, 0, none⟩) (Kd.R_types HO_5.out BK109.out (by decide)) (fun _ hk => hk.2) (.int .i64 ((rd_T41 l0_3 x22_2).f0))) (fun _ hk => hk.2) (.slice A108_1 ((rd_T41 l0_3 x22_2).f1).length c108_1)) (fun _ h_ => h_.1))) hb); have n1_ := Aside0.mk (blk_below (g := gb104) (o := .cells #[.slice A0_0 l0_0.length c0_0, .slice A0_1 l0_1.length c0_1, .int .i64 a0_2, .slice (some ad108) l0_3.length c0_3] 32 (0, 0)) (by (with_reducible repeat (first | refine blk_drewN ?_ _ | refine blk_drew ?_ | refine blk_alloc ?_ _)); refine blk_far ?_ NB104_109.out _; (with_reducible repeat (first | refine blk_drewN ?_ _ | refine blk_drew ?_ | refine blk_alloc ?_ _)); refine blk_far ?_ NB104_109.out _; (with_reducible repeat (first | refine blk_drewN ?_ _ | refine blk_drew ?_ | refine blk_alloc ?_ _)); exact BK104.out) hb); have n2_ := Aside0.mk (blk_below (g := gb109) (o := .cells #[.int .i64 ((rd_T41 l0_3 x22_2).f0), .slice A108_1 ((rd_T41 l0_3 x22_2).f1).length c108_1] 41 (0, 0)) (by (with_reducible repeat (first | refine blk_drewN ?_ _ | refine blk_drew ?_ | refine blk_alloc ?_ _)); refine blk_put (cs := #[.int .i64 ((rd_T41 l0_3 x22_2).f0), .slice none 0 0]) ?_ 1 _ rfl; (with_reducible repeat (first | refine blk_drewN ?_ _ | refine blk_drew ?_ | refine blk_alloc ?_ _)); refine blk_put (cs := #[.int .i64 0, .slice none 0 0]) ?_ 0 _ rfl; (with_reducible repeat (first | refine blk_drewN ?_ _ | refine blk_drew ?_ | refine blk_alloc ?_ _)); exact BK109.out) hb); have n3_ := Aside0.mk (below_step (by repeat (first | (with_reducible first | exact HB.out | apply below_alloc | apply pw_below_drewN | apply below_drew1 | refine below_set ?_ GE104.out | refine below_set ?_ GE109.out) | exact HB.out)) hb); clear HO_5; clear BK104; clear BK109; clear HB; have HO_5 := n0_; have BK104 := n1_; have BK109 := n2_; have HB := n3_; clear n0_ n1_ n2_ n3_; (try clear hb); (try clear hb2); (try clear hk); (try clear hi); have hcz31_0 : w30.cell? ⟨gb109, 0, none⟩ = some (.int .i64 ((rd_T41 l0_3 x22_2).f0)) := (blk_cell BK109.out 0).trans rfl; have hcz31_1 : w30.cell? ⟨gb109, 1, none⟩ = some (.slice A108_1 ((rd_T41 l0_3 x22_2).f1).length c108_1) := (blk_cell BK109.out 1).trans rfl; have hfz31_0 := blk_frozen BK109.out 0; have hfz31_1 := blk_frozen BK109.out 1) | ((with_reducible refine gate_callee (f := 55) rfl ?_); refine goesL_ (some 47) rfl rfl Tryd.func55 (by kernel_rfl) rfl #[fvI a1, .slice A108_1 ((rd_T41 l0_3 x22_2).f1).length c108_1] rfl (by (try simp only [List.map_toArray, List.map_cons, List.map_nil]); first | done | rfl | (simp only [List.length_drop, List.length_take]; rfl)) ?_; (with_reducible refine (ends_reading_leads.calls a1 _ _ ((rd_T41 l0_3 x22_2).f1) t113 true _ ?side1 ?side2 A20.out).mono ?_); (case side1 => repeat (first | exact (Kd.C_below HR108_1.out HB.out) | (with_reducible refine Kd.C_alloc ?_ _) | (with_reducible refine Kd.C_drewN ?_ _) | (with_reducible refine Kd.C_drew ?_))); (case side2 => exact HC108_1.out); rintro e w32 ⟨rfl, hb⟩; refine ⟨_, rfl, ?_⟩; have n0_ := Aside0.mk (Kd.R_below (by (with_reducible repeat (first | apply Kd.R_alloc | apply Kd.R_drewN | apply Kd.R_drew)); exact HO_5.out) hb); have n1_ := Aside0.mk (blk_below (g := gb104) (o := .cells #[.slice A0_0 l0_0.length c0_0, .slice A0_1 l0_1.length c0_1, .int .i64 a0_2, .slice (some ad108) l0_3.length c0_3] 32 (0, 0)) (by (with_reducible repeat (first | refine blk_drewN ?_ _ | refine blk_drew ?_ | refine blk_alloc ?_ _)); exact BK104.out) hb); have n2_ := Aside0.mk (blk_below (g := gb109) (o := .cells #[.int .i64 ((rd_T41 l0_3 x22_2).f0), .slice A108_1 ((rd_T41 l0_3 x22_2).f1).length c108_1] 41 (0, 0)) (by (with_reducible repeat (first | refine blk_drewN ?_ _ | refine blk_drew ?_ | refine blk_alloc ?_ _)); exact BK109.out) hb); have n3_ := Aside0.mk (below_step (by repeat (first | (with_reducible first | exact HB.out | apply below_alloc | apply pw_below_drewN | apply below_drew1 | refine below_set ?_ GE104.out | refine below_set ?_ GE109.out) | exact HB.out)) hb); clear HO_5; clear BK104; clear BK109; clear HB; have HO_5 := n0_; have BK104 := n1_; have BK109 := n2_; have HB := n3_; clear n0_ n1_ n2_ n3_; (try clear hb); (try clear hb2); (try clear hk); (try clear hi); have p115 : 0 ≤ (t113 : Int) := of_decide_eq_true (by first | (with_reducible assumption) | assumption); have q115 : t113 < (x5_2.length : Int) := of_decide_eq_true (by first | (with_reducible assumption) | assumption); obtain ⟨ad115, e115, hx115_0⟩ := Kd.at_int (Kd.R_reads' HO_5.out).2.2 t113 p115 q115; obtain rfl : ad110 = ad115 := (by injection e115); replace p115 := eq_true p115; replace q115 := eq_true q115; have hcz33_0 : w32.cell? ⟨gb109, 0, none⟩ = some (.int .i64 ((rd_T41 l0_3 x22_2).f0)) := (blk_cell BK109.out 0).trans rfl; have hcz33_1 : w32.cell? ⟨gb109, 1, none⟩ = some (.slice A108_1 ((rd_T41 l0_3 x22_2).f1).length c108_1) := (blk_cell BK109.out 1).trans rfl; have hfz33_0 := blk_frozen BK109.out 0; have hfz33_1 := blk_frozen BK109.out 1; have p25 : 0 ≤ (((rd_T41 l0_3 x22_2).f0) : Int) := of_decide_eq_true (by first | (with_reducible assumption) | assumption); have q25 : (((rd_T41 l0_3 x22_2).f0) : Int) < ((x5_2.length : Int) : Int) := of_decide_eq_true (by first | (with_reducible assumption) | assumption); obtain ⟨go25, co25, eo25, gb25, gl25, cl25, HG25⟩ := Kd.R_form HO_5.out (by omega); (first | cases eo25 | (injection eo25 with ea_ en_ ec_; (first | subst ea_ | (injection ea_ with ea_; subst ea_)); subst ec_; clear en_)); have GB25 := Aside0.mk gb25; have GG25 := Aside0.mk HG25; clear gb25 gl25 HG25; (first | simp only [add_plain] at hx110_0 | skip); (first | simp only [add_plain] at hx115_0 | skip); obtain ⟨hx25_0, hf25_0⟩ := Kd.R_celln 0 HO_5.out (((rd_T41 l0_3 x22_2).f0) : Int) p25 q25; replace p25 := eq_true p25; replace q25 := eq_true q25; obtain ⟨hy34_, hz34_⟩ := Kd.R_celln 0 HO_5.out (((rd_T41 l0_3 x22_2).f0) : Int) (of_decide_eq_true (by first | (with_reducible assumption) | assumption)) (of_decide_eq_true (by first | (with_reducible assumption) | assumption)); have HP34 := Kd.R_putg HO_5.out (((rd_T41 l0_3 x22_2).f0) : Int) (Go.bits .or .u64 (Go.bits .or .u64 (rd x5_2 ((rd_T41 l0_3 x22_2).f0)) (ji19)) (rd x5_2 t113))) | ((with_reducible refine gate_store (t := 45) (p := 71) rfl ?_); refine store_event (t := 45) (p := 71) (v := ?vo_w35) (w1 := (w32.setCell ⟨go25, (((rd_T41 l0_3 x22_2).f0) : Int).toNat, none⟩ (.int .u64 (Go.bits .or .u64 (Go.bits .or .u64 (rd x5_2 ((rd_T41 l0_3 x22_2).f0)) (ji19)) (rd x5_2 t113))))) ?hg ?ho ?hn ?hr ?_; (case ho => rfl); (case hg => rfl); (case hn => rfl); (case hr => first | (go_simp; done) | (go_simp; rfl)); intro w35 hw; have hg : w32.grownBy w35 (some go25) := (by rw [hw]; exact HP34.2); have hp_ : Kd.R (Kd.int .u64) 45 w35 w.heap.size (fun _ => True) (.slice (some ⟨go25, 0, none⟩) x5_2.length co29) y116 := (by rw [hw, Ny116.out]; exact HP34.1); clear HP34; have n0_ := Aside0.mk (hp_); have n1_ := Aside0.mk (blk_grown (g := gb104) (o := .cells #[.slice A0_0 l0_0.length c0_0, .slice A0_1 l0_1.length c0_1, .int .i64 a0_2, .slice (some ad108) l0_3.length c0_3] 32 (0, 0)) (by (with_reducible repeat (first | refine blk_drewN ?_ _ | refine blk_drew ?_ | refine blk_alloc ?_ _)); exact BK104.out) hg (Kd.R_ne HO_5.out BK104.out (by decide))); have n2_ := Aside0.mk (blk_grown (g := gb109) (o := .cells #[.int .i64 ((rd_T41 l0_3 x22_2).f0), .slice A108_1 ((rd_T41 l0_3 x22_2).f1).length c108_1] 41 (0, 0)) (by (with_reducible repeat (first | refine blk_drewN ?_ _ | refine blk_drew ?_ | refine blk_alloc ?_ _)); exact BK109.out) hg (Kd.R_ne HO_5.out BK109.out (by decide))); have n3_ := Aside0.mk ((by rw [hw]; exact below_set (HB.out) GB25.out : Below w.heap.size w w35)); clear HO_5; clear BK104; clear BK109; clear HB; have HO_5 := n0_; have BK104 := n1_; have BK109 := n2_; have HB := n3_; clear n0_ n1_ n2_ n3_; clear hg hw hp_))
                                 go_roundg k2
                                 case measure => have := HK1.out; have := HK2.out; omega
                                 case rel => exact ⟨(y116), (true), (wrap64 (x22_2 + 1)), (by first | rfl | (simp; done) | (simp [*]; done)), (by first | rfl | (simp; done) | (simp [*]; done)), H', ⟨by have := HK1.out; have := HK2.out; omega⟩, ⟨by (with_reducible repeat (first | apply Kd.R_alloc | apply Kd.R_drewN | apply Kd.R_drew)); exact HO_5.out⟩, ⟨by (with_reducible repeat (first | refine blk_drewN ?_ _ | refine blk_drew ?_ | refine blk_alloc ?_ _)); exact BK104.out⟩, ⟨by repeat (first | (with_reducible first | exact HB.out | apply below_alloc | apply pw_below_drewN | apply below_drew1 | refine below_set ?_ GE104.out | refine below_set ?_ GE109.out) | exact HB.out)⟩⟩
                               · replace c24 := Bool.eq_false_iff.mpr c24
                                 subst c24
                                 have H1 : (ends_sets.l1 k2 a1 (x5_2.set (((rd_T41 l0_3 x22_2).f0) : Int).toNat (Go.bits .or .u64 (Go.bits .or .u64 (rd x5_2 ((rd_T41 l0_3 x22_2).f0)) (ji19)) (rd x5_2 t113))) ((Go.bits .or .u64 (Go.bits .or .u64 (rd x5_2 ((rd_T41 l0_3 x22_2).f0)) (ji19)) (rd x5_2 t113)) != (rd x5_2 ((rd_T41 l0_3 x22_2).f0))) l0_3 (l0_3.length : Int) (wrap64 (x22_2 + 1)) l0_0 l0_1 a0_2 l0_3) = some r := by rw [if_neg (show ¬ (false = true) by decide)] at H; exact H
                                 clear H
                                 have H := H1
                                 clear H1
                                 obtain ⟨y118, hy118⟩ : ∃ y_ : List Int, y_ = (x5_2.set (((rd_T41 l0_3 x22_2).f0) : Int).toNat (Go.bits .or .u64 (Go.bits .or .u64 (rd x5_2 ((rd_T41 l0_3 x22_2).f0)) (ji19)) (rd x5_2 t113))) := ⟨_, rfl⟩
                                 replace H : (ends_sets.l1 k2 a1 y118 ((Go.bits .or .u64 (Go.bits .or .u64 (rd x5_2 ((rd_T41 l0_3 x22_2).f0)) (ji19)) (rd x5_2 t113)) != (rd x5_2 ((rd_T41 l0_3 x22_2).f0))) l0_3 (l0_3.length : Int) (wrap64 (x22_2 + 1)) l0_0 l0_1 a0_2 l0_3) = some r := by first | (rw [hy118]; with_reducible exact H) | (have H2_ := (Option.bind_some _ _).symm.trans H; rw [hy118]; with_reducible exact H2_) | (have H2_ := (Option.bind_some _ _).symm.trans H; with_reducible exact H2_) | with_reducible exact H | (rw [hy118]; exact H) | exact H
                                 have Ny118 := Aside0.mk hy118
                                 clear hy118
                                 have H' := Aside0.mk H
                                 clear H
                                 have p108 : 0 ≤ (x22_2 : Int) := of_decide_eq_true (by first | (with_reducible assumption) | assumption)
                                 have q108 : x22_2 < (l0_3.length : Int) := of_decide_eq_true (by first | (with_reducible assumption) | assumption)
                                 obtain ⟨ad108, A108_1, c108_1, e108, hx108_0, hx108_1, hl108_1, hi108_1⟩ := at_T41 HR0_3.out x22_2 p108 q108
                                 cases e108
                                 replace hx108_0 := (HB.out.cell (World.block_lt_of_cell? w _ hx108_0)).trans hx108_0
                                 replace hx108_1 := (HB.out.cell (World.block_lt_of_cell? w _ hx108_1)).trans hx108_1
                                 have HR108_1 := Aside0.mk hi108_1
                                 have HC108_1 := Aside0.mk hl108_1
                                 clear hi108_1 hl108_1
                                 replace p108 := eq_true p108
                                 replace q108 := eq_true q108
                                 go_wp2_with (first | ((with_reducible refine gate_dst (N := 8) rfl ?_); refine box_event ?hg (N := 8) ?hd (cs := #[.int .i64 0, .slice none 0 0]) (t := 41) ?hr ?_; (case hd => rfl); (case hg => rfl); (case hr => first | (go_simp; done) | (go_simp; rfl)); intro gb109 hg w37 hbox hb; have n0_ := Aside0.mk (Kd.R_below (by (with_reducible repeat (first | apply Kd.R_alloc | apply Kd.R_drewN | apply Kd.R_drew)); exact HO_5.out) hb); have n1_ := Aside0.mk (blk_below (g := gb104) (o := .cells #[.slice A0_0 l0_0.length c0_0, .slice A0_1 l0_1.length c0_1, .int .i64 a0_2, .slice (some ad108) l0_3.length c0_3] 32 (0, 0)) (by (with_reducible repeat (first | refine blk_drewN ?_ _ | refine blk_drew ?_ | refine blk_alloc ?_ _)); exact BK104.out) hb); have n2_ := Aside0.mk (below_step (by repeat (first | (with_reducible first | exact HB.out | apply below_alloc | apply pw_below_drewN | apply below_drew1 | refine below_set ?_ GE104.out) | exact HB.out)) hb); have n3_ := Aside0.mk (hbox); have n4_ := Aside0.mk ((by rw [hg]; exact (below_size (by repeat (first | (with_reducible first | exact HB.out | apply below_alloc | apply pw_below_drewN | apply below_drew1 | refine below_set ?_ GE104.out) | exact HB.out))) : w.heap.size ≤ gb109)); have n5_ := Aside0.mk ((by rw [hg]; exact (below_size (by repeat (first | (with_reducible first | exact HB.out | apply below_alloc | apply pw_below_drewN | apply below_drew1 | refine below_set ?_ GE104.out) | exact HB.out))) : w.heap.size ≤ gb109)); have n6_ := Aside0.mk ((by rw [hg]; exact Nat.ne_of_lt (blk_lt (g := gb104) (o := .cells #[.slice A0_0 l0_0.length c0_0, .slice A0_1 l0_1.length c0_1, .int .i64 a0_2, .slice (some ad108) l0_3.length c0_3] 32 (0, 0)) (by (with_reducible repeat (first | refine blk_drewN ?_ _ | refine blk_drew ?_ | refine blk_alloc ?_ _)); exact BK104.out)) : gb104 ≠ gb109)); have n7_ := Aside0.mk ((by rw [hg]; exact Nat.ne_of_gt (blk_lt (g := gb104) (o := .cells #[.slice A0_0 l0_0.length c0_0, .slice A0_1 l0_1.length c0_1, .int .i64 a0_2, .slice (some ad108) l0_3.length c0_3] 32 (0, 0)) (by (with_reducible repeat (first | refine blk_drewN ?_ _ | refine blk_drew ?_ | refine blk_alloc ?_ _)); exact BK104.out)) : gb109 ≠ gb104)); clear HO_5; clear BK104; clear HB; have HO_5 := n0_; have BK104 := n1_; have HB := n2_; have BK109 := n3_; have GW109 := n4_; have GE109 := n5_; have NB104_109 := n6_; have NB109_104 := n7_; clear n0_ n1_ n2_ n3_ n4_ n5_ n6_ n7_; clear hb hbox hg; have hnb38 := NB109_104.out; have hnc38 := NB104_109.out; have hcz39_0 : w37.cell? ⟨gb109, 0, none⟩ = some (.int .i64 0) := (blk_cell BK109.out 0).trans rfl; have hcz39_1 : w37.cell? ⟨gb109, 1, none⟩ = some (.slice none 0 0) := (blk_cell BK109.out 1).trans rfl; have hfz39_0 := blk_frozen BK109.out 0; have hfz39_1 := blk_frozen BK109.out 1; obtain ⟨Ao40, co40, eo40⟩ := Kd.R_slice HO_5.out; subst eo40; have p110 : 0 ≤ (((rd_T41 l0_3 x22_2).f0) : Int) := of_decide_eq_true (by first | (with_reducible assumption) | assumption); have q110 : ((rd_T41 l0_3 x22_2).f0) < (x5_2.length : Int) := of_decide_eq_true (by first | (with_reducible assumption) | assumption); obtain ⟨ad110, e110, hx110_0⟩ := Kd.at_int (Kd.R_reads' HO_5.out).2.2 ((rd_T41 l0_3 x22_2).f0) p110 q110; cases e110; have hn110_0 : ad110.block ≠ gb109 := Kd.own_blk (Kd.R_ne HO_5.out BK109.out (by decide)); have hn110_1 : ad110.block ≠ gb109 := Kd.own_blk (Kd.R_ne HO_5.out BK109.out (by decide)); replace hx110_0 := (cell_far (p := ⟨gb109, 0, none⟩) (by first | (rw [add_block]; exact hn110_0) | (show (Addr.add _ _).block ≠ _; rw [add_block]; exact hn110_0) | exact hn110_0) (.int .i64 ((rd_T41 l0_3 x22_2).f0))).trans hx110_0; replace hx110_0 := (cell_far (p := ⟨gb109, 1, none⟩) (by first | (rw [add_block]; exact hn110_1) | (show (Addr.add _ _).block ≠ _; rw [add_block]; exact hn110_1) | exact hn110_1) (.slice A108_1 ((rd_T41 l0_3 x22_2).f1).length c108_1)).trans hx110_0; clear hn110_0; clear hn110_1; replace p110 := eq_true p110; replace q110 := eq_true q110) | ((with_reducible refine gate_callee (f := 54) rfl ?_); refine goesL_ (some 35) rfl rfl Tryd.func54 (by kernel_rfl) rfl #[fvI a1, .slice A108_1 ((rd_T41 l0_3 x22_2).f1).length c108_1] rfl (by (try simp only [List.map_toArray, List.map_cons, List.map_nil]); first | done | rfl | (simp only [List.length_drop, List.length_take]; rfl)) ?_; (with_reducible refine (ends_reading_shows.calls a1 _ _ ((rd_T41 l0_3 x22_2).f1) t111 true _ ?side1 ?side2 A16.out).mono ?_); (case side1 => exact Kd.C_below HR108_1.out (by repeat (first | (with_reducible first | exact HB.out | apply below_alloc | apply pw_below_drewN | apply below_drew1 | refine below_set ?_ GE104.out | refine below_set ?_ GE109.out) | exact HB.out))); (case side2 => exact HC108_1.out); rintro e w41 ⟨rfl, hb⟩; refine ⟨_, rfl, ?_⟩; have n0_ := Aside0.mk (Kd.R_below (by (with_reducible repeat (first | apply Kd.R_alloc | apply Kd.R_drewN | apply Kd.R_drew)); exact (Kd.R_mono (Kd.R_far (p := ⟨gb109, 1, none⟩) (Kd.R_far (p := ⟨gb109, 0, none⟩) (Kd.R_types HO_5.out BK109.out (by decide)) (fun _ hk => hk.2) (.int .i64 ((rd_T41 l0_3 x22_2).f0))) (fun _ hk => hk.2) (.slice A108_1 ((rd_T41 l0_3 x22_2).f1).length c108_1)) (fun _ h_ => h_.1))) hb); have n1_ := Aside0.mk (blk_below (g := gb104) (o := .cells #[.slice A0_0 l0_0.length c0_0, .slice A0_1 l0_1.length c0_1, .int .i64 a0_2, .slice (some ad108) l0_3.length c0_3] 32 (0, 0)) (by (with_reducible repeat (first | refine blk_drewN ?_ _ | refine blk_drew ?_ | refine blk_alloc ?_ _)); refine blk_far ?_ NB104_109.out _; (with_reducible repeat (first | refine blk_drewN ?_ _ | refine blk_drew ?_ | refine blk_alloc ?_ _)); refine blk_far ?_ NB104_109.out _; (with_reducible repeat (first | refine blk_drewN ?_ _ | refine blk_drew ?_ | refine blk_alloc ?_ _)); exact BK104.out) hb); have n2_ := Aside0.mk (blk_below (g := gb109) (o := .cells #[.int .i64 ((rd_T41 l0_3 x22_2).f0), .slice A108_1 ((rd_T41 l0_3 x22_2).f1).length c108_1] 41 (0, 0)) (by (with_reducible repeat (first | refine blk_drewN ?_ _ | refine blk_drew ?_ | refine blk_alloc ?_ _)); refine blk_put (cs := #[.int .i64 ((rd_T41 l0_3 x22_2).f0), .slice none 0 0]) ?_ 1 _ rfl; (with_reducible repeat (first | refine blk_drewN ?_ _ | refine blk_drew ?_ | refine blk_alloc ?_ _)); refine blk_put (cs := #[.int .i64 0, .slice none 0 0]) ?_ 0 _ rfl; (with_reducible repeat (first | refine blk_drewN ?_ _ | refine blk_drew ?_ | refine blk_alloc ?_ _)); exact BK109.out) hb); have n3_ := Aside0.mk (below_step (by repeat (first | (with_reducible first | exact HB.out | apply below_alloc | apply pw_below_drewN | apply below_drew1 | refine below_set ?_ GE104.out | refine below_set ?_ GE109.out) | exact HB.out)) hb); clear HO_5; clear BK104; clear BK109; clear HB; have HO_5 := n0_; have BK104 := n1_; have BK109 := n2_; have HB := n3_; clear n0_ n1_ n2_ n3_; (try clear hb); (try clear hb2); (try clear hk); (try clear hi); have hcz42_0 : w41.cell? ⟨gb109, 0, none⟩ = some (.int .i64 ((rd_T41 l0_3 x22_2).f0)) := (blk_cell BK109.out 0).trans rfl; have hcz42_1 : w41.cell? ⟨gb109, 1, none⟩ = some (.slice A108_1 ((rd_T41 l0_3 x22_2).f1).length c108_1) := (blk_cell BK109.out 1).trans rfl; have hfz42_0 := blk_frozen BK109.out 0; have hfz42_1 := blk_frozen BK109.out 1) | ((with_reducible refine gate_callee (f := 55) rfl ?_); refine goesL_ (some 47) rfl rfl Tryd.func55 (by kernel_rfl) rfl #[fvI a1, .slice A108_1 ((rd_T41 l0_3 x22_2).f1).length c108_1] rfl (by (try simp only [List.map_toArray, List.map_cons, List.map_nil]); first | done | rfl | (simp only [List.length_drop, List.length_take]; rfl)) ?_; (with_reducible refine (ends_reading_leads.calls a1 _ _ ((rd_T41 l0_3 x22_2).f1) t113 true _ ?side1 ?side2 A20.out).mono ?_); (case side1 => repeat (first | exact (Kd.C_below HR108_1.out HB.out) | (with_reducible refine Kd.C_alloc ?_ _) | (with_reducible refine Kd.C_drewN ?_ _) | (with_reducible refine Kd.C_drew ?_))); (case side2 => exact HC108_1.out); rintro e w43 ⟨rfl, hb⟩; refine ⟨_, rfl, ?_⟩; have n0_ := Aside0.mk (Kd.R_below (by (with_reducible repeat (first | apply Kd.R_alloc | apply Kd.R_drewN | apply Kd.R_drew)); exact HO_5.out) hb); have n1_ := Aside0.mk (blk_below (g := gb104) (o := .cells #[.slice A0_0 l0_0.length c0_0, .slice A0_1 l0_1.length c0_1, .int .i64 a0_2, .slice (some ad108) l0_3.length c0_3] 32 (0, 0)) (by (with_reducible repeat (first | refine blk_drewN ?_ _ | refine blk_drew ?_ | refine blk_alloc ?_ _)); exact BK104.out) hb); have n2_ := Aside0.mk (blk_below (g := gb109) (o := .cells #[.int .i64 ((rd_T41 l0_3 x22_2).f0), .slice A108_1 ((rd_T41 l0_3 x22_2).f1).length c108_1] 41 (0, 0)) (by (with_reducible repeat (first | refine blk_drewN ?_ _ | refine blk_drew ?_ | refine blk_alloc ?_ _)); exact BK109.out) hb); have n3_ := Aside0.mk (below_step (by repeat (first | (with_reducible first | exact HB.out | apply below_alloc | apply pw_below_drewN | apply below_drew1 | refine below_set ?_ GE104.out | refine below_set ?_ GE109.out) | exact HB.out)) hb); clear HO_5; clear BK104; clear BK109; clear HB; have HO_5 := n0_; have BK104 := n1_; have BK109 := n2_; have HB := n3_; clear n0_ n1_ n2_ n3_; (try clear hb); (try clear hb2); (try clear hk); (try clear hi); have p115 : 0 ≤ (t113 : Int) := of_decide_eq_true (by first | (with_reducible assumption) | assumption); have q115 : t113 < (x5_2.length : Int) := of_decide_eq_true (by first | (with_reducible assumption) | assumption); obtain ⟨ad115, e115, hx115_0⟩ := Kd.at_int (Kd.R_reads' HO_5.out).2.2 t113 p115 q115; obtain rfl : ad110 = ad115 := (by injection e115); replace p115 := eq_true p115; replace q115 := eq_true q115; have hcz44_0 : w43.cell? ⟨gb109, 0, none⟩ = some (.int .i64 ((rd_T41 l0_3 x22_2).f0)) := (blk_cell BK109.out 0).trans rfl; have hcz44_1 : w43.cell? ⟨gb109, 1, none⟩ = some (.slice A108_1 ((rd_T41 l0_3 x22_2).f1).length c108_1) := (blk_cell BK109.out 1).trans rfl; have hfz44_0 := blk_frozen BK109.out 0; have hfz44_1 := blk_frozen BK109.out 1; have p117 : 0 ≤ (((rd_T41 l0_3 x22_2).f0) : Int) := of_decide_eq_true (by first | (with_reducible assumption) | assumption); have q117 : ((rd_T41 l0_3 x22_2).f0) < (x5_2.length : Int) := of_decide_eq_true (by first | (with_reducible assumption) | assumption); obtain ⟨ad117, e117, hx117_0⟩ := Kd.at_int (Kd.R_reads' HO_5.out).2.2 ((rd_T41 l0_3 x22_2).f0) p117 q117; obtain rfl : ad110 = ad117 := (by injection e117); replace p117 := eq_true p117; replace q117 := eq_true q117; have p36 : 0 ≤ (((rd_T41 l0_3 x22_2).f0) : Int) := of_decide_eq_true (by first | (with_reducible assumption) | assumption); have q36 : (((rd_T41 l0_3 x22_2).f0) : Int) < ((x5_2.length : Int) : Int) := of_decide_eq_true (by first | (with_reducible assumption) | assumption); obtain ⟨go36, co36, eo36, gb36, gl36, cl36, HG36⟩ := Kd.R_form HO_5.out (by omega); (first | cases eo36 | (injection eo36 with ea_ en_ ec_; (first | subst ea_ | (injection ea_ with ea_; subst ea_)); subst ec_; clear en_)); have GB36 := Aside0.mk gb36; have GG36 := Aside0.mk HG36; clear gb36 gl36 HG36; (first | simp only [add_plain] at hx110_0 | skip); (first | simp only [add_plain] at hx115_0 | skip); (first | simp only [add_plain] at hx117_0 | skip); obtain ⟨hx36_0, hf36_0⟩ := Kd.R_celln 0 HO_5.out (((rd_T41 l0_3 x22_2).f0) : Int) p36 q36; replace p36 := eq_true p36; replace q36 := eq_true q36; obtain ⟨hy45_, hz45_⟩ := Kd.R_celln 0 HO_5.out (((rd_T41 l0_3 x22_2).f0) : Int) (of_decide_eq_true (by first | (with_reducible assumption) | assumption)) (of_decide_eq_true (by first | (with_reducible assumption) | assumption)); have HP45 := Kd.R_putg HO_5.out (((rd_T41 l0_3 x22_2).f0) : Int) (Go.bits .or .u64 (Go.bits .or .u64 (rd x5_2 ((rd_T41 l0_3 x22_2).f0)) (ji19)) (rd x5_2 t113))) | ((with_reducible refine gate_store (t := 45) (p := 71) rfl ?_); refine store_event (t := 45) (p := 71) (v := ?vo_w46) (w1 := (w43.setCell ⟨go36, (((rd_T41 l0_3 x22_2).f0) : Int).toNat, none⟩ (.int .u64 (Go.bits .or .u64 (Go.bits .or .u64 (rd x5_2 ((rd_T41 l0_3 x22_2).f0)) (ji19)) (rd x5_2 t113))))) ?hg ?ho ?hn ?hr ?_; (case ho => rfl); (case hg => rfl); (case hn => rfl); (case hr => first | (go_simp; done) | (go_simp; rfl)); intro w46 hw; have hg : w43.grownBy w46 (some go36) := (by rw [hw]; exact HP45.2); have hp_ : Kd.R (Kd.int .u64) 45 w46 w.heap.size (fun _ => True) (.slice (some ⟨go36, 0, none⟩) x5_2.length co40) y118 := (by rw [hw, Ny118.out]; exact HP45.1); clear HP45; have n0_ := Aside0.mk (hp_); have n1_ := Aside0.mk (blk_grown (g := gb104) (o := .cells #[.slice A0_0 l0_0.length c0_0, .slice A0_1 l0_1.length c0_1, .int .i64 a0_2, .slice (some ad108) l0_3.length c0_3] 32 (0, 0)) (by (with_reducible repeat (first | refine blk_drewN ?_ _ | refine blk_drew ?_ | refine blk_alloc ?_ _)); exact BK104.out) hg (Kd.R_ne HO_5.out BK104.out (by decide))); have n2_ := Aside0.mk (blk_grown (g := gb109) (o := .cells #[.int .i64 ((rd_T41 l0_3 x22_2).f0), .slice A108_1 ((rd_T41 l0_3 x22_2).f1).length c108_1] 41 (0, 0)) (by (with_reducible repeat (first | refine blk_drewN ?_ _ | refine blk_drew ?_ | refine blk_alloc ?_ _)); exact BK109.out) hg (Kd.R_ne HO_5.out BK109.out (by decide))); have n3_ := Aside0.mk ((by rw [hw]; exact below_set (HB.out) GB36.out : Below w.heap.size w w46)); clear HO_5; clear BK104; clear BK109; clear HB; have HO_5 := n0_; have BK104 := n1_; have BK109 := n2_; have HB := n3_; clear n0_ n1_ n2_ n3_; clear hg hw hp_))
                                 go_roundg k2
                                 case measure => have := HK1.out; have := HK2.out; omega
                                 case rel => exact ⟨(y118), (((Go.bits .or .u64 (Go.bits .or .u64 (rd x5_2 ((rd_T41 l0_3 x22_2).f0)) (ji19)) (rd x5_2 t113)) != (rd x5_2 ((rd_T41 l0_3 x22_2).f0)))), (wrap64 (x22_2 + 1)), (by first | rfl | (simp; done) | (simp only [← hji19] <;> (first | rfl | simp)) | (simp [*]; done)), (by first | rfl | (simp; done) | (simp [*]; done)), H', ⟨by have := HK1.out; have := HK2.out; omega⟩, ⟨by (with_reducible repeat (first | apply Kd.R_alloc | apply Kd.R_drewN | apply Kd.R_drew)); exact HO_5.out⟩, ⟨by (with_reducible repeat (first | refine blk_drewN ?_ _ | refine blk_drew ?_ | refine blk_alloc ?_ _)); exact BK104.out⟩, ⟨by repeat (first | (with_reducible first | exact HB.out | apply below_alloc | apply pw_below_drewN | apply below_drew1 | refine below_set ?_ GE104.out | refine below_set ?_ GE109.out) | exact HB.out)⟩⟩
                             · rw [if_neg c23] at H
                               exact absurd H (by simp)
                           · rw [if_neg c22] at H
                             exact absurd H (by simp)
                         · replace c21 := Bool.eq_false_iff.mpr c21
                           subst c21
                           have H1 : (if x6_2 = true then (ends_sets.l1 k2 a1 (x5_2.set (((rd_T41 l0_3 x22_2).f0) : Int).toNat (Go.bits .or .u64 (rd x5_2 ((rd_T41 l0_3 x22_2).f0)) (ji19))) true l0_3 (l0_3.length : Int) (wrap64 (x22_2 + 1)) l0_0 l0_1 a0_2 l0_3) else (ends_sets.l1 k2 a1 (x5_2.set (((rd_T41 l0_3 x22_2).f0) : Int).toNat (Go.bits .or .u64 (rd x5_2 ((rd_T41 l0_3 x22_2).f0)) (ji19))) ((Go.bits .or .u64 (rd x5_2 ((rd_T41 l0_3 x22_2).f0)) (ji19)) != (rd x5_2 ((rd_T41 l0_3 x22_2).f0))) l0_3 (l0_3.length : Int) (wrap64 (x22_2 + 1)) l0_0 l0_1 a0_2 l0_3)) = some r := by rw [if_neg (show ¬ (false = true) by decide)] at H; exact H
                           clear H
                           have H := H1
                           clear H1
                           by_cases c47 : x6_2 = true
                           · subst c47
                             have H1 : (ends_sets.l1 k2 a1 (x5_2.set (((rd_T41 l0_3 x22_2).f0) : Int).toNat (Go.bits .or .u64 (rd x5_2 ((rd_T41 l0_3 x22_2).f0)) (ji19))) true l0_3 (l0_3.length : Int) (wrap64 (x22_2 + 1)) l0_0 l0_1 a0_2 l0_3) = some r := by rw [if_pos rfl] at H; exact H
                             clear H
                             have H := H1
                             clear H1
                             obtain ⟨y119, hy119⟩ : ∃ y_ : List Int, y_ = (x5_2.set (((rd_T41 l0_3 x22_2).f0) : Int).toNat (Go.bits .or .u64 (rd x5_2 ((rd_T41 l0_3 x22_2).f0)) (ji19))) := ⟨_, rfl⟩
                             replace H : (ends_sets.l1 k2 a1 y119 true l0_3 (l0_3.length : Int) (wrap64 (x22_2 + 1)) l0_0 l0_1 a0_2 l0_3) = some r := by first | (rw [hy119]; with_reducible exact H) | (have H2_ := (Option.bind_some _ _).symm.trans H; rw [hy119]; with_reducible exact H2_) | (have H2_ := (Option.bind_some _ _).symm.trans H; with_reducible exact H2_) | with_reducible exact H | (rw [hy119]; exact H) | exact H
                             have Ny119 := Aside0.mk hy119
                             clear hy119
                             have H' := Aside0.mk H
                             clear H
                             have p108 : 0 ≤ (x22_2 : Int) := of_decide_eq_true (by first | (with_reducible assumption) | assumption)
                             have q108 : x22_2 < (l0_3.length : Int) := of_decide_eq_true (by first | (with_reducible assumption) | assumption)
                             obtain ⟨ad108, A108_1, c108_1, e108, hx108_0, hx108_1, hl108_1, hi108_1⟩ := at_T41 HR0_3.out x22_2 p108 q108
                             cases e108
                             replace hx108_0 := (HB.out.cell (World.block_lt_of_cell? w _ hx108_0)).trans hx108_0
                             replace hx108_1 := (HB.out.cell (World.block_lt_of_cell? w _ hx108_1)).trans hx108_1
                             have HR108_1 := Aside0.mk hi108_1
                             have HC108_1 := Aside0.mk hl108_1
                             clear hi108_1 hl108_1
                             replace p108 := eq_true p108
                             replace q108 := eq_true q108
                             go_wp2_with (first | ((with_reducible refine gate_dst (N := 8) rfl ?_); refine box_event ?hg (N := 8) ?hd (cs := #[.int .i64 0, .slice none 0 0]) (t := 41) ?hr ?_; (case hd => rfl); (case hg => rfl); (case hr => first | (go_simp; done) | (go_simp; rfl)); intro gb109 hg w49 hbox hb; have n0_ := Aside0.mk (Kd.R_below (by (with_reducible repeat (first | apply Kd.R_alloc | apply Kd.R_drewN | apply Kd.R_drew)); exact HO_5.out) hb); have n1_ := Aside0.mk (blk_below (g := gb104) (o := .cells #[.slice A0_0 l0_0.length c0_0, .slice A0_1 l0_1.length c0_1, .int .i64 a0_2, .slice (some ad108) l0_3.length c0_3] 32 (0, 0)) (by (with_reducible repeat (first | refine blk_drewN ?_ _ | refine blk_drew ?_ | refine blk_alloc ?_ _)); exact BK104.out) hb); have n2_ := Aside0.mk (below_step (by repeat (first | (with_reducible first | exact HB.out | apply below_alloc | apply pw_below_drewN | apply below_drew1 | refine below_set ?_ GE104.out) | exact HB.out)) hb); have n3_ := Aside0.mk (hbox); have n4_ := Aside0.mk ((by rw [hg]; exact (below_size (by repeat (first | (with_reducible first | exact HB.out | apply below_alloc | apply pw_below_drewN | apply below_drew1 | refine below_set ?_ GE104.out) | exact HB.out))) : w.heap.size ≤ gb109)); have n5_ := Aside0.mk ((by rw [hg]; exact (below_size (by repeat (first | (with_reducible first | exact HB.out | apply below_alloc | apply pw_below_drewN | apply below_drew1 | refine below_set ?_ GE104.out) | exact HB.out))) : w.heap.size ≤ gb109)); have n6_ := Aside0.mk ((by rw [hg]; exact Nat.ne_of_lt (blk_lt (g := gb104) (o := .cells #[.slice A0_0 l0_0.length c0_0, .slice A0_1 l0_1.length c0_1, .int .i64 a0_2, .slice (some ad108) l0_3.length c0_3] 32 (0, 0)) (by (with_reducible repeat (first | refine blk_drewN ?_ _ | refine blk_drew ?_ | refine blk_alloc ?_ _)); exact BK104.out)) : gb104 ≠ gb109)); have n7_ := Aside0.mk ((by rw [hg]; exact Nat.ne_of_gt (blk_lt (g := gb104) (o := .cells #[.slice A0_0 l0_0.length c0_0, .slice A0_1 l0_1.length c0_1, .int .i64 a0_2, .slice (some ad108) l0_3.length c0_3] 32 (0, 0)) (by (with_reducible repeat (first | refine blk_drewN ?_ _ | refine blk_drew ?_ | refine blk_alloc ?_ _)); exact BK104.out)) : gb109 ≠ gb104)); clear HO_5; clear BK104; clear HB; have HO_5 := n0_; have BK104 := n1_; have HB := n2_; have BK109 := n3_; have GW109 := n4_; have GE109 := n5_; have NB104_109 := n6_; have NB109_104 := n7_; clear n0_ n1_ n2_ n3_ n4_ n5_ n6_ n7_; clear hb hbox hg; have hnb50 := NB109_104.out; have hnc50 := NB104_109.out; have hcz51_0 : w49.cell? ⟨gb109, 0, none⟩ = some (.int .i64 0) := (blk_cell BK109.out 0).trans rfl; have hcz51_1 : w49.cell? ⟨gb109, 1, none⟩ = some (.slice none 0 0) := (blk_cell BK109.out 1).trans rfl; have hfz51_0 := blk_frozen BK109.out 0; have hfz51_1 := blk_frozen BK109.out 1; obtain ⟨Ao52, co52, eo52⟩ := Kd.R_slice HO_5.out; subst eo52; have p110 : 0 ≤ (((rd_T41 l0_3 x22_2).f0) : Int) := of_decide_eq_true (by first | (with_reducible assumption) | assumption); have q110 : ((rd_T41 l0_3 x22_2).f0) < (x5_2.length : Int) := of_decide_eq_true (by first | (with_reducible assumption) | assumption); obtain ⟨ad110, e110, hx110_0⟩ := Kd.at_int (Kd.R_reads' HO_5.out).2.2 ((rd_T41 l0_3 x22_2).f0) p110 q110; cases e110; have hn110_0 : ad110.block ≠ gb109 := Kd.own_blk (Kd.R_ne HO_5.out BK109.out (by decide)); have hn110_1 : ad110.block ≠ gb109 := Kd.own_blk (Kd.R_ne HO_5.out BK109.out (by decide)); replace hx110_0 := (cell_far (p := ⟨gb109, 0, none⟩) (by first | (rw [add_block]; exact hn110_0) | (show (Addr.add _ _).block ≠ _; rw [add_block]; exact hn110_0) | exact hn110_0) (.int .i64 ((rd_T41 l0_3 x22_2).f0))).trans hx110_0; replace hx110_0 := (cell_far (p := ⟨gb109, 1, none⟩) (by first | (rw [add_block]; exact hn110_1) | (show (Addr.add _ _).block ≠ _; rw [add_block]; exact hn110_1) | exact hn110_1) (.slice A108_1 ((rd_T41 l0_3 x22_2).f1).length c108_1)).trans hx110_0; clear hn110_0; clear hn110_1; replace p110 := eq_true p110; replace q110 := eq_true q110) | ((with_reducible refine gate_callee (f := 54) rfl ?_); refine goesL_ (some 35) rfl rfl Tryd.func54 (by kernel_rfl) rfl #[fvI a1, .slice A108_1 ((rd_T41 l0_3 x22_2).f1).length c108_1] rfl (by (try simp only [List.map_toArray, List.map_cons, List.map_nil]); first | done | rfl | (simp only [List.length_drop, List.length_take]; rfl)) ?_; (with_reducible refine (ends_reading_shows.calls a1 _ _ ((rd_T41 l0_3 x22_2).f1) t111 true _ ?side1 ?side2 A16.out).mono ?_); (case side1 => exact Kd.C_below HR108_1.out (by repeat (first | (with_reducible first | exact HB.out | apply below_alloc | apply pw_below_drewN | apply below_drew1 | refine below_set ?_ GE104.out | refine below_set ?_ GE109.out) | exact HB.out))); (case side2 => exact HC108_1.out); rintro e w53 ⟨rfl, hb⟩; refine ⟨_, rfl, ?_⟩; have n0_ := Aside0.mk (Kd.R_below (by (with_reducible repeat (first | apply Kd.R_alloc | apply Kd.R_drewN | apply Kd.R_drew)); exact (Kd.R_mono (Kd.R_far (p := ⟨gb109, 1, none⟩) (Kd.R_far (p := ⟨gb109, 0, none⟩) (Kd.R_types HO_5.out BK109.out (by decide)) (fun _ hk => hk.2) (.int .i64 ((rd_T41 l0_3 x22_2).f0))) (fun _ hk => hk.2) (.slice A108_1 ((rd_T41 l0_3 x22_2).f1).length c108_1)) (fun _ h_ => h_.1))) hb); have n1_ := Aside0.mk (blk_below (g := gb104) (o := .cells #[.slice A0_0 l0_0.length c0_0, .slice A0_1 l0_1.length c0_1, .int .i64 a0_2, .slice (some ad108) l0_3.length c0_3] 32 (0, 0)) (by (with_reducible repeat (first | refine blk_drewN ?_ _ | refine blk_drew ?_ | refine blk_alloc ?_ _)); refine blk_far ?_ NB104_109.out _; (with_reducible repeat (first | refine blk_drewN ?_ _ | refine blk_drew ?_ | refine blk_alloc ?_ _)); refine blk_far ?_ NB104_109.out _; (with_reducible repeat (first | refine blk_drewN ?_ _ | refine blk_drew ?_ | refine blk_alloc ?_ _)); exact BK104.out) hb); have n2_ := Aside0.mk (blk_below (g := gb109) (o := .cells #[.int .i64 ((rd_T41 l0_3 x22_2).f0), .slice A108_1 ((rd_T41 l0_3 x22_2).f1).length c108_1] 41 (0, 0)) (by (with_reducible repeat (first | refine blk_drewN ?_ _ | refine blk_drew ?_ | refine blk_alloc ?_ _)); refine blk_put (cs := #[.int .i64 ((rd_T41 l0_3 x22_2).f0), .slice none 0 0]) ?_ 1 _ rfl; (with_reducible repeat (first | refine blk_drewN ?_ _ | refine blk_drew ?_ | refine blk_alloc ?_ _)); refine blk_put (cs := #[.int .i64 0, .slice none 0 0]) ?_ 0 _ rfl; (with_reducible repeat (first | refine blk_drewN ?_ _ | refine blk_drew ?_ | refine blk_alloc ?_ _)); exact BK109.out) hb); have n3_ := Aside0.mk (below_step (by repeat (first | (with_reducible first | exact HB.out | apply below_alloc | apply pw_below_drewN | apply below_drew1 | refine below_set ?_ GE104.out | refine below_set ?_ GE109.out) | exact HB.out)) hb); clear HO_5; clear BK104; clear BK109; clear HB; have HO_5 := n0_; have BK104 := n1_; have BK109 := n2_; have HB := n3_; clear n0_ n1_ n2_ n3_; (try clear hb); (try clear hb2); (try clear hk); (try clear hi); have hcz54_0 : w53.cell? ⟨gb109, 0, none⟩ = some (.int .i64 ((rd_T41 l0_3 x22_2).f0)) := (blk_cell BK109.out 0).trans rfl; have hcz54_1 : w53.cell? ⟨gb109, 1, none⟩ = some (.slice A108_1 ((rd_T41 l0_3 x22_2).f1).length c108_1) := (blk_cell BK109.out 1).trans rfl; have hfz54_0 := blk_frozen BK109.out 0; have hfz54_1 := blk_frozen BK109.out 1) | ((with_reducible refine gate_callee (f := 55) rfl ?_); refine goesL_ (some 47) rfl rfl Tryd.func55 (by kernel_rfl) rfl #[fvI a1, .slice A108_1 ((rd_T41 l0_3 x22_2).f1).length c108_1] rfl (by (try simp only [List.map_toArray, List.map_cons, List.map_nil]); first | done | rfl | (simp only [List.length_drop, List.length_take]; rfl)) ?_; (with_reducible refine (ends_reading_leads.calls a1 _ _ ((rd_T41 l0_3 x22_2).f1) t113 false _ ?side1 ?side2 A20.out).mono ?_); (case side1 => repeat (first | exact (Kd.C_below HR108_1.out HB.out) | (with_reducible refine Kd.C_alloc ?_ _) | (with_reducible refine Kd.C_drewN ?_ _) | (with_reducible refine Kd.C_drew ?_))); (case side2 => exact HC108_1.out); rintro e w55 ⟨rfl, hb⟩; refine ⟨_, rfl, ?_⟩; have n0_ := Aside0.mk (Kd.R_below (by (with_reducible repeat (first | apply Kd.R_alloc | apply Kd.R_drewN | apply Kd.R_drew)); exact HO_5.out) hb); have n1_ := Aside0.mk (blk_below (g := gb104) (o := .cells #[.slice A0_0 l0_0.length c0_0, .slice A0_1 l0_1.length c0_1, .int .i64 a0_2, .slice (some ad108) l0_3.length c0_3] 32 (0, 0)) (by (with_reducible repeat (first | refine blk_drewN ?_ _ | refine blk_drew ?_ | refine blk_alloc ?_ _)); exact BK104.out) hb); have n2_ := Aside0.mk (blk_below (g := gb109) (o := .cells #[.int .i64 ((rd_T41 l0_3 x22_2).f0), .slice A108_1 ((rd_T41 l0_3 x22_2).f1).length c108_1] 41 (0, 0)) (by (with_reducible repeat (first | refine blk_drewN ?_ _ | refine blk_drew ?_ | refine blk_alloc ?_ _)); exact BK109.out) hb); have n3_ := Aside0.mk (below_step (by repeat (first | (with_reducible first | exact HB.out | apply below_alloc | apply pw_below_drewN | apply below_drew1 | refine below_set ?_ GE104.out | refine below_set ?_ GE109.out) | exact HB.out)) hb); clear HO_5; clear BK104; clear BK109; clear HB; have HO_5 := n0_; have BK104 := n1_; have BK109 := n2_; have HB := n3_; clear n0_ n1_ n2_ n3_; (try clear hb); (try clear hb2); (try clear hk); (try clear hi); have hcz56_0 : w55.cell? ⟨gb109, 0, none⟩ = some (.int .i64 ((rd_T41 l0_3 x22_2).f0)) := (blk_cell BK109.out 0).trans rfl; have hcz56_1 : w55.cell? ⟨gb109, 1, none⟩ = some (.slice A108_1 ((rd_T41 l0_3 x22_2).f1).length c108_1) := (blk_cell BK109.out 1).trans rfl; have hfz56_0 := blk_frozen BK109.out 0; have hfz56_1 := blk_frozen BK109.out 1; have p48 : 0 ≤ (((rd_T41 l0_3 x22_2).f0) : Int) := of_decide_eq_true (by first | (with_reducible assumption) | assumption); have q48 : (((rd_T41 l0_3 x22_2).f0) : Int) < ((x5_2.length : Int) : Int) := of_decide_eq_true (by first | (with_reducible assumption) | assumption); obtain ⟨go48, co48, eo48, gb48, gl48, cl48, HG48⟩ := Kd.R_form HO_5.out (by omega); (first | cases eo48 | (injection eo48 with ea_ en_ ec_; (first | subst ea_ | (injection ea_ with ea_; subst ea_)); subst ec_; clear en_)); have GB48 := Aside0.mk gb48; have GG48 := Aside0.mk HG48; clear gb48 gl48 HG48; (first | simp only [add_plain] at hx110_0 | skip); obtain ⟨hx48_0, hf48_0⟩ := Kd.R_celln 0 HO_5.out (((rd_T41 l0_3 x22_2).f0) : Int) p48 q48; replace p48 := eq_true p48; replace q48 := eq_true q48; obtain ⟨hy57_, hz57_⟩ := Kd.R_celln 0 HO_5.out (((rd_T41 l0_3 x22_2).f0) : Int) (of_decide_eq_true (by first | (with_reducible assumption) | assumption)) (of_decide_eq_true (by first | (with_reducible assumption) | assumption)); have HP57 := Kd.R_putg HO_5.out (((rd_T41 l0_3 x22_2).f0) : Int) (Go.bits .or .u64 (rd x5_2 ((rd_T41 l0_3 x22_2).f0)) (ji19))) | ((with_reducible refine gate_store (t := 45) (p := 71) rfl ?_); refine store_event (t := 45) (p := 71) (v := ?vo_w58) (w1 := (w55.setCell ⟨go48, (((rd_T41 l0_3 x22_2).f0) : Int).toNat, none⟩ (.int .u64 (Go.bits .or .u64 (rd x5_2 ((rd_T41 l0_3 x22_2).f0)) (ji19))))) ?hg ?ho ?hn ?hr ?_; (case ho => rfl); (case hg => rfl); (case hn => rfl); (case hr => first | (go_simp; done) | (go_simp; rfl)); intro w58 hw; have hg : w55.grownBy w58 (some go48) := (by rw [hw]; exact HP57.2); have hp_ : Kd.R (Kd.int .u64) 45 w58 w.heap.size (fun _ => True) (.slice (some ⟨go48, 0, none⟩) x5_2.length co52) y119 := (by rw [hw, Ny119.out]; exact HP57.1); clear HP57; have n0_ := Aside0.mk (hp_); have n1_ := Aside0.mk (blk_grown (g := gb104) (o := .cells #[.slice A0_0 l0_0.length c0_0, .slice A0_1 l0_1.length c0_1, .int .i64 a0_2, .slice (some ad108) l0_3.length c0_3] 32 (0, 0)) (by (with_reducible repeat (first | refine blk_drewN ?_ _ | refine blk_drew ?_ | refine blk_alloc ?_ _)); exact BK104.out) hg (Kd.R_ne HO_5.out BK104.out (by decide))); have n2_ := Aside0.mk (blk_grown (g := gb109) (o := .cells #[.int .i64 ((rd_T41 l0_3 x22_2).f0), .slice A108_1 ((rd_T41 l0_3 x22_2).f1).length c108_1] 41 (0, 0)) (by (with_reducible repeat (first | refine blk_drewN ?_ _ | refine blk_drew ?_ | refine blk_alloc ?_ _)); exact BK109.out) hg (Kd.R_ne HO_5.out BK109.out (by decide))); have n3_ := Aside0.mk ((by rw [hw]; exact below_set (HB.out) GB48.out : Below w.heap.size w w58)); clear HO_5; clear BK104; clear BK109; clear HB; have HO_5 := n0_; have BK104 := n1_; have BK109 := n2_; have HB := n3_; clear n0_ n1_ n2_ n3_; clear hg hw hp_))
                             go_roundg k2
                             case measure => have := HK1.out; have := HK2.out; omega
                             case rel => exact ⟨(y119), (true), (wrap64 (x22_2 + 1)), (by first | rfl | (simp; done) | (simp [*]; done)), (by first | rfl | (simp; done) | (simp [*]; done)), H', ⟨by have := HK1.out; have := HK2.out; omega⟩, ⟨by (with_reducible repeat (first | apply Kd.R_alloc | apply Kd.R_drewN | apply Kd.R_drew)); exact HO_5.out⟩, ⟨by (with_reducible repeat (first | refine blk_drewN ?_ _ | refine blk_drew ?_ | refine blk_alloc ?_ _)); exact BK104.out⟩, ⟨by repeat (first | (with_reducible first | exact HB.out | apply below_alloc | apply pw_below_drewN | apply below_drew1 | refine below_set ?_ GE104.out | refine below_set ?_ GE109.out) | exact HB.out)⟩⟩
                           · replace c47 := Bool.eq_false_iff.mpr c47
                             subst c47
                             have H1 : (ends_sets.l1 k2 a1 (x5_2.set (((rd_T41 l0_3 x22_2).f0) : Int).toNat (Go.bits .or .u64 (rd x5_2 ((rd_T41 l0_3 x22_2).f0)) (ji19))) ((Go.bits .or .u64 (rd x5_2 ((rd_T41 l0_3 x22_2).f0)) (ji19)) != (rd x5_2 ((rd_T41 l0_3 x22_2).f0))) l0_3 (l0_3.length : Int) (wrap64 (x22_2 + 1)) l0_0 l0_1 a0_2 l0_3) = some r := by rw [if_neg (show ¬ (false = true) by decide)] at H; exact H
                             clear H
                             have H := H1
                             clear H1
                             obtain ⟨y121, hy121⟩ : ∃ y_ : List Int, y_ = (x5_2.set (((rd_T41 l0_3 x22_2).f0) : Int).toNat (Go.bits .or .u64 (rd x5_2 ((rd_T41 l0_3 x22_2).f0)) (ji19))) := ⟨_, rfl⟩
                             replace H : (ends_sets.l1 k2 a1 y121 ((Go.bits .or .u64 (rd x5_2 ((rd_T41 l0_3 x22_2).f0)) (ji19)) != (rd x5_2 ((rd_T41 l0_3 x22_2).f0))) l0_3 (l0_3.length : Int) (wrap64 (x22_2 + 1)) l0_0 l0_1 a0_2 l0_3) = some r := by first | (rw [hy121]; with_reducible exact H) | (have H2_ := (Option.bind_some _ _).symm.trans H; rw [hy121]; with_reducible exact H2_) | (have H2_ := (Option.bind_some _ _).symm.trans H; with_reducible exact H2_) | with_reducible exact H | (rw [hy121]; exact H) | exact H
                             have Ny121 := Aside0.mk hy121
                             clear hy121
                             have H' := Aside0.mk H
                             clear H
                             have p108 : 0 ≤ (x22_2 : Int) := of_decide_eq_true (by first | (with_reducible assumption) | assumption)
                             have q108 : x22_2 < (l0_3.length : Int) := of_decide_eq_true (by first | (with_reducible assumption) | assumption)
                             obtain ⟨ad108, A108_1, c108_1, e108, hx108_0, hx108_1, hl108_1, hi108_1⟩ := at_T41 HR0_3.out x22_2 p108 q108
                             cases e108
                             replace hx108_0 := (HB.out.cell (World.block_lt_of_cell? w _ hx108_0)).trans hx108_0
                             replace hx108_1 := (HB.out.cell (World.block_lt_of_cell? w _ hx108_1)).trans hx108_1
                             have HR108_1 := Aside0.mk hi108_1
                             have HC108_1 := Aside0.mk hl108_1
                             clear hi108_1 hl108_1
                             replace p108 := eq_true p108
                             replace q108 := eq_true q108
                             go_wp2_with (first | ((with_reducible refine gate_dst (N := 8) rfl ?_); refine box_event ?hg (N := 8) ?hd (cs := #[.int .i64 0, .slice none 0 0]) (t := 41) ?hr ?_; (case hd => rfl); (case hg => rfl); (case hr => first | (go_simp; done) | (go_simp; rfl)); intro gb109 hg w60 hbox hb; have n0_ := Aside0.mk (Kd.R_below (by (with_reducible repeat (first | apply Kd.R_alloc | apply Kd.R_drewN | apply Kd.R_drew)); exact HO_5.out) hb); have n1_ := Aside0.mk (blk_below (g := gb104) (o := .cells #[.slice A0_0 l0_0.length c0_0, .slice A0_1 l0_1.length c0_1, .int .i64 a0_2, .slice (some ad108) l0_3.length c0_3] 32 (0, 0)) (by (with_reducible repeat (first | refine blk_drewN ?_ _ | refine blk_drew ?_ | refine blk_alloc ?_ _)); exact BK104.out) hb); have n2_ := Aside0.mk (below_step (by repeat (first | (with_reducible first | exact HB.out | apply below_alloc | apply pw_below_drewN | apply below_drew1 | refine below_set ?_ GE104.out) | exact HB.out)) hb); have n3_ := Aside0.mk (hbox); have n4_ := Aside0.mk ((by rw [hg]; exact (below_size (by repeat (first | (with_reducible first | exact HB.out | apply below_alloc | apply pw_below_drewN | apply below_drew1 | refine below_set ?_ GE104.out) | exact HB.out))) : w.heap.size ≤ gb109)); have n5_ := Aside0.mk ((by rw [hg]; exact (below_size (by repeat (first | (with_reducible first | exact HB.out | apply below_alloc | apply pw_below_drewN | apply below_drew1 | refine below_set ?_ GE104.out) | exact HB.out))) : w.heap.size ≤ gb109)); have n6_ := Aside0.mk ((by rw [hg]; exact Nat.ne_of_lt (blk_lt (g := gb104) (o := .cells #[.slice A0_0 l0_0.length c0_0, .slice A0_1 l0_1.length c0_1, .int .i64 a0_2, .slice (some ad108) l0_3.length c0_3] 32 (0, 0)) (by (with_reducible repeat (first | refine blk_drewN ?_ _ | refine blk_drew ?_ | refine blk_alloc ?_ _)); exact BK104.out)) : gb104 ≠ gb109)); have n7_ := Aside0.mk ((by rw [hg]; exact Nat.ne_of_gt (blk_lt (g := gb104) (o := .cells #[.slice A0_0 l0_0.length c0_0, .slice A0_1 l0_1.length c0_1, .int .i64 a0_2, .slice (some ad108) l0_3.length c0_3] 32 (0, 0)) (by (with_reducible repeat (first | refine blk_drewN ?_ _ | refine blk_drew ?_ | refine blk_alloc ?_ _)); exact BK104.out)) : gb109 ≠ gb104)); clear HO_5; clear BK104; clear HB; have HO_5 := n0_; have BK104 := n1_; have HB := n2_; have BK109 := n3_; have GW109 := n4_; have GE109 := n5_; have NB104_109 := n6_; have NB109_104 := n7_; clear n0_ n1_ n2_ n3_ n4_ n5_ n6_ n7_; clear hb hbox hg; have hnb61 := NB109_104.out; have hnc61 := NB104_109.out; have hcz62_0 : w60.cell? ⟨gb109, 0, none⟩ = some (.int .i64 0) := (blk_cell BK109.out 0).trans rfl; have hcz62_1 : w60.cell? ⟨gb109, 1, none⟩ = some (.slice none 0 0) := (blk_cell BK109.out 1).trans rfl; have hfz62_0 := blk_frozen BK109.out 0; have hfz62_1 := blk_frozen BK109.out 1; obtain ⟨Ao63, co63, eo63⟩ := Kd.R_slice HO_5.out; subst eo63; have p110 : 0 ≤ (((rd_T41 l0_3 x22_2).f0) : Int) := of_decide_eq_true (by first | (with_reducible assumption) | assumption); have q110 : ((rd_T41 l0_3 x22_2).f0) < (x5_2.length : Int) := of_decide_eq_true (by first | (with_reducible assumption) | assumption); obtain ⟨ad110, e110, hx110_0⟩ := Kd.at_int (Kd.R_reads' HO_5.out).2.2 ((rd_T41 l0_3 x22_2).f0) p110 q110; cases e110; have hn110_0 : ad110.block ≠ gb109 := Kd.own_blk (Kd.R_ne HO_5.out BK109.out (by decide)); have hn110_1 : ad110.block ≠ gb109 := Kd.own_blk (Kd.R_ne HO_5.out BK109.out (by decide)); replace hx110_0 := (cell_far (p := ⟨gb109, 0, none⟩) (by first | (rw [add_block]; exact hn110_0) | (show (Addr.add _ _).block ≠ _; rw [add_block]; exact hn110_0) | exact hn110_0) (.int .i64 ((rd_T41 l0_3 x22_2).f0))).trans hx110_0; replace hx110_0 := (cell_far (p := ⟨gb109, 1, none⟩) (by first | (rw [add_block]; exact hn110_1) | (show (Addr.add _ _).block ≠ _; rw [add_block]; exact hn110_1) | exact hn110_1) (.slice A108_1 ((rd_T41 l0_3 x22_2).f1).length c108_1)).trans hx110_0; clear hn110_0; clear hn110_1; replace p110 := eq_true p110; replace q110 := eq_true q110) | ((with_reducible refine gate_callee (f := 54) rfl ?_); refine goesL_ (some 35) rfl rfl Tryd.func54 (by kernel_rfl) rfl #[fvI a1, .slice A108_1 ((rd_T41 l0_3 x22_2).f1).length c108_1] rfl (by (try simp only [List.map_toArray, List.map_cons, List.map_nil]); first | done | rfl | (simp only [List.length_drop, List.length_take]; rfl)) ?_; (with_reducible refine (ends_reading_shows.calls a1 _ _ ((rd_T41 l0_3 x22_2).f1) t111 true _ ?side1 ?side2 A16.out).mono ?_); (case side1 => exact Kd.C_below HR108_1.out (by repeat (first | (with_reducible first | exact HB.out | apply below_alloc | apply pw_below_drewN | apply below_drew1 | refine below_set ?_ GE104.out | refine below_set ?_ GE109.out) | exact HB.out))); (case side2 => exact HC108_1.out); rintro e w64 ⟨rfl, hb⟩; refine ⟨_, rfl, ?_⟩; have n0_ := Aside0.mk (Kd.R_below (by (with_reducible repeat (first | apply Kd.R_alloc | apply Kd.R_drewN | apply Kd.R_drew)); exact (Kd.R_mono (Kd.R_far (p := ⟨gb109, 1, none⟩) (Kd.R_far (p := ⟨gb109, 0, none⟩) (Kd.R_types HO_5.out BK109.out (by decide)) (fun _ hk => hk.2) (.int .i64 ((rd_T41 l0_3 x22_2).f0))) (fun _ hk => hk.2) (.slice A108_1 ((rd_T41 l0_3 x22_2).f1).length c108_1)) (fun _ h_ => h_.1))) hb); have n1_ := Aside0.mk (blk_below (g := gb104) (o := .cells #[.slice A0_0 l0_0.length c0_0, .slice A0_1 l0_1.length c0_1, .int .i64 a0_2, .slice (some ad108) l0_3.length c0_3] 32 (0, 0)) (by (with_reducible repeat (first | refine blk_drewN ?_ _ | refine blk_drew ?_ | refine blk_alloc ?_ _)); refine blk_far ?_ NB104_109.out _; (with_reducible repeat (first | refine blk_drewN ?_ _ | refine blk_drew ?_ | refine blk_alloc ?_ _)); refine blk_far ?_ NB104_109.out _; (with_reducible repeat (first | refine blk_drewN ?_ _ | refine blk_drew ?_ | refine blk_alloc ?_ _)); exact BK104.out) hb); have n2_ := Aside0.mk (blk_below (g := gb109) (o := .cells #[.int .i64 ((rd_T41 l0_3 x22_2).f0), .slice A108_1 ((rd_T41 l0_3 x22_2).f1).length c108_1] 41 (0, 0)) (by (with_reducible repeat (first | refine blk_drewN ?_ _ | refine blk_drew ?_ | refine blk_alloc ?_ _)); refine blk_put (cs := #[.int .i64 ((rd_T41 l0_3 x22_2).f0), .slice none 0 0]) ?_ 1 _ rfl; (with_reducible repeat (first | refine blk_drewN ?_ _ | refine blk_drew ?_ | refine blk_alloc ?_ _)); refine blk_put (cs := #[.int .i64 0, .slice none 0 0]) ?_ 0 _ rfl; (with_reducible repeat (first | refine blk_drewN ?_ _ | refine blk_drew ?_ | refine blk_alloc ?_ _)); exact BK109.out) hb); have n3_ := Aside0.mk (below_step (by repeat (first | (with_reducible first | exact HB.out | apply below_alloc | apply pw_below_drewN | apply below_drew1 | refine below_set ?_ GE104.out | refine below_set ?_ GE109.out) | exact HB.out)) hb); clear HO_5; clear BK104; clear BK109; clear HB; have HO_5 := n0_; have BK104 := n1_; have BK109 := n2_; have HB := n3_; clear n0_ n1_ n2_ n3_; (try clear hb); (try clear hb2); (try clear hk); (try clear hi); have hcz65_0 : w64.cell? ⟨gb109, 0, none⟩ = some (.int .i64 ((rd_T41 l0_3 x22_2).f0)) := (blk_cell BK109.out 0).trans rfl; have hcz65_1 : w64.cell? ⟨gb109, 1, none⟩ = some (.slice A108_1 ((rd_T41 l0_3 x22_2).f1).length c108_1) := (blk_cell BK109.out 1).trans rfl; have hfz65_0 := blk_frozen BK109.out 0; have hfz65_1 := blk_frozen BK109.out 1) | ((with_reducible refine gate_callee (f := 55) rfl ?_); refine goesL_ (some 47) rfl rfl Tryd.func55 (by kernel_rfl) rfl #[fvI a1, .slice A108_1 ((rd_T41 l0_3 x22_2).f1).length c108_1] rfl (by (try simp only [List.map_toArray, List.map_cons, List.map_nil]); first | done | rfl | (simp only [List.length_drop, List.length_take]; rfl)) ?_; (with_reducible refine (ends_reading_leads.calls a1 _ _ ((rd_T41 l0_3 x22_2).f1) t113 false _ ?side1 ?side2 A20.out).mono ?_); (case side1 => repeat (first | exact (Kd.C_below HR108_1.out HB.out) | (with_reducible refine Kd.C_alloc ?_ _) | (with_reducible refine Kd.C_drewN ?_ _) | (with_reducible refine Kd.C_drew ?_))); (case side2 => exact HC108_1.out); rintro e w66 ⟨rfl, hb⟩; refine ⟨_, rfl, ?_⟩; have n0_ := Aside0.mk (Kd.R_below (by (with_reducible repeat (first | apply Kd.R_alloc | apply Kd.R_drewN | apply Kd.R_drew)); exact HO_5.out) hb); have n1_ := Aside0.mk (blk_below (g := gb104) (o := .cells #[.slice A0_0 l0_0.length c0_0, .slice A0_1 l0_1.length c0_1, .int .i64 a0_2, .slice (some ad108) l0_3.length c0_3] 32 (0, 0)) (by (with_reducible repeat (first | refine blk_drewN ?_ _ | refine blk_drew ?_ | refine blk_alloc ?_ _)); exact BK104.out) hb); have n2_ := Aside0.mk (blk_below (g := gb109) (o := .cells #[.int .i64 ((rd_T41 l0_3 x22_2).f0), .slice A108_1 ((rd_T41 l0_3 x22_2).f1).length c108_1] 41 (0, 0)) (by (with_reducible repeat (first | refine blk_drewN ?_ _ | refine blk_drew ?_ | refine blk_alloc ?_ _)); exact BK109.out) hb); have n3_ := Aside0.mk (below_step (by repeat (first | (with_reducible first | exact HB.out | apply below_alloc | apply pw_below_drewN | apply below_drew1 | refine below_set ?_ GE104.out | refine below_set ?_ GE109.out) | exact HB.out)) hb); clear HO_5; clear BK104; clear BK109; clear HB; have HO_5 := n0_; have BK104 := n1_; have BK109 := n2_; have HB := n3_; clear n0_ n1_ n2_ n3_; (try clear hb); (try clear hb2); (try clear hk); (try clear hi); have hcz67_0 : w66.cell? ⟨gb109, 0, none⟩ = some (.int .i64 ((rd_T41 l0_3 x22_2).f0)) := (blk_cell BK109.out 0).trans rfl; have hcz67_1 : w66.cell? ⟨gb109, 1, none⟩ = some (.slice A108_1 ((rd_T41 l0_3 x22_2).f1).length c108_1) := (blk_cell BK109.out 1).trans rfl; have hfz67_0 := blk_frozen BK109.out 0; have hfz67_1 := blk_frozen BK109.out 1; have p120 : 0 ≤ (((rd_T41 l0_3 x22_2).f0) : Int) := of_decide_eq_true (by first | (with_reducible assumption) | assumption); have q120 : ((rd_T41 l0_3 x22_2).f0) < (x5_2.length : Int) := of_decide_eq_true (by first | (with_reducible assumption) | assumption); obtain ⟨ad120, e120, hx120_0⟩ := Kd.at_int (Kd.R_reads' HO_5.out).2.2 ((rd_T41 l0_3 x22_2).f0) p120 q120; obtain rfl : ad110 = ad120 := (by injection e120); replace p120 := eq_true p120; replace q120 := eq_true q120; have p59 : 0 ≤ (((rd_T41 l0_3 x22_2).f0) : Int) := of_decide_eq_true (by first | (with_reducible assumption) | assumption); have q59 : (((rd_T41 l0_3 x22_2).f0) : Int) < ((x5_2.length : Int) : Int) := of_decide_eq_true (by first | (with_reducible assumption) | assumption); obtain ⟨go59, co59, eo59, gb59, gl59, cl59, HG59⟩ := Kd.R_form HO_5.out (by omega); (first | cases eo59 | (injection eo59 with ea_ en_ ec_; (first | subst ea_ | (injection ea_ with ea_; subst ea_)); subst ec_; clear en_)); have GB59 := Aside0.mk gb59; have GG59 := Aside0.mk HG59; clear gb59 gl59 HG59; (first | simp only [add_plain] at hx110_0 | skip); (first | simp only [add_plain] at hx120_0 | skip); obtain ⟨hx59_0, hf59_0⟩ := Kd.R_celln 0 HO_5.out (((rd_T41 l0_3 x22_2).f0) : Int) p59 q59; replace p59 := eq_true p59; replace q59 := eq_true q59; obtain ⟨hy68_, hz68_⟩ := Kd.R_celln 0 HO_5.out (((rd_T41 l0_3 x22_2).f0) : Int) (of_decide_eq_true (by first | (with_reducible assumption) | assumption)) (of_decide_eq_true (by first | (with_reducible assumption) | assumption)); have HP68 := Kd.R_putg HO_5.out (((rd_T41 l0_3 x22_2).f0) : Int) (Go.bits .or .u64 (rd x5_2 ((rd_T41 l0_3 x22_2).f0)) (ji19))) | ((with_reducible refine gate_store (t := 45) (p := 71) rfl ?_); refine store_event (t := 45) (p := 71) (v := ?vo_w69) (w1 := (w66.setCell ⟨go59, (((rd_T41 l0_3 x22_2).f0) : Int).toNat, none⟩ (.int .u64 (Go.bits .or .u64 (rd x5_2 ((rd_T41 l0_3 x22_2).f0)) (ji19))))) ?hg ?ho ?hn ?hr ?_; (case ho => rfl); (case hg => rfl); (case hn => rfl); (case hr => first | (go_simp; done) | (go_simp; rfl)); intro w69 hw; have hg : w66.grownBy w69 (some go59) := (by rw [hw]; exact HP68.2); have hp_ : Kd.R (Kd.int .u64) 45 w69 w.heap.size (fun _ => True) (.slice (some ⟨go59, 0, none⟩) x5_2.length co63) y121 := (by rw [hw, Ny121.out]; exact HP68.1); clear HP68; have n0_ := Aside0.mk (hp_); have n1_ := Aside0.mk (blk_grown (g := gb104) (o := .cells #[.slice A0_0 l0_0.length c0_0, .slice A0_1 l0_1.length c0_1, .int .i64 a0_2, .slice (some ad108) l0_3.length c0_3] 32 (0, 0)) (by (with_reducible repeat (first | refine blk_drewN ?_ _ | refine blk_drew ?_ | refine blk_alloc ?_ _)); exact BK104.out) hg (Kd.R_ne HO_5.out BK104.out (by decide))); have n2_ := Aside0.mk (blk_grown (g := gb109) (o := .cells #[.int .i64 ((rd_T41 l0_3 x22_2).f0), .slice A108_1 ((rd_T41 l0_3 x22_2).f1).length c108_1] 41 (0, 0)) (by (with_reducible repeat (first | refine blk_drewN ?_ _ | refine blk_drew ?_ | refine blk_alloc ?_ _)); exact BK109.out) hg (Kd.R_ne HO_5.out BK109.out (by decide))); have n3_ := Aside0.mk ((by rw [hw]; exact below_set (HB.out) GB59.out : Below w.heap.size w w69)); clear HO_5; clear BK104; clear BK109; clear HB; have HO_5 := n0_; have BK104 := n1_; have BK109 := n2_; have HB := n3_; clear n0_ n1_ n2_ n3_; clear hg hw hp_))
                             go_roundg k2
                             case measure => have := HK1.out; have := HK2.out; omega
                             case rel => exact ⟨(y121), (((Go.bits .or .u64 (rd x5_2 ((rd_T41 l0_3 x22_2).f0)) (ji19)) != (rd x5_2 ((rd_T41 l0_3 x22_2).f0)))), (wrap64 (x22_2 + 1)), (by first | rfl | (simp; done) | (simp only [← hji19] <;> (first | rfl | simp)) | (simp [*]; done)), (by first | rfl | (simp; done) | (simp [*]; done)), H', ⟨by have := HK1.out; have := HK2.out; omega⟩, ⟨by (with_reducible repeat (first | apply Kd.R_alloc | apply Kd.R_drewN | apply Kd.R_drew)); exact HO_5.out⟩, ⟨by (with_reducible repeat (first | refine blk_drewN ?_ _ | refine blk_drew ?_ | refine blk_alloc ?_ _)); exact BK104.out⟩, ⟨by repeat (first | (with_reducible first | exact HB.out | apply below_alloc | apply pw_below_drewN | apply below_drew1 | refine below_set ?_ GE104.out | refine below_set ?_ GE109.out) | exact HB.out)⟩⟩
                       · rw [if_neg c18] at H
                         exact absurd H (by simp)
                     · replace c17 := Bool.eq_false_iff.mpr c17
                       subst c17
                       have H1 : ((ends_reading_leads.f a1 ((rd_T41 l0_3 x22_2).f1)).bind fun bt122 => (if bt122.2 = true then (if 0 ≤ bt122.1 then (if bt122.1 < (x5_2.length : Int) then (if x6_2 = true then (ends_sets.l1 k2 a1 (x5_2.set (((rd_T41 l0_3 x22_2).f0) : Int).toNat (Go.bits .or .u64 (rd x5_2 ((rd_T41 l0_3 x22_2).f0)) (rd x5_2 bt122.1))) true l0_3 (l0_3.length : Int) (wrap64 (x22_2 + 1)) l0_0 l0_1 a0_2 l0_3) else (ends_sets.l1 k2 a1 (x5_2.set (((rd_T41 l0_3 x22_2).f0) : Int).toNat (Go.bits .or .u64 (rd x5_2 ((rd_T41 l0_3 x22_2).f0)) (rd x5_2 bt122.1))) ((Go.bits .or .u64 (rd x5_2 ((rd_T41 l0_3 x22_2).f0)) (rd x5_2 bt122.1)) != (rd x5_2 ((rd_T41 l0_3 x22_2).f0))) l0_3 (l0_3.length : Int) (wrap64 (x22_2 + 1)) l0_0 l0_1 a0_2 l0_3)) else (none)) else (none)) else (if x6_2 = true then (ends_sets.l1 k2 a1 (x5_2.set (((rd_T41 l0_3 x22_2).f0) : Int).toNat (rd x5_2 ((rd_T41 l0_3 x22_2).f0))) true l0_3 (l0_3.length : Int) (wrap64 (x22_2 + 1)) l0_0 l0_1 a0_2 l0_3) else (ends_sets.l1 k2 a1 (x5_2.set (((rd_T41 l0_3 x22_2).f0) : Int).toNat (rd x5_2 ((rd_T41 l0_3 x22_2).f0))) ((rd x5_2 ((rd_T41 l0_3 x22_2).f0)) != (rd x5_2 ((rd_T41 l0_3 x22_2).f0))) l0_3 (l0_3.length : Int) (wrap64 (x22_2 + 1)) l0_0 l0_1 a0_2 l0_3)))) = some r := by rw [if_neg (show ¬ (false = true) by decide)] at H; exact H
                       clear H
                       have H := H1
                       clear H1
                       replace H := Option.bind_eq_some_iff.mp H
                       obtain ⟨⟨t122, t123⟩, A700, H⟩ := H
                       replace H : (if t123 = true then (if 0 ≤ t122 then (if t122 < (x5_2.length : Int) then (if x6_2 = true then (ends_sets.l1 k2 a1 (x5_2.set (((rd_T41 l0_3 x22_2).f0) : Int).toNat (Go.bits .or .u64 (rd x5_2 ((rd_T41 l0_3 x22_2).f0)) (rd x5_2 t122))) true l0_3 (l0_3.length : Int) (wrap64 (x22_2 + 1)) l0_0 l0_1 a0_2 l0_3) else (ends_sets.l1 k2 a1 (x5_2.set (((rd_T41 l0_3 x22_2).f0) : Int).toNat (Go.bits .or .u64 (rd x5_2 ((rd_T41 l0_3 x22_2).f0)) (rd x5_2 t122))) ((Go.bits .or .u64 (rd x5_2 ((rd_T41 l0_3 x22_2).f0)) (rd x5_2 t122)) != (rd x5_2 ((rd_T41 l0_3 x22_2).f0))) l0_3 (l0_3.length : Int) (wrap64 (x22_2 + 1)) l0_0 l0_1 a0_2 l0_3)) else (none)) else (none)) else (if x6_2 = true then (ends_sets.l1 k2 a1 (x5_2.set (((rd_T41 l0_3 x22_2).f0) : Int).toNat (rd x5_2 ((rd_T41 l0_3 x22_2).f0))) true l0_3 (l0_3.length : Int) (wrap64 (x22_2 + 1)) l0_0 l0_1 a0_2 l0_3) else (ends_sets.l1 k2 a1 (x5_2.set (((rd_T41 l0_3 x22_2).f0) : Int).toNat (rd x5_2 ((rd_T41 l0_3 x22_2).f0))) ((rd x5_2 ((rd_T41 l0_3 x22_2).f0)) != (rd x5_2 ((rd_T41 l0_3 x22_2).f0))) l0_3 (l0_3.length : Int) (wrap64 (x22_2 + 1)) l0_0 l0_1 a0_2 l0_3))) = some r := H
                       have A70 := Aside0.mk A700
                       clear A700
                       by_cases c71 : t123 = true
                       · subst c71
                         have H1 : (if 0 ≤ t122 then (if t122 < (x5_2.length : Int) then (if x6_2 = true then (ends_sets.l1 k2 a1 (x5_2.set (((rd_T41 l0_3 x22_2).f0) : Int).toNat (Go.bits .or .u64 (rd x5_2 ((rd_T41 l0_3 x22_2).f0)) (rd x5_2 t122))) true l0_3 (l0_3.length : Int) (wrap64 (x22_2 + 1)) l0_0 l0_1 a0_2 l0_3) else (ends_sets.l1 k2 a1 (x5_2.set (((rd_T41 l0_3 x22_2).f0) : Int).toNat (Go.bits .or .u64 (rd x5_2 ((rd_T41 l0_3 x22_2).f0)) (rd x5_2 t122))) ((Go.bits .or .u64 (rd x5_2 ((rd_T41 l0_3 x22_2).f0)) (rd x5_2 t122)) != (rd x5_2 ((rd_T41 l0_3 x22_2).f0))) l0_3 (l0_3.length : Int) (wrap64 (x22_2 + 1)) l0_0 l0_1 a0_2 l0_3)) else (none)) else (none)) = some r := by rw [if_pos rfl] at H; exact H
                         clear H
                         have H := H1
                         clear H1
                         by_cases c72 : 0 ≤ t122
                         · rw [if_pos c72] at H
                           have c72b0 : decide (0 ≤ t122) = true := decide_eq_true c72
                           clear c72
                           by_cases c73 : t122 < (x5_2.length : Int)
                           · rw [if_pos c73] at H
                             have c73b0 : decide (t122 < (x5_2.length : Int)) = true := decide_eq_true c73
                             clear c73
                             by_cases c74 : x6_2 = true
                             · subst c74
                               have H1 : (ends_sets.l1 k2 a1 (x5_2.set (((rd_T41 l0_3 x22_2).f0) : Int).toNat (Go.bits .or .u64 (rd x5_2 ((rd_T41 l0_3 x22_2).f0)) (rd x5_2 t122))) true l0_3 (l0_3.length : Int) (wrap64 (x22_2 + 1)) l0_0 l0_1 a0_2 l0_3) = some r := by rw [if_pos rfl] at H; exact H
                               clear H
                               have H := H1
                               clear H1
                               obtain ⟨y125, hy125⟩ : ∃ y_ : List Int, y_ = (x5_2.set (((rd_T41 l0_3 x22_2).f0) : Int).toNat (Go.bits .or .u64 (rd x5_2 ((rd_T41 l0_3 x22_2).f0)) (rd x5_2 t122))) := ⟨_, rfl⟩
                               replace H : (ends_sets.l1 k2 a1 y125 true l0_3 (l0_3.length : Int) (wrap64 (x22_2 + 1)) l0_0 l0_1 a0_2 l0_3) = some r := by first | (rw [hy125]; with_reducible exact H) | (have H2_ := (Option.bind_some _ _).symm.trans H; rw [hy125]; with_reducible exact H2_) | (have H2_ := (Option.bind_some _ _).symm.trans H; with_reducible exact H2_) | with_reducible exact H | (rw [hy125]; exact H) | exact H
                               have Ny125 := Aside0.mk hy125
                               clear hy125
                               have H' := Aside0.mk H
                               clear H
                               have p108 : 0 ≤ (x22_2 : Int) := of_decide_eq_true (by first | (with_reducible assumption) | assumption)
                               have q108 : x22_2 < (l0_3.length : Int) := of_decide_eq_true (by first | (with_reducible assumption) | assumption)
                               obtain ⟨ad108, A108_1, c108_1, e108, hx108_0, hx108_1, hl108_1, hi108_1⟩ := at_T41 HR0_3.out x22_2 p108 q108
                               cases e108
                               replace hx108_0 := (HB.out.cell (World.block_lt_of_cell? w _ hx108_0)).trans hx108_0
                               replace hx108_1 := (HB.out.cell (World.block_lt_of_cell? w _ hx108_1)).trans hx108_1
                               have HR108_1 := Aside0.mk hi108_1
                               have HC108_1 := Aside0.mk hl108_1
                               clear hi108_1 hl108_1
                               replace p108 := eq_true p108
                               replace q108 := eq_true q108
                               go_wp2_with (first | ((with_reducible refine gate_dst (N := 8) rfl ?_); refine box_event ?hg (N := 8) ?hd (cs := #[.int .i64 0, .slice none 0 0]) (t := 41) ?hr ?_; (case hd => rfl); (case hg => rfl); (case hr => first | (go_simp; done) | (go_simp; rfl)); intro gb109 hg w76 hbox hb; have n0_ := Aside0.mk (Kd.R_below (by (with_reducible repeat (first | apply Kd.R_alloc | apply Kd.R_drewN | apply Kd.R_drew)); exact HO_5.out) hb); have n1_ := Aside0.mk (blk_below (g := gb104) (o := .cells #[.slice A0_0 l0_0.length c0_0, .slice A0_1 l0_1.length c0_1, .int .i64 a0_2, .slice (some ad108) l0_3.length c0_3] 32 (0, 0)) (by (with_reducible repeat (first | refine blk_drewN ?_ _ | refine blk_drew ?_ | refine blk_alloc ?_ _)); exact BK104.out) hb); have n2_ := Aside0.mk (below_step (by repeat (first | (with_reducible first | exact HB.out | apply below_alloc | apply pw_below_drewN | apply below_drew1 | refine below_set ?_ GE104.out) | exact HB.out)) hb); have n3_ := Aside0.mk (hbox); have n4_ := Aside0.mk ((by rw [hg]; exact (below_size (by repeat (first | (with_reducible first | exact HB.out | apply below_alloc | apply pw_below_drewN | apply below_drew1 | refine below_set ?_ GE104.out) | exact HB.out))) : w.heap.size ≤ gb109)); have n5_ := Aside0.mk ((by rw [hg]; exact (below_size (by repeat (first | (with_reducible first | exact HB.out | apply below_alloc | apply pw_below_drewN | apply below_drew1 | refine below_set ?_ GE104.out) | exact HB.out))) : w.heap.size ≤ gb109)); have n6_ := Aside0.mk ((by rw [hg]; exact Nat.ne_of_lt (blk_lt (g := gb104) (o := .cells #[.slice A0_0 l0_0.length c0_0, .slice A0_1 l0_1.length c0_1, .int .i64 a0_2, .slice (some ad108) l0_3.length c0_3] 32 (0, 0)) (by (with_reducible repeat (first | refine blk_drewN ?_ _ | refine blk_drew ?_ | refine blk_alloc ?_ _)); exact BK104.out)) : gb104 ≠ gb109)); have n7_ := Aside0.mk ((by rw [hg]; exact Nat.ne_of_gt (blk_lt (g := gb104) (o := .cells #[.slice A0_0 l0_0.length c0_0, .slice A0_1 l0_1.length c0_1, .int .i64 a0_2, .slice (some ad108) l0_3.length c0_3] 32 (0, 0)) (by (with_reducible repeat (first | refine blk_drewN ?_ _ | refine blk_drew ?_ | refine blk_alloc ?_ _)); exact BK104.out)) : gb109 ≠ gb104)); clear HO_5; clear BK104; clear HB; have HO_5 := n0_; have BK104 := n1_; have HB := n2_; have BK109 := n3_; have GW109 := n4_; have GE109 := n5_; have NB104_109 := n6_; have NB109_104 := n7_; clear n0_ n1_ n2_ n3_ n4_ n5_ n6_ n7_; clear hb hbox hg; have hnb77 := NB109_104.out; have hnc77 := NB104_109.out; have hcz78_0 : w76.cell? ⟨gb109, 0, none⟩ = some (.int .i64 0) := (blk_cell BK109.out 0).trans rfl; have hcz78_1 : w76.cell? ⟨gb109, 1, none⟩ = some (.slice none 0 0) := (blk_cell BK109.out 1).trans rfl; have hfz78_0 := blk_frozen BK109.out 0; have hfz78_1 := blk_frozen BK109.out 1; obtain ⟨Ao79, co79, eo79⟩ := Kd.R_slice HO_5.out; subst eo79; have p110 : 0 ≤ (((rd_T41 l0_3 x22_2).f0) : Int) := of_decide_eq_true (by first | (with_reducible assumption) | assumption); have q110 : ((rd_T41 l0_3 x22_2).f0) < (x5_2.length : Int) := of_decide_eq_true (by first | (with_reducible assumption) | assumption); obtain ⟨ad110, e110, hx110_0⟩ := Kd.at_int (Kd.R_reads' HO_5.out).2.2 ((rd_T41 l0_3 x22_2).f0) p110 q110; cases e110; have hn110_0 : ad110.block ≠ gb109 := Kd.own_blk (Kd.R_ne HO_5.out BK109.out (by decide)); have hn110_1 : ad110.block ≠ gb109 := Kd.own_blk (Kd.R_ne HO_5.out BK109.out (by decide)); replace hx110_0 := (cell_far (p := ⟨gb109, 0, none⟩) (by first | (rw [add_block]; exact hn110_0) | (show (Addr.add _ _).block ≠ _; rw [add_block]; exact hn110_0) | exact hn110_0) (.int .i64 ((rd_T41 l0_3 x22_2).f0))).trans hx110_0; replace hx110_0 := (cell_far (p := ⟨gb109, 1, none⟩) (by first | (rw [add_block]; exact hn110_1) | (show (Addr.add _ _).block ≠ _; rw [add_block]; exact hn110_1) | exact hn110_1) (.slice A108_1 ((rd_T41 l0_3 x22_2).f1).length c108_1)).trans hx110_0; clear hn110_0; clear hn110_1; replace p110 := eq_true p110; replace q110 := eq_true q110) | ((with_reducible refine gate_callee (f := 54) rfl ?_); refine goesL_ (some 35) rfl rfl Tryd.func54 (by kernel_rfl) rfl #[fvI a1, .slice A108_1 ((rd_T41 l0_3 x22_2).f1).length c108_1] rfl (by (try simp only [List.map_toArray, List.map_cons, List.map_nil]); first | done | rfl | (simp only [List.length_drop, List.length_take]; rfl)) ?_; (with_reducible refine (ends_reading_shows.calls a1 _ _ ((rd_T41 l0_3 x22_2).f1) t111 false _ ?side1 ?side2 A16.out).mono ?_); (case side1 => exact Kd.C_below HR108_1.out (by repeat (first | (with_reducible first | exact HB.out | apply below_alloc | apply pw_below_drewN | apply below_drew1 | refine below_set ?_ GE104.out | refine below_set ?_ GE109.out) | exact HB.out))); (case side2 => exact HC108_1.out); rintro e w80 ⟨rfl, hb⟩; refine ⟨_, rfl, ?_⟩; have n0_ := Aside0.mk (Kd.R_below (by (with_reducible repeat (first | apply Kd.R_alloc | apply Kd.R_drewN | apply Kd.R_drew)); exact (Kd.R_mono (Kd.R_far (p := ⟨gb109, 1, none⟩) (Kd.R_far (p := ⟨gb109, 0, none⟩) (Kd.R_types HO_5.out BK109.out (by decide)) (fun _ hk => hk.2) (.int .i64 ((rd_T41 l0_3 x22_2).f0))) (fun _ hk => hk.2) (.slice A108_1 ((rd_T41 l0_3 x22_2).f1).length c108_1)) (fun _ h_ => h_.1))) hb); have n1_ := Aside0.mk (blk_below (g := gb104) (o := .cells #[.slice A0_0 l0_0.length c0_0, .slice A0_1 l0_1.length c0_1, .int .i64 a0_2, .slice (some ad108) l0_3.length c0_3] 32 (0, 0)) (by (with_reducible repeat (first | refine blk_drewN ?_ _ | refine blk_drew ?_ | refine blk_alloc ?_ _)); refine blk_far ?_ NB104_109.out _; (with_reducible repeat (first | refine blk_drewN ?_ _ | refine blk_drew ?_ | refine blk_alloc ?_ _)); refine blk_far ?_ NB104_109.out _; (with_reducible repeat (first | refine blk_drewN ?_ _ | refine blk_drew ?_ | refine blk_alloc ?_ _)); exact BK104.out) hb); have n2_ := Aside0.mk (blk_below (g := gb109) (o := .cells #[.int .i64 ((rd_T41 l0_3 x22_2).f0), .slice A108_1 ((rd_T41 l0_3 x22_2).f1).length c108_1] 41 (0, 0)) (by (with_reducible repeat (first | refine blk_drewN ?_ _ | refine blk_drew ?_ | refine blk_alloc ?_ _)); refine blk_put (cs := #[.int .i64 ((rd_T41 l0_3 x22_2).f0), .slice none 0 0]) ?_ 1 _ rfl; (with_reducible repeat (first | refine blk_drewN ?_ _ | refine blk_drew ?_ | refine blk_alloc ?_ _)); refine blk_put (cs := #[.int .i64 0, .slice none 0 0]) ?_ 0 _ rfl; (with_reducible repeat (first | refine blk_drewN ?_ _ | refine blk_drew ?_ | refine blk_alloc ?_ _)); exact BK109.out) hb); have n3_ := Aside0.mk (below_step (by repeat (first | (with_reducible first | exact HB.out | apply below_alloc | apply pw_below_drewN | apply below_drew1 | refine below_set ?_ GE104.out | refine below_set ?_ GE109.out) | exact HB.out)) hb); clear HO_5; clear BK104; clear BK109; clear HB; have HO_5 := n0_; have BK104 := n1_; have BK109 := n2_; have HB := n3_; clear n0_ n1_ n2_ n3_; (try clear hb); (try clear hb2); (try clear hk); (try clear hi); have hcz81_0 : w80.cell? ⟨gb109, 0, none⟩ = some (.int .i64 ((rd_T41 l0_3 x22_2).f0)) := (blk_cell BK109.out 0).trans rfl; have hcz81_1 : w80.cell? ⟨gb109, 1, none⟩ = some (.slice A108_1 ((rd_T41 l0_3 x22_2).f1).length c108_1) := (blk_cell BK109.out 1).trans rfl; have hfz81_0 := blk_frozen BK109.out 0; have hfz81_1 := blk_frozen BK109.out 1) | ((with_reducible refine gate_callee (f := 55) rfl ?_); refine goesL_ (some 47) rfl rfl Tryd.func55 (by kernel_rfl) rfl #[fvI a1, .slice A108_1 ((rd_T41 l0_3 x22_2).f1).length c108_1] rfl (by (try simp only [List.map_toArray, List.map_cons, List.map_nil]); first | done | rfl | (simp only [List.length_drop, List.length_take]; rfl)) ?_; (with_reducible refine (ends_reading_leads.calls a1 _ _ ((rd_T41 l0_3 x22_2).f1) t122 true _ ?side1 ?side2 A70.out).mono ?_); (case side1 => repeat (first | exact (Kd.C_below HR108_1.out HB.out) | (with_reducible refine Kd.C_alloc ?_ _) | (with_reducible refine Kd.C_drewN ?_ _) | (with_reducible refine Kd.C_drew ?_))); (case side2 => exact HC108_1.out); rintro e w82 ⟨rfl, hb⟩; refine ⟨_, rfl, ?_⟩; have n0_ := Aside0.mk (Kd.R_below (by (with_reducible repeat (first | apply Kd.R_alloc | apply Kd.R_drewN | apply Kd.R_drew)); exact HO_5.out) hb); have n1_ := Aside0.mk (blk_below (g := gb104) (o := .cells #[.slice A0_0 l0_0.length c0_0, .slice A0_1 l0_1.length c0_1, .int .i64 a0_2, .slice (some ad108) l0_3.length c0_3] 32 (0, 0)) (by (with_reducible repeat (first | refine blk_drewN ?_ _ | refine blk_drew ?_ | refine blk_alloc ?_ _)); exact BK104.out) hb); have n2_ := Aside0.mk (blk_below (g := gb109) (o := .cells #[.int .i64 ((rd_T41 l0_3 x22_2).f0), .slice A108_1 ((rd_T41 l0_3 x22_2).f1).length c108_1] 41 (0, 0)) (by (with_reducible repeat (first | refine blk_drewN ?_ _ | refine blk_drew ?_ | refine blk_alloc ?_ _)); exact BK109.out) hb); have n3_ := Aside0.mk (below_step (by repeat (first | (with_reducible first | exact HB.out | apply below_alloc | apply pw_below_drewN | apply below_drew1 | refine below_set ?_ GE104.out | refine below_set ?_ GE109.out) | exact HB.out)) hb); clear HO_5; clear BK104; clear BK109; clear HB; have HO_5 := n0_; have BK104 := n1_; have BK109 := n2_; have HB := n3_; clear n0_ n1_ n2_ n3_; (try clear hb); (try clear hb2); (try clear hk); (try clear hi); have p124 : 0 ≤ (t122 : Int) := of_decide_eq_true (by first | (with_reducible assumption) | assumption); have q124 : t122 < (x5_2.length : Int) := of_decide_eq_true (by first | (with_reducible assumption) | assumption); obtain ⟨ad124, e124, hx124_0⟩ := Kd.at_int (Kd.R_reads' HO_5.out).2.2 t122 p124 q124; obtain rfl : ad110 = ad124 := (by injection e124); replace p124 := eq_true p124; replace q124 := eq_true q124; have hcz83_0 : w82.cell? ⟨gb109, 0, none⟩ = some (.int .i64 ((rd_T41 l0_3 x22_2).f0)) := (blk_cell BK109.out 0).trans rfl; have hcz83_1 : w82.cell? ⟨gb109, 1, none⟩ = some (.slice A108_1 ((rd_T41 l0_3 x22_2).f1).length c108_1) := (blk_cell BK109.out 1).trans rfl; have hfz83_0 := blk_frozen BK109.out 0; have hfz83_1 := blk_frozen BK109.out 1; have p75 : 0 ≤ (((rd_T41 l0_3 x22_2).f0) : Int) := of_decide_eq_true (by first | (with_reducible assumption) | assumption); have q75 : (((rd_T41 l0_3 x22_2).f0) : Int) < ((x5_2.length : Int) : Int) := of_decide_eq_true (by first | (with_reducible assumption) | assumption); obtain ⟨go75, co75, eo75, gb75, gl75, cl75, HG75⟩ := Kd.R_form HO_5.out (by omega); (first | cases eo75 | (injection eo75 with ea_ en_ ec_; (first | subst ea_ | (injection ea_ with ea_; subst ea_)); subst ec_; clear en_)); have GB75 := Aside0.mk gb75; have GG75 := Aside0.mk HG75; clear gb75 gl75 HG75; (first | simp only [add_plain] at hx110_0 | skip); (first | simp only [add_plain] at hx124_0 | skip); obtain ⟨hx75_0, hf75_0⟩ := Kd.R_celln 0 HO_5.out (((rd_T41 l0_3 x22_2).f0) : Int) p75 q75; replace p75 := eq_true p75; replace q75 := eq_true q75; obtain ⟨hy84_, hz84_⟩ := Kd.R_celln 0 HO_5.out (((rd_T41 l0_3 x22_2).f0) : Int) (of_decide_eq_true (by first | (with_reducible assumption) | assumption)) (of_decide_eq_true (by first | (with_reducible assumption) | assumption)); have HP84 := Kd.R_putg HO_5.out (((rd_T41 l0_3 x22_2).f0) : Int) (Go.bits .or .u64 (rd x5_2 ((rd_T41 l0_3 x22_2).f0)) (rd x5_2 t122))) | ((with_reducible refine gate_store (t := 45) (p := 71) rfl ?_); refine store_event (t := 45) (p := 71) (v := ?vo_w85) (w1 := (w82.setCell ⟨go75, (((rd_T41 l0_3 x22_2).f0) : Int).toNat, none⟩ (.int .u64 (Go.bits .or .u64 (rd x5_2 ((rd_T41 l0_3 x22_2).f0)) (rd x5_2 t122))))) ?hg ?ho ?hn ?hr ?_; (case ho => rfl); (case hg => rfl); (case hn => rfl); (case hr => first | (go_simp; done) | (go_simp; rfl)); intro w85 hw; have hg : w82.grownBy w85 (some go75) := (by rw [hw]; exact HP84.2); have hp_ : Kd.R (Kd.int .u64) 45 w85 w.heap.size (fun _ => True) (.slice (some ⟨go75, 0, none⟩) x5_2.length co79) y125 := (by rw [hw, Ny125.out]; exact HP84.1); clear HP84; have n0_ := Aside0.mk (hp_); have n1_ := Aside0.mk (blk_grown (g := gb104) (o := .cells #[.slice A0_0 l0_0.length c0_0, .slice A0_1 l0_1.length c0_1, .int .i64 a0_2, .slice (some ad108) l0_3.length c0_3] 32 (0, 0)) (by (with_reducible repeat (first | refine blk_drewN ?_ _ | refine blk_drew ?_ | refine blk_alloc ?_ _)); exact BK104.out) hg (Kd.R_ne HO_5.out BK104.out (by decide))); have n2_ := Aside0.mk (blk_grown (g := gb109) (o := .cells #[.int .i64 ((rd_T41 l0_3 x22_2).f0), .slice A108_1 ((rd_T41 l0_3 x22_2).f1).length c108_1] 41 (0, 0)) (by (with_reducible repeat (first | refine blk_drewN ?_ _ | refine blk_drew ?_ | refine blk_alloc ?_ _)); exact BK109.out) hg (Kd.R_ne HO_5.out BK109.out (by decide))); have n3_ := Aside0.mk ((by rw [hw]; exact below_set (HB.out) GB75.out : Below w.heap.size w w85)); clear HO_5; clear BK104; clear BK109; clear HB; have HO_5 := n0_; have BK104 := n1_; have BK109 := n2_; have HB := n3_; clear n0_ n1_ n2_ n3_; clear hg hw hp_))
                               go_roundg k2
                               case measure => have := HK1.out; have := HK2.out; omega
                               case rel => exact ⟨(y125), (true), (wrap64 (x22_2 + 1)), (by first | rfl | (simp; done) | (simp [*]; done)), (by first | rfl | (simp; done) | (simp [*]; done)), H', ⟨by have := HK1.out; have := HK2.out; omega⟩, ⟨by (with_reducible repeat (first | apply Kd.R_alloc | apply Kd.R_drewN | apply Kd.R_drew)); exact HO_5.out⟩, ⟨by (with_reducible repeat (first | refine blk_drewN ?_ _ | refine blk_drew ?_ | refine blk_alloc ?_ _)); exact BK104.out⟩, ⟨by repeat (first | (with_reducible first | exact HB.out | apply below_alloc | apply pw_below_drewN | apply below_drew1 | refine below_set ?_ GE104.out | refine below_set ?_ GE109.out) | exact HB.out)⟩⟩
                             · replace c74 := Bool.eq_false_iff.mpr c74
                               subst c74
                               have H1 : (ends_sets.l1 k2 a1 (x5_2.set (((rd_T41 l0_3 x22_2).f0) : Int).toNat (Go.bits .or .u64 (rd x5_2 ((rd_T41 l0_3 x22_2).f0)) (rd x5_2 t122))) ((Go.bits .or .u64 (rd x5_2 ((rd_T41 l0_3 x22_2).f0)) (rd x5_2 t122)) != (rd x5_2 ((rd_T41 l0_3 x22_2).f0))) l0_3 (l0_3.length : Int) (wrap64 (x22_2 + 1)) l0_0 l0_1 a0_2 l0_3) = some r := by rw [if_neg (show ¬ (false = true) by decide)] at H; exact H
                               clear H
                               have H := H1
                               clear H1
                               obtain ⟨y127, hy127⟩ : ∃ y_ : List Int, y_ = (x5_2.set (((rd_T41 l0_3 x22_2).f0) : Int).toNat (Go.bits .or .u64 (rd x5_2 ((rd_T41 l0_3 x22_2).f0)) (rd x5_2 t122))) := ⟨_, rfl⟩
                               replace H : (ends_sets.l1 k2 a1 y127 ((Go.bits .or .u64 (rd x5_2 ((rd_T41 l0_3 x22_2).f0)) (rd x5_2 t122)) != (rd x5_2 ((rd_T41 l0_3 x22_2).f0))) l0_3 (l0_3.length : Int) (wrap64 (x22_2 + 1)) l0_0 l0_1 a0_2 l0_3) = some r := by first | (rw [hy127]; with_reducible exact H) | (have H2_ := (Option.bind_some _ _).symm.trans H; rw [hy127]; with_reducible exact H2_) | (have H2_ := (Option.bind_some _ _).symm.trans H; with_reducible exact H2_) | with_reducible exact H | (rw [hy127]; exact H) | exact H
                               have Ny127 := Aside0.mk hy127
                               clear hy127
                               have H' := Aside0.mk H
                               clear H
                               have p108 : 0 ≤ (x22_2 : Int) := of_decide_eq_true (by first | (with_reducible assumption) | assumption)
                               have q108 : x22_2 < (l0_3.length : Int) := of_decide_eq_true (by first | (with_reducible assumption) | assumption)
                               obtain ⟨ad108, A108_1, c108_1, e108, hx108_0, hx108_1, hl108_1, hi108_1⟩ := at_T41 HR0_3.out x22_2 p108 q108
                               cases e108
                               replace hx108_0 := (HB.out.cell (World.block_lt_of_cell? w _ hx108_0)).trans hx108_0
                               replace hx108_1 := (HB.out.cell (World.block_lt_of_cell? w _ hx108_1)).trans hx108_1
                               have HR108_1 := Aside0.mk hi108_1
                               have HC108_1 := Aside0.mk hl108_1
                               clear hi108_1 hl108_1
                               replace p108 := eq_true p108
                               replace q108 := eq_true q108
                               go_wp2_with (first | ((with_reducible refine gate_dst (N := 8) rfl ?_); refine box_event ?hg (N := 8) ?hd (cs := #[.int .i64 0, .slice none 0 0]) (t := 41) ?hr ?_; (case hd => rfl); (case hg => rfl); (case hr => first | (go_simp; done) | (go_simp; rfl)); intro gb109 hg w87 hbox hb; have n0_ := Aside0.mk (Kd.R_below (by (with_reducible repeat (first | apply Kd.R_alloc | apply Kd.R_drewN | apply Kd.R_drew)); exact HO_5.out) hb); have n1_ := Aside0.mk (blk_below (g := gb104) (o := .cells #[.slice A0_0 l0_0.length c0_0, .slice A0_1 l0_1.length c0_1, .int .i64 a0_2, .slice (some ad108) l0_3.length c0_3] 32 (0, 0)) (by (with_reducible repeat (first | refine blk_drewN ?_ _ | refine blk_drew ?_ | refine blk_alloc ?_ _)); exact BK104.out) hb); have n2_ := Aside0.mk (below_step (by repeat (first | (with_reducible first | exact HB.out | apply below_alloc | apply pw_below_drewN | apply below_drew1 | refine below_set ?_ GE104.out) | exact HB.out)) hb); have n3_ := Aside0.mk (hbox); have n4_ := Aside0.mk ((by rw [hg]; exact (below_size (by repeat (first | (with_reducible first | exact HB.out | apply below_alloc | apply pw_below_drewN | apply below_drew1 | refine below_set ?_ GE104.out) | exact HB.out))) : w.heap.size ≤ gb109)); have n5_ := Aside0.mk ((by rw [hg]; exact (below_size (by repeat (first | (with_reducible first | exact HB.out | apply below_alloc | apply pw_below_drewN | apply below_drew1 | refine below_set ?_ GE104.out) | exact HB.out))) : w.heap.size ≤ gb109)); have n6_ := Aside0.mk ((by rw [hg]; exact Nat.ne_of_lt (blk_lt (g := gb104) (o := .cells #[.slice A0_0 l0_0.length c0_0, .slice A0_1 l0_1.length c0_1, .int .i64 a0_2, .slice (some ad108) l0_3.length c0_3] 32 (0, 0)) (by (with_reducible repeat (first | refine blk_drewN ?_ _ | refine blk_drew ?_ | refine blk_alloc ?_ _)); exact BK104.out)) : gb104 ≠ gb109)); have n7_ := Aside0.mk ((by rw [hg]; exact Nat.ne_of_gt (blk_lt (g := gb104) (o := .cells #[.slice A0_0 l0_0.length c0_0, .slice A0_1 l0_1.length c0_1, .int .i64 a0_2, .slice (some ad108) l0_3.length c0_3] 32 (0, 0)) (by (with_reducible repeat (first | refine blk_drewN ?_ _ | refine blk_drew ?_ | refine blk_alloc ?_ _)); exact BK104.out)) : gb109 ≠ gb104)); clear HO_5; clear BK104; clear HB; have HO_5 := n0_; have BK104 := n1_; have HB := n2_; have BK109 := n3_; have GW109 := n4_; have GE109 := n5_; have NB104_109 := n6_; have NB109_104 := n7_; clear n0_ n1_ n2_ n3_ n4_ n5_ n6_ n7_; clear hb hbox hg; have hnb88 := NB109_104.out; have hnc88 := NB104_109.out; have hcz89_0 : w87.cell? ⟨gb109, 0, none⟩ = some (.int .i64 0) := (blk_cell BK109.out 0).trans rfl; have hcz89_1 : w87.cell? ⟨gb109, 1, none⟩ = some (.slice none 0 0) := (blk_cell BK109.out 1).trans rfl; have hfz89_0 := blk_frozen BK109.out 0; have hfz89_1 := blk_frozen BK109.out 1; obtain ⟨Ao90, co90, eo90⟩ := Kd.R_slice HO_5.out; subst eo90; have p110 : 0 ≤ (((rd_T41 l0_3 x22_2).f0) : Int) := of_decide_eq_true (by first | (with_reducible assumption) | assumption); have q110 : ((rd_T41 l0_3 x22_2).f0) < (x5_2.length : Int) := of_decide_eq_true (by first | (with_reducible assumption) | assumption); obtain ⟨ad110, e110, hx110_0⟩ := Kd.at_int (Kd.R_reads' HO_5.out).2.2 ((rd_T41 l0_3 x22_2).f0) p110 q110; cases e110; have hn110_0 : ad110.block ≠ gb109 := Kd.own_blk (Kd.R_ne HO_5.out BK109.out (by decide)); have hn110_1 : ad110.block ≠ gb109 := Kd.own_blk (Kd.R_ne HO_5.out BK109.out (by decide)); replace hx110_0 := (cell_far (p := ⟨gb109, 0, none⟩) (by first | (rw [add_block]; exact hn110_0) | (show (Addr.add _ _).block ≠ _; rw [add_block]; exact hn110_0) | exact hn110_0) (.int .i64 ((rd_T41 l0_3 x22_2).f0))).trans hx110_0; replace hx110_0 := (cell_far (p := ⟨gb109, 1, none⟩) (by first | (rw [add_block]; exact hn110_1) | (show (Addr.add _ _).block ≠ _; rw [add_block]; exact hn110_1) | exact hn110_1) (.slice A108_1 ((rd_T41 l0_3 x22_2).f1).length c108_1)).trans hx110_0; clear hn110_0; clear hn110_1; replace p110 := eq_true p110; replace q110 := eq_true q110) | ((with_reducible refine gate_callee (f := 54) rfl ?_); refine goesL_ (some 35) rfl rfl Tryd.func54 (by kernel_rfl) rfl #[fvI a1, .slice A108_1 ((rd_T41 l0_3 x22_2).f1).length c108_1] rfl (by (try simp only [List.map_toArray, List.map_cons, List.map_nil]); first | done | rfl | (simp only [List.length_drop, List.length_take]; rfl)) ?_; (with_reducible refine (ends_reading_shows.calls a1 _ _ ((rd_T41 l0_3 x22_2).f1) t111 false _ ?side1 ?side2 A16.out).mono ?_); (case side1 => exact Kd.C_below HR108_1.out (by repeat (first | (with_reducible first | exact HB.out | apply below_alloc | apply pw_below_drewN | apply below_drew1 | refine below_set ?_ GE104.out | refine below_set ?_ GE109.out) | exact HB.out))); (case side2 => exact HC108_1.out); rintro e w91 ⟨rfl, hb⟩; refine ⟨_, rfl, ?_⟩; have n0_ := Aside0.mk (Kd.R_below (by (with_reducible repeat (first | apply Kd.R_alloc | apply Kd.R_drewN | apply Kd.R_drew)); exact (Kd.R_mono (Kd.R_far (p := ⟨gb109, 1, none⟩) (Kd.R_far (p := ⟨gb109, 0, none⟩) (Kd.R_types HO_5.out BK109.out (by decide)) (fun _ hk => hk.2) (.int .i64 ((rd_T41 l0_3 x22_2).f0))) (fun _ hk => hk.2) (.slice A108_1 ((rd_T41 l0_3 x22_2).f1).length c108_1)) (fun _ h_ => h_.1))) hb); have n1_ := Aside0.mk (blk_below (g := gb104) (o := .cells #[.slice A0_0 l0_0.length c0_0, .slice A0_1 l0_1.length c0_1, .int .i64 a0_2, .slice (some ad108) l0_3.length c0_3] 32 (0, 0)) (by (with_reducible repeat (first | refine blk_drewN ?_ _ | refine blk_drew ?_ | refine blk_alloc ?_ _)); refine blk_far ?_ NB104_109.out _; (with_reducible repeat (first | refine blk_drewN ?_ _ | refine blk_drew ?_ | refine blk_alloc ?_ _)); refine blk_far ?_ NB104_109.out _; (with_reducible repeat (first | refine blk_drewN ?_ _ | refine blk_drew ?_ | refine blk_alloc ?_ _)); exact BK104.out) hb); have n2_ := Aside0.mk (blk_below (g := gb109) (o := .cells #[.int .i64 ((rd_T41 l0_3 x22_2).f0), .slice A108_1 ((rd_T41 l0_3 x22_2).f1).length c108_1] 41 (0, 0)) (by (with_reducible repeat (first | refine blk_drewN ?_ _ | refine blk_drew ?_ | refine blk_alloc ?_ _)); refine blk_put (cs := #[.int .i64 ((rd_T41 l0_3 x22_2).f0), .slice none 0 0]) ?_ 1 _ rfl; (with_reducible repeat (first | refine blk_drewN ?_ _ | refine blk_drew ?_ | refine blk_alloc ?_ _)); refine blk_put (cs := #[.int .i64 0, .slice none 0 0]) ?_ 0 _ rfl; (with_reducible repeat (first | refine blk_drewN ?_ _ | refine blk_drew ?_ | refine blk_alloc ?_ _)); exact BK109.out) hb); have n3_ := Aside0.mk (below_step (by repeat (first | (with_reducible first | exact HB.out | apply below_alloc | apply pw_below_drewN | apply below_drew1 | refine below_set ?_ GE104.out | refine below_set ?_ GE109.out) | exact HB.out)) hb); clear HO_5; clear BK104; clear BK109; clear HB; have HO_5 := n0_; have BK104 := n1_; have BK109 := n2_; have HB := n3_; clear n0_ n1_ n2_ n3_; (try clear hb); (try clear hb2); (try clear hk); (try clear hi); have hcz92_0 : w91.cell? ⟨gb109, 0, none⟩ = some (.int .i64 ((rd_T41 l0_3 x22_2).f0)) := (blk_cell BK109.out 0).trans rfl; have hcz92_1 : w91.cell? ⟨gb109, 1, none⟩ = some (.slice A108_1 ((rd_T41 l0_3 x22_2).f1).length c108_1) := (blk_cell BK109.out 1).trans rfl; have hfz92_0 := blk_frozen BK109.out 0; have hfz92_1 := blk_frozen BK109.out 1) | ((with_reducible refine gate_callee (f := 55) rfl ?_); refine goesL_ (some 47) rfl rfl Tryd.func55 (by kernel_rfl) rfl #[fvI a1, .slice A108_1 ((rd_T41 l0_3 x22_2).f1).length c108_1] rfl (by (try simp only [List.map_toArray, List.map_cons, List.map_nil]); first | done | rfl | (simp only [List.length_drop, List.length_take]; rfl)) ?_; (with_reducible refine (ends_reading_leads.calls a1 _ _ ((rd_T41 l0_3 x22_2).f1) t122 true _ ?side1 ?side2 A70.out).mono ?_); (case side1 => repeat (first | exact (Kd.C_below HR108_1.out HB.out) | (with_reducible refine Kd.C_alloc ?_ _) | (with_reducible refine Kd.C_drewN ?_ _) | (with_reducible refine Kd.C_drew ?_))); (case side2 => exact HC108_1.out); rintro e w93 ⟨rfl, hb⟩; refine ⟨_, rfl, ?_⟩; have n0_ := Aside0.mk (Kd.R_below (by (with_reducible repeat (first | apply Kd.R_alloc | apply Kd.R_drewN | apply Kd.R_drew)); exact HO_5.out) hb); have n1_ := Aside0.mk (blk_below (g := gb104) (o := .cells #[.slice A0_0 l0_0.length c0_0, .slice A0_1 l0_1.length c0_1, .int .i64 a0_2, .slice (some ad108) l0_3.length c0_3] 32 (0, 0)) (by (with_reducible repeat (first | refine blk_drewN ?_ _ | refine blk_drew ?_ | refine blk_alloc ?_ _)); exact BK104.out) hb); have n2_ := Aside0.mk (blk_below (g := gb109) (o := .cells #[.int .i64 ((rd_T41 l0_3 x22_2).f0), .slice A108_1 ((rd_T41 l0_3 x22_2).f1).length c108_1] 41 (0, 0)) (by (with_reducible repeat (first | refine blk_drewN ?_ _ | refine blk_drew ?_ | refine blk_alloc ?_ _)); exact BK109.out) hb); have n3_ := Aside0.mk (below_step (by repeat (first | (with_reducible first | exact HB.out | apply below_alloc | apply pw_below_drewN | apply below_drew1 | refine below_set ?_ GE104.out | refine below_set ?_ GE109.out) | exact HB.out)) hb); clear HO_5; clear BK104; clear BK109; clear HB; have HO_5 := n0_; have BK104 := n1_; have BK109 := n2_; have HB := n3_; clear n0_ n1_ n2_ n3_; (try clear hb); (try clear hb2); (try clear hk); (try clear hi); have p124 : 0 ≤ (t122 : Int) := of_decide_eq_true (by first | (with_reducible assumption) | assumption); have q124 : t122 < (x5_2.length : Int) := of_decide_eq_true (by first | (with_reducible assumption) | assumption); obtain ⟨ad124, e124, hx124_0⟩ := Kd.at_int (Kd.R_reads' HO_5.out).2.2 t122 p124 q124; obtain rfl : ad110 = ad124 := (by injection e124); replace p124 := eq_true p124; replace q124 := eq_true q124; have hcz94_0 : w93.cell? ⟨gb109, 0, none⟩ = some (.int .i64 ((rd_T41 l0_3 x22_2).f0)) := (blk_cell BK109.out 0).trans rfl; have hcz94_1 : w93.cell? ⟨gb109, 1, none⟩ = some (.slice A108_1 ((rd_T41 l0_3 x22_2).f1).length c108_1) := (blk_cell BK109.out 1).trans rfl; have hfz94_0 := blk_frozen BK109.out 0; have hfz94_1 := blk_frozen BK109.out 1; have p126 : 0 ≤ (((rd_T41 l0_3 x22_2).f0) : Int) := of_decide_eq_true (by first | (with_reducible assumption) | assumption); have q126 : ((rd_T41 l0_3 x22_2).f0) < (x5_2.length : Int) := of_decide_eq_true (by first | (with_reducible assumption) | assumption); obtain ⟨ad126, e126, hx126_0⟩ := Kd.at_int (Kd.R_reads' HO_5.out).2.2 ((rd_T41 l0_3 x22_2).f0) p126 q126; obtain rfl : ad110 = ad126 := (by injection e126); replace p126 := eq_true p126; replace q126 := eq_true q126; have p86 : 0 ≤ (((rd_T41 l0_3 x22_2).f0) : Int) := of_decide_eq_true (by first | (with_reducible assumption) | assumption); have q86 : (((rd_T41 l0_3 x22_2).f0) : Int) < ((x5_2.length : Int) : Int) := of_decide_eq_true (by first | (with_reducible assumption) | assumption); obtain ⟨go86, co86, eo86, gb86, gl86, cl86, HG86⟩ := Kd.R_form HO_5.out (by omega); (first | cases eo86 | (injection eo86 with ea_ en_ ec_; (first | subst ea_ | (injection ea_ with ea_; subst ea_)); subst ec_; clear en_)); have GB86 := Aside0.mk gb86; have GG86 := Aside0.mk HG86; clear gb86 gl86 HG86; (first | simp only [add_plain] at hx110_0 | skip); (first | simp only [add_plain] at hx124_0 | skip); (first | simp only [add_plain] at hx126_0 | skip); obtain ⟨hx86_0, hf86_0⟩ := Kd.R_celln 0 HO_5.out (((rd_T41 l0_3 x22_2).f0) : Int) p86 q86; replace p86 := eq_true p86; replace q86 := eq_true q86; obtain ⟨hy95_, hz95_⟩ := Kd.R_celln 0 HO_5.out (((rd_T41 l0_3 x22_2).f0) : Int) (of_decide_eq_true (by first | (with_reducible assumption) | assumption)) (of_decide_eq_true (by first | (with_reducible assumption) | assumption)); have HP95 := Kd.R_putg HO_5.out (((rd_T41 l0_3 x22_2).f0) : Int) (Go.bits .or .u64 (rd x5_2 ((rd_T41 l0_3 x22_2).f0)) (rd x5_2 t122))) | ((with_reducible refine gate_store (t := 45) (p := 71) rfl ?_); refine store_event (t := 45) (p := 71) (v := ?vo_w96) (w1 := (w93.setCell ⟨go86, (((rd_T41 l0_3 x22_2).f0) : Int).toNat, none⟩ (.int .u64 (Go.bits .or .u64 (rd x5_2 ((rd_T41 l0_3 x22_2).f0)) (rd x5_2 t122))))) ?hg ?ho ?hn ?hr ?_; (case ho => rfl); (case hg => rfl); (case hn => rfl); (case hr => first | (go_simp; done) | (go_simp; rfl)); intro w96 hw; have hg : w93.grownBy w96 (some go86) := (by rw [hw]; exact HP95.2); have hp_ : Kd.R (Kd.int .u64) 45 w96 w.heap.size (fun _ => True) (.slice (some ⟨go86, 0, none⟩) x5_2.length co90) y127 := (by rw [hw, Ny127.out]; exact HP95.1); clear HP95; have n0_ := Aside0.mk (hp_); have n1_ := Aside0.mk (blk_grown (g := gb104) (o := .cells #[.slice A0_0 l0_0.length c0_0, .slice A0_1 l0_1.length c0_1, .int .i64 a0_2, .slice (some ad108) l0_3.length c0_3] 32 (0, 0)) (by (with_reducible repeat (first | refine blk_drewN ?_ _ | refine blk_drew ?_ | refine blk_alloc ?_ _)); exact BK104.out) hg (Kd.R_ne HO_5.out BK104.out (by decide))); have n2_ := Aside0.mk (blk_grown (g := gb109) (o := .cells #[.int .i64 ((rd_T41 l0_3 x22_2).f0), .slice A108_1 ((rd_T41 l0_3 x22_2).f1).length c108_1] 41 (0, 0)) (by (with_reducible repeat (first | refine blk_drewN ?_ _ | refine blk_drew ?_ | refine blk_alloc ?_ _)); exact BK109.out) hg (Kd.R_ne HO_5.out BK109.out (by decide))); have n3_ := Aside0.mk ((by rw [hw]; exact below_set (HB.out) GB86.out : Below w.heap.size w w96)); clear HO_5; clear BK104; clear BK109; clear HB; have HO_5 := n0_; have BK104 := n1_; have BK109 := n2_; have HB := n3_; clear n0_ n1_ n2_ n3_; clear hg hw hp_))
                               go_roundg k2
                               case measure => have := HK1.out; have := HK2.out; omega
                               case rel => exact ⟨(y127), (((Go.bits .or .u64 (rd x5_2 ((rd_T41 l0_3 x22_2).f0)) (rd x5_2 t122)) != (rd x5_2 ((rd_T41 l0_3 x22_2).f0)))), (wrap64 (x22_2 + 1)), (by first | rfl | (simp; done) | (simp [*]; done)), (by first | rfl | (simp; done) | (simp [*]; done)), H', ⟨by have := HK1.out; have := HK2.out; omega⟩, ⟨by (with_reducible repeat (first | apply Kd.R_alloc | apply Kd.R_drewN | apply Kd.R_drew)); exact HO_5.out⟩, ⟨by (with_reducible repeat (first | refine blk_drewN ?_ _ | refine blk_drew ?_ | refine blk_alloc ?_ _)); exact BK104.out⟩, ⟨by repeat (first | (with_reducible first | exact HB.out | apply below_alloc | apply pw_below_drewN | apply below_drew1 | refine below_set ?_ GE104.out | refine below_set ?_ GE109.out) | exact HB.out)⟩⟩
                           · rw [if_neg c73] at H
                             exact absurd H (by simp)
                         · rw [if_neg c72] at H
                           exact absurd H (by simp)
                       · replace c71 := Bool.eq_false_iff.mpr c71
                         subst c71
                         have H1 : (if x6_2 = true then (ends_sets.l1 k2 a1 (x5_2.set (((rd_T41 l0_3 x22_2).f0) : Int).toNat (rd x5_2 ((rd_T41 l0_3 x22_2).f0))) true l0_3 (l0_3.length : Int) (wrap64 (x22_2 + 1)) l0_0 l0_1 a0_2 l0_3) else (ends_sets.l1 k2 a1 (x5_2.set (((rd_T41 l0_3 x22_2).f0) : Int).toNat (rd x5_2 ((rd_T41 l0_3 x22_2).f0))) ((rd x5_2 ((rd_T41 l0_3 x22_2).f0)) != (rd x5_2 ((rd_T41 l0_3 x22_2).f0))) l0_3 (l0_3.length : Int) (wrap64 (x22_2 + 1)) l0_0 l0_1 a0_2 l0_3)) = some r := by rw [if_neg (show ¬ (false = true) by decide)] at H; exact H
                         clear H
                         have H := H1
                         clear H1
                         by_cases c97 : x6_2 = true
                         · subst c97
                           have H1 : (ends_sets.l1 k2 a1 (x5_2.set (((rd_T41 l0_3 x22_2).f0) : Int).toNat (rd x5_2 ((rd_T41 l0_3 x22_2).f0))) true l0_3 (l0_3.length : Int) (wrap64 (x22_2 + 1)) l0_0 l0_1 a0_2 l0_3) = some r := by rw [if_pos rfl] at H; exact H
                           clear H
                           have H := H1
                           clear H1
                           obtain ⟨y128, hy128⟩ : ∃ y_ : List Int, y_ = (x5_2.set (((rd_T41 l0_3 x22_2).f0) : Int).toNat (rd x5_2 ((rd_T41 l0_3 x22_2).f0))) := ⟨_, rfl⟩
                           replace H : (ends_sets.l1 k2 a1 y128 true l0_3 (l0_3.length : Int) (wrap64 (x22_2 + 1)) l0_0 l0_1 a0_2 l0_3) = some r := by first | (rw [hy128]; with_reducible exact H) | (have H2_ := (Option.bind_some _ _).symm.trans H; rw [hy128]; with_reducible exact H2_) | (have H2_ := (Option.bind_some _ _).symm.trans H; with_reducible exact H2_) | with_reducible exact H | (rw [hy128]; exact H) | exact H
                           have Ny128 := Aside0.mk hy128
                           clear hy128
                           have H' := Aside0.mk H
                           clear H
                           have p108 : 0 ≤ (x22_2 : Int) := of_decide_eq_true (by first | (with_reducible assumption) | assumption)
                           have q108 : x22_2 < (l0_3.length : Int) := of_decide_eq_true (by first | (with_reducible assumption) | assumption)
                           obtain ⟨ad108, A108_1, c108_1, e108, hx108_0, hx108_1, hl108_1, hi108_1⟩ := at_T41 HR0_3.out x22_2 p108 q108
                           cases e108
                           replace hx108_0 := (HB.out.cell (World.block_lt_of_cell? w _ hx108_0)).trans hx108_0
                           replace hx108_1 := (HB.out.cell (World.block_lt_of_cell? w _ hx108_1)).trans hx108_1
                           have HR108_1 := Aside0.mk hi108_1
                           have HC108_1 := Aside0.mk hl108_1
                           clear hi108_1 hl108_1
                           replace p108 := eq_true p108
                           replace q108 := eq_true q108
                           go_wp2_with (first | ((with_reducible refine gate_dst (N := 8) rfl ?_); refine box_event ?hg (N := 8) ?hd (cs := #[.int .i64 0, .slice none 0 0]) (t := 41) ?hr ?_; (case hd => rfl); (case hg => rfl); (case hr => first | (go_simp; done) | (go_simp; rfl)); intro gb109 hg w99 hbox hb; have n0_ := Aside0.mk (Kd.R_below (by (with_reducible repeat (first | apply Kd.R_alloc | apply Kd.R_drewN | apply Kd.R_drew)); exact HO_5.out) hb); have n1_ := Aside0.mk (blk_below (g := gb104) (o := .cells #[.slice A0_0 l0_0.length c0_0, .slice A0_1 l0_1.length c0_1, .int .i64 a0_2, .slice (some ad108) l0_3.length c0_3] 32 (0, 0)) (by (with_reducible repeat (first | refine blk_drewN ?_ _ | refine blk_drew ?_ | refine blk_alloc ?_ _)); exact BK104.out) hb); have n2_ := Aside0.mk (below_step (by repeat (first | (with_reducible first | exact HB.out | apply below_alloc | apply pw_below_drewN | apply below_drew1 | refine below_set ?_ GE104.out) | exact HB.out)) hb); have n3_ := Aside0.mk (hbox); have n4_ := Aside0.mk ((by rw [hg]; exact (below_size (by repeat (first | (with_reducible first | exact HB.out | apply below_alloc | apply pw_below_drewN | apply below_drew1 | refine below_set ?_ GE104.out) | exact HB.out))) : w.heap.size ≤ gb109)); have n5_ := Aside0.mk ((by rw [hg]; exact (below_size (by repeat (first | (with_reducible first | exact HB.out | apply below_alloc | apply pw_below_drewN | apply below_drew1 | refine below_set ?_ GE104.out) | exact HB.out))) : w.heap.size ≤ gb109)); have n6_ := Aside0.mk ((by rw [hg]; exact Nat.ne_of_lt (blk_lt (g := gb104) (o := .cells #[.slice A0_0 l0_0.length c0_0, .slice A0_1 l0_1.length c0_1, .int .i64 a0_2, .slice (some ad108) l0_3.length c0_3] 32 (0, 0)) (by (with_reducible repeat (first | refine blk_drewN ?_ _ | refine blk_drew ?_ | refine blk_alloc ?_ _)); exact BK104.out)) : gb104 ≠ gb109)); have n7_ := Aside0.mk ((by rw [hg]; exact Nat.ne_of_gt (blk_lt (g := gb104) (o := .cells #[.slice A0_0 l0_0.length c0_0, .slice A0_1 l0_1.length c0_1, .int .i64 a0_2, .slice (some ad108) l0_3.length c0_3] 32 (0, 0)) (by (with_reducible repeat (first | refine blk_drewN ?_ _ | refine blk_drew ?_ | refine blk_alloc ?_ _)); exact BK104.out)) : gb109 ≠ gb104)); clear HO_5; clear BK104; clear HB; have HO_5 := n0_; have BK104 := n1_; have HB := n2_; have BK109 := n3_; have GW109 := n4_; have GE109 := n5_; have NB104_109 := n6_; have NB109_104 := n7_; clear n0_ n1_ n2_ n3_ n4_ n5_ n6_ n7_; clear hb hbox hg; have hnb100 := NB109_104.out; have hnc100 := NB104_109.out; have hcz101_0 : w99.cell? ⟨gb109, 0, none⟩ = some (.int .i64 0) := (blk_cell BK109.out 0).trans rfl; have hcz101_1 : w99.cell? ⟨gb109, 1, none⟩ = some (.slice none 0 0) := (blk_cell BK109.out 1).trans rfl; have hfz101_0 := blk_frozen BK109.out 0; have hfz101_1 := blk_frozen BK109.out 1; obtain ⟨Ao102, co102, eo102⟩ := Kd.R_slice HO_5.out; subst eo102; have p110 : 0 ≤ (((rd_T41 l0_3 x22_2).f0) : Int) := of_decide_eq_true (by first | (with_reducible assumption) | assumption); have q110 : ((rd_T41 l0_3 x22_2).f0) < (x5_2.length : Int) := of_decide_eq_true (by first | (with_reducible assumption) | assumption); obtain ⟨ad110, e110, hx110_0⟩ := Kd.at_int (Kd.R_reads' HO_5.out).2.2 ((rd_T41 l0_3 x22_2).f0) p110 q110; cases e110; have hn110_0 : ad110.block ≠ gb109 := Kd.own_blk (Kd.R_ne HO_5.out BK109.out (by decide)); have hn110_1 : ad110.block ≠ gb109 := Kd.own_blk (Kd.R_ne HO_5.out BK109.out (by decide)); replace hx110_0 := (cell_far (p := ⟨gb109, 0, none⟩) (by first | (rw [add_block]; exact hn110_0) | (show (Addr.add _ _).block ≠ _; rw [add_block]; exact hn110_0) | exact hn110_0) (.int .i64 ((rd_T41 l0_3 x22_2).f0))).trans hx110_0; replace hx110_0 := (cell_far (p := ⟨gb109, 1, none⟩) (by first | (rw [add_block]; exact hn110_1) | (show (Addr.add _ _).block ≠ _; rw [add_block]; exact hn110_1) | exact hn110_1) (.slice A108_1 ((rd_T41 l0_3 x22_2).f1).length c108_1)).trans hx110_0; clear hn110_0; clear hn110_1; replace p110 := eq_true p110; replace q110 := eq_true q110) | ((with_reducible refine gate_callee (f := 54) rfl ?_); refine goesL_ (some 35) rfl rfl Tryd.func54 (by kernel_rfl) rfl #[fvI a1, .slice A108_1 ((rd_T41 l0_3 x22_2).f1).length c108_1] rfl (by (try simp only [List.map_toArray, List.map_cons, List.map_nil]); first | done | rfl | (simp only [List.length_drop, List.length_take]; rfl)) ?_; (with_reducible refine (ends_reading_shows.calls a1 _ _ ((rd_T41 l0_3 x22_2).f1) t111 false _ ?side1 ?side2 A16.out).mono ?_); (case side1 => exact Kd.C_below HR108_1.out (by repeat (first | (with_reducible first | exact HB.out | apply below_alloc | apply pw_below_drewN | apply below_drew1 | refine below_set ?_ GE104.out | refine below_set ?_ GE109.out) | exact HB.out))); (case side2 => exact HC108_1.out); rintro e w103 ⟨rfl, hb⟩; refine ⟨_, rfl, ?_⟩; have n0_ := Aside0.mk (Kd.R_below (by (with_reducible repeat (first | apply Kd.R_alloc | apply Kd.R_drewN | apply Kd.R_drew)); exact (Kd.R_mono (Kd.R_far (p := ⟨gb109, 1, none⟩) (Kd.R_far (p := ⟨gb109, 0, none⟩) (Kd.R_types HO_5.out BK109.out (by decide)) (fun _ hk => hk.2) (.int .i64 ((rd_T41 l0_3 x22_2).f0))) (fun _ hk => hk.2) (.slice A108_1 ((rd_T41 l0_3 x22_2).f1).length c108_1)) (fun _ h_ => h_.1))) hb); have n1_ := Aside0.mk (blk_below (g := gb104) (o := .cells #[.slice A0_0 l0_0.length c0_0, .slice A0_1 l0_1.length c0_1, .int .i64 a0_2, .slice (some ad108) l0_3.length c0_3] 32 (0, 0)) (by (with_reducible repeat (first | refine blk_drewN ?_ _ | refine blk_drew ?_ | refine blk_alloc ?_ _)); refine blk_far ?_ NB104_109.out _; (with_reducible repeat (first | refine blk_drewN ?_ _ | refine blk_drew ?_ | refine blk_alloc ?_ _)); refine blk_far ?_ NB104_109.out _; (with_reducible repeat (first | refine blk_drewN ?_ _ | refine blk_drew ?_ | refine blk_alloc ?_ _)); exact BK104.out) hb); have n2_ := Aside0.mk (blk_below (g := gb109) (o := .cells #[.int .i64 ((rd_T41 l0_3 x22_2).f0), .slice A108_1 ((rd_T41 l0_3 x22_2).f1).length c108_1] 41 (0, 0)) (by (with_reducible repeat (first | refine blk_drewN ?_ _ | refine blk_drew ?_ | refine blk_alloc ?_ _)); refine blk_put (cs := #[.int .i64 ((rd_T41 l0_3 x22_2).f0), .slice none 0 0]) ?_ 1 _ rfl; (with_reducible repeat (first | refine blk_drewN ?_ _ | refine blk_drew ?_ | refine blk_alloc ?_ _)); refine blk_put (cs := #[.int .i64 0, .slice none 0 0]) ?_ 0 _ rfl; (with_reducible repeat (first | refine blk_drewN ?_ _ | refine blk_drew ?_ | refine blk_alloc ?_ _)); exact BK109.out) hb); have n3_ := Aside0.mk (below_step (by repeat (first | (with_reducible first | exact HB.out | apply below_alloc | apply pw_below_drewN | apply below_drew1 | refine below_set ?_ GE104.out | refine below_set ?_ GE109.out) | exact HB.out)) hb); clear HO_5; clear BK104; clear BK109; clear HB; have HO_5 := n0_; have BK104 := n1_; have BK109 := n2_; have HB := n3_; clear n0_ n1_ n2_ n3_; (try clear hb); (try clear hb2); (try clear hk); (try clear hi); have hcz104_0 : w103.cell? ⟨gb109, 0, none⟩ = some (.int .i64 ((rd_T41 l0_3 x22_2).f0)) := (blk_cell BK109.out 0).trans rfl; have hcz104_1 : w103.cell? ⟨gb109, 1, none⟩ = some (.slice A108_1 ((rd_T41 l0_3 x22_2).f1).length c108_1) := (blk_cell BK109.out 1).trans rfl; have hfz104_0 := blk_frozen BK109.out 0; have hfz104_1 := blk_frozen BK109.out 1) | ((with_reducible refine gate_callee (f := 55) rfl ?_); refine goesL_ (some 47) rfl rfl Tryd.func55 (by kernel_rfl) rfl #[fvI a1, .slice A108_1 ((rd_T41 l0_3 x22_2).f1).length c108_1] rfl (by (try simp only [List.map_toArray, List.map_cons, List.map_nil]); first | done | rfl | (simp only [List.length_drop, List.length_take]; rfl)) ?_; (with_reducible refine (ends_reading_leads.calls a1 _ _ ((rd_T41 l0_3 x22_2).f1) t122 false _ ?side1 ?side2 A70.out).mono ?_); (case side1 => repeat (first | exact (Kd.C_below HR108_1.out HB.out) | (with_reducible refine Kd.C_alloc ?_ _) | (with_reducible refine Kd.C_drewN ?_ _) | (with_reducible refine Kd.C_drew ?_))); (case side2 => exact HC108_1.out); rintro e w105 ⟨rfl, hb⟩; refine ⟨_, rfl, ?_⟩; have n0_ := Aside0.mk (Kd.R_below (by (with_reducible repeat (first | apply Kd.R_alloc | apply Kd.R_drewN | apply Kd.R_drew)); exact HO_5.out) hb); have n1_ := Aside0.mk (blk_below (g := gb104) (o := .cells #[.slice A0_0 l0_0.length c0_0, .slice A0_1 l0_1.length c0_1, .int .i64 a0_2, .slice (some ad108) l0_3.length c0_3] 32 (0, 0)) (by (with_reducible repeat (first | refine blk_drewN ?_ _ | refine blk_drew ?_ | refine blk_alloc ?_ _)); exact BK104.out) hb); have n2_ := Aside0.mk (blk_below (g := gb109) (o := .cells #[.int .i64 ((rd_T41 l0_3 x22_2).f0), .slice A108_1 ((rd_T41 l0_3 x22_2).f1).length c108_1] 41 (0, 0)) (by (with_reducible repeat (first | refine blk_drewN ?_ _ | refine blk_drew ?_ | refine blk_alloc ?_ _)); exact BK109.out) hb); have n3_ := Aside0.mk (below_step (by repeat (first | (with_reducible first | exact HB.out | apply below_alloc | apply pw_below_drewN | apply below_drew1 | refine below_set ?_ GE104.out | refine below_set ?_ GE109.out) | exact HB.out)) hb); clear HO_5; clear BK104; clear BK109; clear HB; have HO_5 := n0_; have BK104 := n1_; have BK109 := n2_; have HB := n3_; clear n0_ n1_ n2_ n3_; (try clear hb); (try clear hb2); (try clear hk); (try clear hi); have hcz106_0 : w105.cell? ⟨gb109, 0, none⟩ = some (.int .i64 ((rd_T41 l0_3 x22_2).f0)) := (blk_cell BK109.out 0).trans rfl; have hcz106_1 : w105.cell? ⟨gb109, 1, none⟩ = some (.slice A108_1 ((rd_T41 l0_3 x22_2).f1).length c108_1) := (blk_cell BK109.out 1).trans rfl; have hfz106_0 := blk_frozen BK109.out 0; have hfz106_1 := blk_frozen BK109.out 1; have p98 : 0 ≤ (((rd_T41 l0_3 x22_2).f0) : Int) := of_decide_eq_true (by first | (with_reducible assumption) | assumption); have q98 : (((rd_T41 l0_3 x22_2).f0) : Int) < ((x5_2.length : Int) : Int) := of_decide_eq_true (by first | (with_reducible assumption) | assumption); obtain ⟨go98, co98, eo98, gb98, gl98, cl98, HG98⟩ := Kd.R_form HO_5.out (by omega); (first | cases eo98 | (injection eo98 with ea_ en_ ec_; (first | subst ea_ | (injection ea_ with ea_; subst ea_)); subst ec_; clear en_)); have GB98 := Aside0.mk gb98; have GG98 := Aside0.mk HG98; clear gb98 gl98 HG98; (first | simp only [add_plain] at hx110_0 | skip); obtain ⟨hx98_0, hf98_0⟩ := Kd.R_celln 0 HO_5.out (((rd_T41 l0_3 x22_2).f0) : Int) p98 q98; replace p98 := eq_true p98; replace q98 := eq_true q98; obtain ⟨hy107_, hz107_⟩ := Kd.R_celln 0 HO_5.out (((rd_T41 l0_3 x22_2).f0) : Int) (of_decide_eq_true (by first | (with_reducible assumption) | assumption)) (of_decide_eq_true (by first | (with_reducible assumption) | assumption)); have HP107 := Kd.R_putg HO_5.out (((rd_T41 l0_3 x22_2).f0) : Int) (rd x5_2 ((rd_T41 l0_3 x22_2).f0))) | ((with_reducible refine gate_store (t := 45) (p := 71) rfl ?_); refine store_event (t := 45) (p := 71) (v := ?vo_w108) (w1 := (w105.setCell ⟨go98, (((rd_T41 l0_3 x22_2).f0) : Int).toNat, none⟩ (.int .u64 (rd x5_2 ((rd_T41 l0_3 x22_2).f0))))) ?hg ?ho ?hn ?hr ?_; (case ho => rfl); (case hg => rfl); (case hn => rfl); (case hr => first | (go_simp; done) | (go_simp; rfl)); intro w108 hw; have hg : w105.grownBy w108 (some go98) := (by rw [hw]; exact HP107.2); have hp_ : Kd.R (Kd.int .u64) 45 w108 w.heap.size (fun _ => True) (.slice (some ⟨go98, 0, none⟩) x5_2.length co102) y128 := (by rw [hw, Ny128.out]; exact HP107.1); clear HP107; have n0_ := Aside0.mk (hp_); have n1_ := Aside0.mk (blk_grown (g := gb104) (o := .cells #[.slice A0_0 l0_0.length c0_0, .slice A0_1 l0_1.length c0_1, .int .i64 a0_2, .slice (some ad108) l0_3.length c0_3] 32 (0, 0)) (by (with_reducible repeat (first | refine blk_drewN ?_ _ | refine blk_drew ?_ | refine blk_alloc ?_ _)); exact BK104.out) hg (Kd.R_ne HO_5.out BK104.out (by decide))); have n2_ := Aside0.mk (blk_grown (g := gb109) (o := .cells #[.int .i64 ((rd_T41 l0_3 x22_2).f0), .slice A108_1 ((rd_T41 l0_3 x22_2).f1).length c108_1] 41 (0, 0)) (by (with_reducible repeat (first | refine blk_drewN ?_ _ | refine blk_drew ?_ | refine blk_alloc ?_ _)); exact BK109.out) hg (Kd.R_ne HO_5.out BK109.out (by decide))); have n3_ := Aside0.mk ((by rw [hw]; exact below_set (HB.out) GB98.out : Below w.heap.size w w108)); clear HO_5; clear BK104; clear BK109; clear HB; have HO_5 := n0_; have BK104 := n1_; have BK109 := n2_; have HB := n3_; clear n0_ n1_ n2_ n3_; clear hg hw hp_))
                           go_roundg k2
                           case measure => have := HK1.out; have := HK2.out; omega
                           case rel => exact ⟨(y128), (true), (wrap64 (x22_2 + 1)), (by first | rfl | (simp; done) | (simp [*]; done)), (by first | rfl | (simp; done) | (simp [*]; done)), H', ⟨by have := HK1.out; have := HK2.out; omega⟩, ⟨by (with_reducible repeat (first | apply Kd.R_alloc | apply Kd.R_drewN | apply Kd.R_drew)); exact HO_5.out⟩, ⟨by (with_reducible repeat (first | refine blk_drewN ?_ _ | refine blk_drew ?_ | refine blk_alloc ?_ _)); exact BK104.out⟩, ⟨by repeat (first | (with_reducible first | exact HB.out | apply below_alloc | apply pw_below_drewN | apply below_drew1 | refine below_set ?_ GE104.out | refine below_set ?_ GE109.out) | exact HB.out)⟩⟩
                         · replace c97 := Bool.eq_false_iff.mpr c97
                           subst c97
                           have H1 : (ends_sets.l1 k2 a1 (x5_2.set (((rd_T41 l0_3 x22_2).f0) : Int).toNat (rd x5_2 ((rd_T41 l0_3 x22_2).f0))) ((rd x5_2 ((rd_T41 l0_3 x22_2).f0)) != (rd x5_2 ((rd_T41 l0_3 x22_2).f0))) l0_3 (l0_3.length : Int) (wrap64 (x22_2 + 1)) l0_0 l0_1 a0_2 l0_3) = some r := by rw [if_neg (show ¬ (false = true) by decide)] at H; exact H
                           clear H
                           have H := H1
                           clear H1
                           obtain ⟨y130, hy130⟩ : ∃ y_ : List Int, y_ = (x5_2.set (((rd_T41 l0_3 x22_2).f0) : Int).toNat (rd x5_2 ((rd_T41 l0_3 x22_2).f0))) := ⟨_, rfl⟩
                           replace H : (ends_sets.l1 k2 a1 y130 ((rd x5_2 ((rd_T41 l0_3 x22_2).f0)) != (rd x5_2 ((rd_T41 l0_3 x22_2).f0))) l0_3 (l0_3.length : Int) (wrap64 (x22_2 + 1)) l0_0 l0_1 a0_2 l0_3) = some r := by first | (rw [hy130]; with_reducible exact H) | (have H2_ := (Option.bind_some _ _).symm.trans H; rw [hy130]; with_reducible exact H2_) | (have H2_ := (Option.bind_some _ _).symm.trans H; with_reducible exact H2_) | with_reducible exact H | (rw [hy130]; exact H) | exact H
                           have Ny130 := Aside0.mk hy130
                           clear hy130
                           have H' := Aside0.mk H
                           clear H
                           have p108 : 0 ≤ (x22_2 : Int) := of_decide_eq_true (by first | (with_reducible assumption) | assumption)
                           have q108 : x22_2 < (l0_3.length : Int) := of_decide_eq_true (by first | (with_reducible assumption) | assumption)
                           obtain ⟨ad108, A108_1, c108_1, e108, hx108_0, hx108_1, hl108_1, hi108_1⟩ := at_T41 HR0_3.out x22_2 p108 q108
                           cases e108
                           replace hx108_0 := (HB.out.cell (World.block_lt_of_cell? w _ hx108_0)).trans hx108_0
                           replace hx108_1 := (HB.out.cell (World.block_lt_of_cell? w _ hx108_1)).trans hx108_1
                           have HR108_1 := Aside0.mk hi108_1
                           have HC108_1 := Aside0.mk hl108_1
                           clear hi108_1 hl108_1
                           replace p108 := eq_true p108
                           replace q108 := eq_true q108
                           go_wp2_with (first | ((with_reducible refine gate_dst (N := 8) rfl ?_); refine box_event ?hg (N := 8) ?hd (cs := #[.int .i64 0, .slice none 0 0]) (t := 41) ?hr ?_; (case hd => rfl); (case hg => rfl); (case hr => first | (go_simp; done) | (go_simp; rfl)); intro gb109 hg w110 hbox hb; have n0_ := Aside0.mk (Kd.R_below (by (with_reducible repeat (first | apply Kd.R_alloc | apply Kd.R_drewN | apply Kd.R_drew)); exact HO_5.out) hb); have n1_ := Aside0.mk (blk_below (g := gb104) (o := .cells #[.slice A0_0 l0_0.length c0_0, .slice A0_1 l0_1.length c0_1, .int .i64 a0_2, .slice (some ad108) l0_3.length c0_3] 32 (0, 0)) (by (with_reducible repeat (first | refine blk_drewN ?_ _ | refine blk_drew ?_ | refine blk_alloc ?_ _)); exact BK104.out) hb); have n2_ := Aside0.mk (below_step (by repeat (first | (with_reducible first | exact HB.out | apply below_alloc | apply pw_below_drewN | apply below_drew1 | refine below_set ?_ GE104.out) | exact HB.out)) hb); have n3_ := Aside0.mk (hbox); have n4_ := Aside0.mk ((by rw [hg]; exact (below_size (by repeat (first | (with_reducible first | exact HB.out | apply below_alloc | apply pw_below_drewN | apply below_drew1 | refine below_set ?_ GE104.out) | exact HB.out))) : w.heap.size ≤ gb109)); have n5_ := Aside0.mk ((by rw [hg]; exact (below_size (by repeat (first | (with_reducible first | exact HB.out | apply below_alloc | apply pw_below_drewN | apply below_drew1 | refine below_set ?_ GE104.out) | exact HB.out))) : w.heap.size ≤ gb109)); have n6_ := Aside0.mk ((by rw [hg]; exact Nat.ne_of_lt (blk_lt (g := gb104) (o := .cells #[.slice A0_0 l0_0.length c0_0, .slice A0_1 l0_1.length c0_1, .int .i64 a0_2, .slice (some ad108) l0_3.length c0_3] 32 (0, 0)) (by (with_reducible repeat (first | refine blk_drewN ?_ _ | refine blk_drew ?_ | refine blk_alloc ?_ _)); exact BK104.out)) : gb104 ≠ gb109)); have n7_ := Aside0.mk ((by rw [hg]; exact Nat.ne_of_gt (blk_lt (g := gb104) (o := .cells #[.slice A0_0 l0_0.length c0_0, .slice A0_1 l0_1.length c0_1, .int .i64 a0_2, .slice (some ad108) l0_3.length c0_3] 32 (0, 0)) (by (with_reducible repeat (first | refine blk_drewN ?_ _ | refine blk_drew ?_ | refine blk_alloc ?_ _)); exact BK104.out)) : gb109 ≠ gb104)); clear HO_5; clear BK104; clear HB; have HO_5 := n0_; have BK104 := n1_; have HB := n2_; have BK109 := n3_; have GW109 := n4_; have GE109 := n5_; have NB104_109 := n6_; have NB109_104 := n7_; clear n0_ n1_ n2_ n3_ n4_ n5_ n6_ n7_; clear hb hbox hg; have hnb111 := NB109_104.out; have hnc111 := NB104_109.out; have hcz112_0 : w110.cell? ⟨gb109, 0, none⟩ = some (.int .i64 0) := (blk_cell BK109.out 0).trans rfl; have hcz112_1 : w110.cell? ⟨gb109, 1, none⟩ = some (.slice none 0 0) := (blk_cell BK109.out 1).trans rfl; have hfz112_0 := blk_frozen BK109.out 0; have hfz112_1 := blk_frozen BK109.out 1; obtain ⟨Ao113, co113, eo113⟩ := Kd.R_slice HO_5.out; subst eo113; have p110 : 0 ≤ (((rd_T41 l0_3 x22_2).f0) : Int) := of_decide_eq_true (by first | (with_reducible assumption) | assumption); have q110 : ((rd_T41 l0_3 x22_2).f0) < (x5_2.length : Int) := of_decide_eq_true (by first | (with_reducible assumption) | assumption); obtain ⟨ad110, e110, hx110_0⟩ := Kd.at_int (Kd.R_reads' HO_5.out).2.2 ((rd_T41 l0_3 x22_2).f0) p110 q110; cases e110; have hn110_0 : ad110.block ≠ gb109 := Kd.own_blk (Kd.R_ne HO_5.out BK109.out (by decide)); have hn110_1 : ad110.block ≠ gb109 := Kd.own_blk (Kd.R_ne HO_5.out BK109.out (by decide)); replace hx110_0 := (cell_far (p := ⟨gb109, 0, none⟩) (by first | (rw [add_block]; exact hn110_0) | (show (Addr.add _ _).block ≠ _; rw [add_block]; exact hn110_0) | exact hn110_0) (.int .i64 ((rd_T41 l0_3 x22_2).f0))).trans hx110_0; replace hx110_0 := (cell_far (p := ⟨gb109, 1, none⟩) (by first | (rw [add_block]; exact hn110_1) | (show (Addr.add _ _).block ≠ _; rw [add_block]; exact hn110_1) | exact hn110_1) (.slice A108_1 ((rd_T41 l0_3 x22_2).f1).length c108_1)).trans hx110_0; clear hn110_0; clear hn110_1; replace p110 := eq_true p110; replace q110 := eq_true q110) | ((with_reducible refine gate_callee (f := 54) rfl ?_); refine goesL_ (some 35) rfl rfl Tryd.func54 (by kernel_rfl) rfl #[fvI a1, .slice A108_1 ((rd_T41 l0_3 x22_2).f1).length c108_1] rfl (by (try simp only [List.map_toArray, List.map_cons, List.map_nil]); first | done | rfl | (simp only [List.length_drop, List.length_take]; rfl)) ?_; (with_reducible refine (ends_reading_shows.calls a1 _ _ ((rd_T41 l0_3 x22_2).f1) t111 false _ ?side1 ?side2 A16.out).mono ?_); (case side1 => exact Kd.C_below HR108_1.out (by repeat (first | (with_reducible first | exact HB.out | apply below_alloc | apply pw_below_drewN | apply below_drew1 | refine below_set ?_ GE104.out | refine below_set ?_ GE109.out) | exact HB.out))); (case side2 => exact HC108_1.out); rintro e w114 ⟨rfl, hb⟩; refine ⟨_, rfl, ?_⟩; have n0_ := Aside0.mk (Kd.R_below (by (with_reducible repeat (first | apply Kd.R_alloc | apply Kd.R_drewN | apply Kd.R_drew)); exact (Kd.R_mono (Kd.R_far (p := ⟨gb109, 1, none⟩) (Kd.R_far (p := ⟨gb109, 0, none⟩) (Kd.R_types HO_5.out BK109.out (by decide)) (fun _ hk => hk.2) (.int .i64 ((rd_T41 l0_3 x22_2).f0))) (fun _ hk => hk.2) (.slice A108_1 ((rd_T41 l0_3 x22_2).f1).length c108_1)) (fun _ h_ => h_.1))) hb); have n1_ := Aside0.mk (blk_below (g := gb104) (o := .cells #[.slice A0_0 l0_0.length c0_0, .slice A0_1 l0_1.length c0_1, .int .i64 a0_2, .slice (some ad108) l0_3.length c0_3] 32 (0, 0)) (by (with_reducible repeat (first | refine blk_drewN ?_ _ | refine blk_drew ?_ | refine blk_alloc ?_ _)); refine blk_far ?_ NB104_109.out _; (with_reducible repeat (first | refine blk_drewN ?_ _ | refine blk_drew ?_ | refine blk_alloc ?_ _)); refine blk_far ?_ NB104_109.out _; (with_reducible repeat (first | refine blk_drewN ?_ _ | refine blk_drew ?_ | refine blk_alloc ?_ _)); exact BK104.out) hb); have n2_ := Aside0.mk (blk_below (g := gb109) (o := .cells #[.int .i64 ((rd_T41 l0_3 x22_2).f0), .slice A108_1 ((rd_T41 l0_3 x22_2).f1).length c108_1] 41 (0, 0)) (by (with_reducible repeat (first | refine blk_drewN ?_ _ | refine blk_drew ?_ | refine blk_alloc ?_ _)); refine blk_put (cs := #[.int .i64 ((rd_T41 l0_3 x22_2).f0), .slice none 0 0]) ?_ 1 _ rfl; (with_reducible repeat (first | refine blk_drewN ?_ _ | refine blk_drew ?_ | refine blk_alloc ?_ _)); refine blk_put (cs := #[.int .i64 0, .slice none 0 0]) ?_ 0 _ rfl; (with_reducible repeat (first | refine blk_drewN ?_ _ | refine blk_drew ?_ | refine blk_alloc ?_ _)); exact BK109.out) hb); have n3_ := Aside0.mk (below_step (by repeat (first | (with_reducible first | exact HB.out | apply below_alloc | apply pw_below_drewN | apply below_drew1 | refine below_set ?_ GE104.out | refine below_set ?_ GE109.out) | exact HB.out)) hb); clear HO_5; clear BK104; clear BK109; clear HB; have HO_5 := n0_; have BK104 := n1_; have BK109 := n2_; have HB := n3_; clear n0_ n1_ n2_ n3_; (try clear hb); (try clear hb2); (try clear hk); (try clear hi); have hcz115_0 : w114.cell? ⟨gb109, 0, none⟩ = some (.int .i64 ((rd_T41 l0_3 x22_2).f0)) := (blk_cell BK109.out 0).trans rfl; have hcz115_1 : w114.cell? ⟨gb109, 1, none⟩ = some (.slice A108_1 ((rd_T41 l0_3 x22_2).f1).length c108_1) := (blk_cell BK109.out 1).trans rfl; have hfz115_0 := blk_frozen BK109.out 0; have hfz115_1 := blk_frozen BK109.out 1) | ((with_reducible refine gate_callee (f := 55) rfl ?_); refine goesL_ (some 47) rfl rfl Tryd.func55 (by kernel_rfl) rfl #[fvI a1, .slice A108_1 ((rd_T41 l0_3 x22_2).f1).length c108_1] rfl (by (try simp only [List.map_toArray, List.map_cons, List.map_nil]); first | done | rfl | (simp only [List.length_drop, List.length_take]; rfl)) ?_; (with_reducible refine (ends_reading_leads.calls a1 _ _ ((rd_T41 l0_3 x22_2).f1) t122 false _ ?side1 ?side2 A70.out).mono ?_); (case side1 => repeat (first | exact (Kd.C_below HR108_1.out HB.out) | (with_reducible refine Kd.C_alloc ?_ _) | (with_reducible refine Kd.C_drewN ?_ _) | (with_reducible refine Kd.C_drew ?_))); (case side2 => exact HC108_1.out); rintro e w116 ⟨rfl, hb⟩; refine ⟨_, rfl, ?_⟩; have n0_ := Aside0.mk (Kd.R_below (by (with_reducible repeat (first | apply Kd.R_alloc | apply Kd.R_drewN | apply Kd.R_drew)); exact HO_5.out) hb); have n1_ := Aside0.mk (blk_below (g := gb104) (o := .cells #[.slice A0_0 l0_0.length c0_0, .slice A0_1 l0_1.length c0_1, .int .i64 a0_2, .slice (some ad108) l0_3.length c0_3] 32 (0, 0)) (by (with_reducible repeat (first | refine blk_drewN ?_ _ | refine blk_drew ?_ | refine blk_alloc ?_ _)); exact BK104.out) hb); have n2_ := Aside0.mk (blk_below (g := gb109) (o := .cells #[.int .i64 ((rd_T41 l0_3 x22_2).f0), .slice A108_1 ((rd_T41 l0_3 x22_2).f1).length c108_1] 41 (0, 0)) (by (with_reducible repeat (first | refine blk_drewN ?_ _ | refine blk_drew ?_ | refine blk_alloc ?_ _)); exact BK109.out) hb); have n3_ := Aside0.mk (below_step (by repeat (first | (with_reducible first | exact HB.out | apply below_alloc | apply pw_below_drewN | apply below_drew1 | refine below_set ?_ GE104.out | refine below_set ?_ GE109.out) | exact HB.out)) hb); clear HO_5; clear BK104; clear BK109; clear HB; have HO_5 := n0_; have BK104 := n1_; have BK109 := n2_; have HB := n3_; clear n0_ n1_ n2_ n3_; (try clear hb); (try clear hb2); (try clear hk); (try clear hi); have hcz117_0 : w116.cell? ⟨gb109, 0, none⟩ = some (.int .i64 ((rd_T41 l0_3 x22_2).f0)) := (blk_cell BK109.out 0).trans rfl; have hcz117_1 : w116.cell? ⟨gb109, 1, none⟩ = some (.slice A108_1 ((rd_T41 l0_3 x22_2).f1).length c108_1) := (blk_cell BK109.out 1).trans rfl; have hfz117_0 := blk_frozen BK109.out 0; have hfz117_1 := blk_frozen BK109.out 1; have p129 : 0 ≤ (((rd_T41 l0_3 x22_2).f0) : Int) := of_decide_eq_true (by first | (with_reducible assumption) | assumption); have q129 : ((rd_T41 l0_3 x22_2).f0) < (x5_2.length : Int) := of_decide_eq_true (by first | (with_reducible assumption) | assumption); obtain ⟨ad129, e129, hx129_0⟩ := Kd.at_int (Kd.R_reads' HO_5.out).2.2 ((rd_T41 l0_3 x22_2).f0) p129 q129; obtain rfl : ad110 = ad129 := (by injection e129); replace p129 := eq_true p129; replace q129 := eq_true q129; have p109 : 0 ≤ (((rd_T41 l0_3 x22_2).f0) : Int) := of_decide_eq_true (by first | (with_reducible assumption) | assumption); have q109 : (((rd_T41 l0_3 x22_2).f0) : Int) < ((x5_2.length : Int) : Int) := of_decide_eq_true (by first | (with_reducible assumption) | assumption); obtain ⟨go109, co109, eo109, gb109, gl109, cl109, HG109⟩ := Kd.R_form HO_5.out (by omega); (first | cases eo109 | (injection eo109 with ea_ en_ ec_; (first | subst ea_ | (injection ea_ with ea_; subst ea_)); subst ec_; clear en_)); have GB109 := Aside0.mk gb109; have GG109 := Aside0.mk HG109; clear gb109 gl109 HG109; (first | simp only [add_plain] at hx110_0 | skip); (first | simp only [add_plain] at hx129_0 | skip); obtain ⟨hx109_0, hf109_0⟩ := Kd.R_celln 0 HO_5.out (((rd_T41 l0_3 x22_2).f0) : Int) p109 q109; replace p109 := eq_true p109; replace q109 := eq_true q109; obtain ⟨hy118_, hz118_⟩ := Kd.R_celln 0 HO_5.out (((rd_T41 l0_3 x22_2).f0) : Int) (of_decide_eq_true (by first | (with_reducible assumption) | assumption)) (of_decide_eq_true (by first | (with_reducible assumption) | assumption)); have HP118 := Kd.R_putg HO_5.out (((rd_T41 l0_3 x22_2).f0) : Int) (rd x5_2 ((rd_T41 l0_3 x22_2).f0))) | ((with_reducible refine gate_store (t := 45) (p := 71) rfl ?_); refine store_event (t := 45) (p := 71) (v := ?vo_w119) (w1 := (w116.setCell ⟨go109, (((rd_T41 l0_3 x22_2).f0) : Int).toNat, none⟩ (.int .u64 (rd x5_2 ((rd_T41 l0_3 x22_2).f0))))) ?hg ?ho ?hn ?hr ?_; (case ho => rfl); (case hg => rfl); (case hn => rfl); (case hr => first | (go_simp; done) | (go_simp; rfl)); intro w119 hw; have hg : w116.grownBy w119 (some go109) := (by rw [hw]; exact HP118.2); have hp_ : Kd.R (Kd.int .u64) 45 w119 w.heap.size (fun _ => True) (.slice (some ⟨go109, 0, none⟩) x5_2.length co113) y130 := (by rw [hw, Ny130.out]; exact HP118.1); clear HP118; have n0_ := Aside0.mk (hp_); have n1_ := Aside0.mk (blk_grown (g := gb104) (o := .cells #[.slice A0_0 l0_0.length c0_0, .slice A0_1 l0_1.length c0_1, .int .i64 a0_2, .slice (some ad108) l0_3.length c0_3] 32 (0, 0)) (by (with_reducible repeat (first | refine blk_drewN ?_ _ | refine blk_drew ?_ | refine blk_alloc ?_ _)); exact BK104.out) hg (Kd.R_ne HO_5.out BK104.out (by decide))); have n2_ := Aside0.mk (blk_grown (g := gb109) (o := .cells #[.int .i64 ((rd_T41 l0_3 x22_2).f0), .slice A108_1 ((rd_T41 l0_3 x22_2).f1).length c108_1] 41 (0, 0)) (by (with_reducible repeat (first | refine blk_drewN ?_ _ | refine blk_drew ?_ | refine blk_alloc ?_ _)); exact BK109.out) hg (Kd.R_ne HO_5.out BK109.out (by decide))); have n3_ := Aside0.mk ((by rw [hw]; exact below_set (HB.out) GB109.out : Below w.heap.size w w119)); clear HO_5; clear BK104; clear BK109; clear HB; have HO_5 := n0_; have BK104 := n1_; have BK109 := n2_; have HB := n3_; clear n0_ n1_ n2_ n3_; clear hg hw hp_))
                           go_roundg k2
                           case measure => have := HK1.out; have := HK2.out; omega
                           case rel => exact ⟨(y130), (((rd x5_2 ((rd_T41 l0_3 x22_2).f0)) != (rd x5_2 ((rd_T41 l0_3 x22_2).f0)))), (wrap64 (x22_2 + 1)), (by first | rfl | (simp; done) | (simp [*]; done)), (by first | rfl | (simp; done) | (simp [*]; done)), H', ⟨by have := HK1.out; have := HK2.out; omega⟩, ⟨by (with_reducible repeat (first | apply Kd.R_alloc | apply Kd.R_drewN | apply Kd.R_drew)); exact HO_5.out⟩, ⟨by (with_reducible repeat (first | refine blk_drewN ?_ _ | refine blk_drew ?_ | refine blk_alloc ?_ _)); exact BK104.out⟩, ⟨by repeat (first | (with_reducible first | exact HB.out | apply below_alloc | apply pw_below_drewN | apply below_drew1 | refine below_set ?_ GE104.out | refine below_set ?_ GE109.out) | exact HB.out)⟩⟩
                   · rw [if_neg c15] at H
                     exact absurd H (by simp)
                 · rw [if_neg c14] at H
                   exact absurd H (by simp)
               · rw [if_neg c13] at H
                 exact absurd H (by simp)
             · rw [if_neg c12] at H
               exact absurd H (by simp)
           · rw [if_neg c11] at H
             have c11b0 : decide (x22_2 < (l0_3.length : Int)) = false := decide_eq_false c11
             clear c11
             have H' := Aside0.mk H
             clear H
             go_wp2
             go_roundg k2
             case measure => have := HK1.out; have := HK2.out; omega
             case rel => exact ⟨(x5_2), (x6_2), (by first | rfl | (simp; done) | (simp [*]; done)), H', ⟨by have := HK1.out; have := HK2.out; omega⟩, ⟨by (with_reducible repeat (first | apply Kd.R_alloc | apply Kd.R_drewN | apply Kd.R_drew)); exact HO_5.out⟩, ⟨by (with_reducible repeat (first | refine blk_drewN ?_ _ | refine blk_drew ?_ | refine blk_alloc ?_ _)); exact BK104.out⟩, ⟨by repeat (first | (with_reducible first | exact HB.out | apply below_alloc | apply pw_below_drewN | apply below_drew1 | refine below_set ?_ GE104.out) | exact HB.out)⟩⟩
       · replace c9 := Bool.eq_false_iff.mpr c9
         subst c9
         have H1 : (some x5_1) = some r := by rw [if_neg (show ¬ (false = true) by decide)] at H; exact H
         clear H
         have H := H1
         clear H1
         obtain rfl := Option.some.inj H
         go_wp2
         go_ret
         exact ⟨_, by first | rfl | (simp [errW_none, errW_some] <;> rfl) | (simp [*, errW_none, errW_some] <;> rfl), by (with_reducible repeat (first | apply Kd.R_alloc | apply Kd.R_drewN | apply Kd.R_drew)); exact HO_5.out, by repeat (first | (with_reducible first | exact HB.out | apply below_alloc | apply pw_below_drewN | apply below_drew1 | refine below_set ?_ GE104.out) | exact HB.out)⟩
   · rw [if_neg c4] at H
     exact absurd H (by simp)
 · rw [if_neg c3] at H
   exact absurd H (by simp)

end Go.Proofs.YtjkifeladmhkoaaDoor.Es
/- ends.sets, in plain Lean: rounds that grow till nothing does. -/
set_option linter.unusedVariables false
set_option linter.unusedSimpArgs false
namespace Go.Proofs.YtjkifeladmhkoaaDoor.E8
open Go.RowKit Go.Proofs.YtjkifeladmhkoaaDoorW.PrintWords Go.Proofs.YtjkifeladmhkoaaDoorW.PrintLast Go.Proofs.YtjkifeladmhkoaaDoorW.PrintMore
open Go.Proofs.YtjkifeladmhkoaaDoor.B Go.Proofs.YtjkifeladmhkoaaDoor.Es

theorem l1_step {n t : Nat} {R : List S41} {S : List Int} (a : Int) (l0 l1 : List ByteArray) (a2 : Int) (hn : n ≤ 60) (ht : t ≤ 60) (hRl : R.length ≤ 120) (hS : ESets R (decide (a ≠ 0)) n S) (more : Bool) (j : Nat) (hj : j < R.length) (hx : okR t n R[j] = true) (k : Nat) :
 ends_sets.l1 (k + 1) a S more R (R.length : Int) (j : Int) l0 l1 a2 R = ends_sets.l1 k a (S.set R[j].f0.toNat (upd (decide (a ≠ 0)) S R[j])) (more || (upd (decide (a ≠ 0)) S R[j] != S.getD R[j].f0.toNat 0)) R (R.length : Int) ((j + 1 : Nat) : Int) l0 l1 a2 R := by
 obtain ⟨_, ha0, ha1, hs⟩ := okR_sides hx
 have hd1 : rd_T41 R (j : Int) = R[j] := by rw [rdR_D, getD_lt R j _ hj]
 have hlen := hS.len
 have hall : R[j].f1.all (fun s => decide (-9223372036854775808 ≤ s)) = true := List.all_eq_true.2 fun s h => decide_eq_true (by have := (hs s h).2; omega)
 have hled : ∀ m, led (decide (a ≠ 0)) R[j].f1 = some m → m < n := fun m h => led_lt hx h
 generalize R[j] = x at *
 have hrd : rd S x.f0 = S.getD x.f0.toNat 0 := rfl
 rw [ends_sets.l1, if_pos (by omega), if_pos (by omega), if_pos (by omega), hd1, if_pos ha0, if_pos (by omega), w64 j (by omega), hrd]
 unfold ends_reading_shows.f ends_reading_leads.f shV leV upd
 rw [if_pos hall]
 cases hsh : shw (decide (a ≠ 0)) x.f1 with
 | none =>
  cases hle : led (decide (a ≠ 0)) x.f1 with
  | none => cases more <;> simp
  | some m =>
   have hm := hled m hle
   have hrm : rd S (m : Int) = S.getD m 0 := by simp [rd]
   have h1 : (m : Int) < (S.length : Int) := by omega
   cases more <;> simp [hrm, h1]
 | some q =>
  cases hle : led (decide (a ≠ 0)) x.f1 with
  | none => cases more <;> simp
  | some m =>
   have hm := hled m hle
   have hrm : rd S (m : Int) = S.getD m 0 := by simp [rd]
   have h1 : (m : Int) < (S.length : Int) := by omega
   cases more <;> simp [hrm, h1]

theorem set_same (S : List Int) (i : Nat) (h : i < S.length) : S.set i (S.getD i 0) = S := by
 refine List.ext_getElem (by simp) fun j h1 h2 => ?_
 rw [List.getElem_set]
 split
 · rename_i c; subst c; rw [getD_lt _ _ _ h]
 · rfl
theorem pass (n t : Nat) (a : Int) (l0 l1 : List ByteArray) (a2 : Int) (R : List S41) (hn : n ≤ 60) (ht : t ≤ 60) (hR : ∀ x ∈ R, okR t n x = true) (hRl : R.length ≤ 120) : ∀ (d j : Nat) (S : List Int) (more : Bool), ESets R (decide (a ≠ 0)) n S → R.length - j = d → j ≤ R.length →
 ∃ S' more', (∀ k, ends_sets.l1 (k + d + 1) a S more R (R.length : Int) (j : Int) l0 l1 a2 R = ends_sets.l0 k a S' more' l0 l1 a2 R) ∧ ESets R (decide (a ≠ 0)) n S' ∧ (∀ i, i < n → S.getD i 0 ≤ S'.getD i 0) ∧
  (more' = false → more = false ∧ S' = S ∧ ∀ x ∈ R.drop j, upd (decide (a ≠ 0)) S x = S.getD x.f0.toNat 0) ∧ (more' = true → more = true ∨ S.sum < S'.sum) := by
 intro d
 induction d with
 | zero =>
  intro j S more hS hd hj
  have : j = R.length := by omega
  subst this
  refine ⟨S, more, fun k => ?_, hS, fun i _ => Int.le_refl _, fun h => ⟨h, rfl, by simp⟩, fun h => .inl h⟩
  rw [ends_sets.l1, if_neg (by omega)]
 | succ d ih =>
  intro j S more hS hd hj
  have hlt : j < R.length := by omega
  have hx := hR R[j] (List.getElem_mem hlt)
  have hdrop : R.drop j = R[j] :: R.drop (j + 1) := List.drop_eq_getElem_cons hlt
  have hmem : R[j] ∈ R := List.getElem_mem hlt
  have hstep := l1_step a l0 l1 a2 hn ht hRl hS more j hlt hx
  obtain ⟨_, ha0, ha1, _⟩ := okR_sides hx
  generalize R[j] = x at hx hdrop hmem hstep ha0 ha1
  have hlen := hS.len
  obtain ⟨_, hge, _⟩ := upd_u hS hx ht
  have hS1 := hS.set hmem hx ht
  obtain ⟨S', more', h1, h2, h3, h4, h5⟩ := ih (j + 1) _ (more || (upd (decide (a ≠ 0)) S x != S.getD x.f0.toNat 0)) hS1 (by omega) (by omega)
  have hle1 : ∀ i, i < n → S.getD i 0 ≤ (S.set x.f0.toNat (upd (decide (a ≠ 0)) S x)).getD i 0 := by
   intro i hi
   rw [getD_set]
   split
   · rename_i c; rw [← c.1]; exact hge
   · exact Int.le_refl _
  have hs1 := sum_set S x.f0.toNat (upd (decide (a ≠ 0)) S x) (by omega)
  have hs2 := sum_le _ S' (by rw [hS1.len, h2.len]) (fun i hi => h3 i (by rw [hS1.len] at hi; exact hi))
  refine ⟨S', more', fun k => ?_, h2, fun i hi => Int.le_trans (hle1 i hi) (h3 i hi), fun h => ?_, fun h => ?_⟩
  · rw [show k + (d + 1) + 1 = (k + d + 1) + 1 from by omega, hstep]; exact h1 k
  · obtain ⟨e1, e2, e3⟩ := h4 h
    rw [Bool.or_eq_false_iff] at e1
    have heq : upd (decide (a ≠ 0)) S x = S.getD x.f0.toNat 0 := by simpa using e1.2
    rw [heq, set_same S _ (by omega)] at e2 e3
    refine ⟨e1.1, e2, ?_⟩
    rw [hdrop]
    intro y hy
    rcases List.mem_cons.1 hy with rfl | hy
    · exact heq
    · exact e3 y hy
  · rcases h5 h with h6 | h6
    · rcases Bool.or_eq_true_iff.1 h6 with h7 | h7
      · exact .inl h7
      · have hne : upd (decide (a ≠ 0)) S x ≠ S.getD x.f0.toNat 0 := by simpa using h7
        exact .inr (by omega)
    · exact .inr (by omega)
theorem rounds_l (n t : Nat) (a : Int) (l0 l1 : List ByteArray) (a2 : Int) (R : List S41) (hn : n ≤ 60) (ht : t ≤ 60) (hR : ∀ x ∈ R, okR t n x = true) (hRl : R.length ≤ 120) : ∀ (d : Nat) (S : List Int), ESets R (decide (a ≠ 0)) n S → (n : Int) * 2 ^ 64 - S.sum ≤ d →
 ∃ k S', ends_sets.l0 k a S true l0 l1 a2 R = some S' ∧ EndsIs R (decide (a ≠ 0)) n S' := by
 intro d
 induction d with
 | zero =>
  intro S hS hd
  obtain ⟨S', more', h1, h2, h3, h4, h5⟩ := pass n t a l0 l1 a2 R hn ht hR hRl R.length 0 S false hS (by omega) (by omega)
  cases more' with
  | false =>
   obtain ⟨_, rfl, hsh⟩ := h4 rfl
   refine ⟨1 + R.length + 1 + 1, S', ?_, h2.ends hR ht (by simpa using hsh)⟩
   rw [ends_sets.l0, if_pos rfl]
   have := h1 1
   rw [show ((0 : Nat) : Int) = 0 from rfl] at this
   rw [this, ends_sets.l0, if_neg (by decide)]
  | true =>
   exfalso
   have hlt := (h5 rfl).resolve_left (by decide)
   have hb := sum_bound S' (fun i hi => (h2.u i (by rw [h2.len] at hi; exact hi)).2)
   rw [h2.len] at hb
   omega
 | succ d ih =>
  intro S hS hd
  obtain ⟨S', more', h1, h2, h3, h4, h5⟩ := pass n t a l0 l1 a2 R hn ht hR hRl R.length 0 S false hS (by omega) (by omega)
  cases more' with
  | false =>
   obtain ⟨_, rfl, hsh⟩ := h4 rfl
   refine ⟨1 + R.length + 1 + 1, S', ?_, h2.ends hR ht (by simpa using hsh)⟩
   rw [ends_sets.l0, if_pos rfl]
   have := h1 1
   rw [show ((0 : Nat) : Int) = 0 from rfl] at this
   rw [this, ends_sets.l0, if_neg (by decide)]
  | true =>
   have hlt := (h5 rfl).resolve_left (by decide)
   obtain ⟨k, S2, e1, e2⟩ := ih S' h2 (by omega)
   refine ⟨k + R.length + 1 + 1, S2, ?_, e2⟩
   rw [ends_sets.l0, if_pos rfl]
   have := h1 k
   rw [show ((0 : Nat) : Int) = 0 from rfl] at this
   rw [this, e1]
theorem Sets_ev (t : Nat) (a : Int) (l0 l1 : List ByteArray) (a2 : Int) (R : List S41) (hn : l1.length ≤ 60) (ht : t ≤ 60) (hR : ∀ x ∈ R, okR t l1.length x = true) (hRl : R.length ≤ 120) : ∃ k S, ends_sets.f k l0 l1 a2 R a = some S ∧ EndsIs R (decide (a ≠ 0)) l1.length S := by
 obtain ⟨k, S, h1, h2⟩ := rounds_l l1.length t a l0 l1 a2 R hn ht hR hRl (((l1.length : Int) * 2 ^ 64 - (List.replicate l1.length (0 : Int)).sum).toNat) _ (ESets.start l1.length) (by omega)
 refine ⟨k, S, ?_, h2⟩
 unfold ends_sets.f
 rw [if_pos (by omega), Int.toNat_natCast, if_pos (by omega)]
 exact h1
end Go.Proofs.YtjkifeladmhkoaaDoor.E8
/- ends.Of at a grammar that may be: the sets. -/
set_option linter.unusedVariables false
set_option linter.unusedSimpArgs false
namespace Go.Proofs.YtjkifeladmhkoaaDoor.E8
open Go.RowKit Go.Proofs.YtjkifeladmhkoaaDoorW.PrintWords Go.Proofs.YtjkifeladmhkoaaDoorW.PrintLast Go.Proofs.YtjkifeladmhkoaaDoorW.PrintMore
open Go.Proofs.YtjkifeladmhkoaaDoor.B Go.Proofs.YtjkifeladmhkoaaDoor.Es

theorem FromF_calls (w : World) : Calls Tryd.prog 53 #[.bool false] w fun e w' => e = .returned (fvI 0) ∧ Below w.heap.size w w' := by
 have hq : fvI 0 = .func (.func 84) #[] #[] := rfl
 rw [hq]
 go_enter Tryd.func53, Tryd.ntmps53
 go_wp2_with fail
 go_ret
 exact ⟨rfl, Below.refl _ w⟩
theorem FromT_calls (w : World) : Calls Tryd.prog 53 #[.bool true] w fun e w' => e = .returned (fvI 1) ∧ Below w.heap.size w w' := by
 have hq : fvI 1 = .func (.func 83) #[] #[] := rfl
 rw [hq]
 go_enter Tryd.func53, Tryd.ntmps53
 go_wp2_with fail
 go_ret
 exact ⟨rfl, Below.refl _ w⟩
def GO (w : World) (cs : Array Value) (W : World) : Prop := Below w.heap.size w W ∧ Box w.heap.size cs 32 W ∧ Box (w.heap.size + 1) #[.slice none 0 0, .slice none 0 0] 36 W
theorem GO.low {w : World} {cs : Array Value} {W : World} (h : GO w cs W) : Below w.heap.size w W := h.1
theorem GO.more {w : World} {cs : Array Value} {W W' : World} (h : GO w cs W) (hb : Below W.heap.size W W') : GO w cs W' := ⟨h.1.trans (hb.mono h.1.size), h.2.1.below hb, h.2.2.below hb⟩
theorem GO.start (w : World) (cs : Array Value) : GO w cs ((w.alloc (.cells cs 32)).alloc (.cells #[.slice none 0 0, .slice none 0 0] 36)) :=
 ⟨((Below.refl _ w).alloc (Nat.le_refl _) _).alloc (by simp) _, (Box.new w _ _).alloc _, by have := Box.new (w.alloc (.cells cs 32)) #[.slice none 0 0, .slice none 0 0] 36; simpa using this⟩
theorem GO.two {w : World} {cs : Array Value} {W : World} (h : GO w cs W) : w.heap.size + 2 ≤ W.heap.size := by
 have h2 : W.heap[w.heap.size + 1]? = some (.cells #[.slice none 0 0, .slice none 0 0] 36 (0, 0)) := h.2.2
 rcases Nat.lt_or_ge (w.heap.size + 1) W.heap.size with h1 | h1
 · exact h1
 · rw [Array.getElem?_eq_none h1] at h2; cases h2
theorem R_put2 {w W : World} {base : Nat} {v : Value} {X : List Int} (h : Kd.R (Kd.int .u64) 45 W base (fun k => w.heap.size + 2 ≤ k) v X) (hb : w.heap.size ≤ base) (u0 u1 : Value) : Kd.R (Kd.int .u64) 45 ((W.setCell ⟨w.heap.size + 1, 0, none⟩ u0).setCell ⟨w.heap.size + 1, 1, none⟩ u1) w.heap.size (fun _ => True) v X :=
 Kd.R_mono (Kd.R_lower (Kd.R_far (Kd.R_far h (p := ⟨w.heap.size + 1, 0, none⟩) (fun k hk => by dsimp only; omega) u0) (p := ⟨w.heap.size + 1, 1, none⟩) (fun k hk => by dsimp only; omega) u1) hb) fun _ _ => trivial
def CO (w : World) (v0 v1 v2 v3 : Value) (W : World) : Prop := W.cell? ⟨w.heap.size, 0, none⟩ = some v0 ∧ W.cell? ⟨w.heap.size, 1, none⟩ = some v1 ∧ W.cell? ⟨w.heap.size, 2, none⟩ = some v2 ∧ W.cell? ⟨w.heap.size, 3, none⟩ = some v3 ∧ W.cell? ⟨w.heap.size + 1, 0, none⟩ = some (.slice none 0 0) ∧ W.cell? ⟨w.heap.size + 1, 1, none⟩ = some (.slice none 0 0) ∧ W.frozen? ⟨w.heap.size + 1, 0, none⟩ = false ∧ W.frozen? ⟨w.heap.size + 1, 1, none⟩ = false
theorem GO.cells {w : World} {v0 v1 v2 v3 : Value} {W : World} (h : GO w #[v0, v1, v2, v3] W) : CO w v0 v1 v2 v3 W := by
 have h4 : W.heap[w.heap.size + 1]? = some (.cells #[.slice none 0 0, .slice none 0 0] 36 (0, 0)) := h.2.2
 have hf : ∀ j, W.frozen? ⟨w.heap.size + 1, j, none⟩ = false := fun j => by unfold World.frozen?; rw [show W.heap[(⟨w.heap.size + 1, j, none⟩ : Addr).block]? = _ from h4]; rfl
 exact ⟨h.2.1.cell 0 _ rfl, h.2.1.cell 1 _ rfl, h.2.1.cell 2 _ rfl, h.2.1.cell 3 _ rfl, h.2.2.cell 0 _ rfl, h.2.2.cell 1 _ rfl, hf 0, hf 1⟩

set_option maxHeartbeats 4000000 in
set_option maxRecDepth 100000 in
theorem Of_ok (ad : Int → Addr) (A0 : Option Addr) (c0 : Nat) (l0 : List ByteArray) (A1 : Option Addr) (c1 : Nat) (l1 : List ByteArray) (a2 : Int) (A3 : Option Addr) (c3 : Nat) (l3 : List S41) (k : Nat) (SL SR : List Int) (w : World) (hr0 : Kd.C Kd.string w A0 l0.length l0) (hc0 : l0.length ≤ c0) (hr1 : Kd.C Kd.string w A1 l1.length l1) (hc1 : l1.length ≤ c1) (hr3 : Kd.C k41 w A3 l3.length l3) (hc3 : l3.length ≤ c3)
 (hC : ∀ W, Below w.heap.size w W → Calls Tryd.prog 52 #[.agg #[.slice A0 l0.length c0, .slice A1 l1.length c1, .int .i64 a2, .slice A3 l3.length c3]] W fun e w' => e = .returned .nilIface ∧ Below W.heap.size W w')
 (hL : ends_sets.f k l0 l1 a2 l3 0 = some SL) (hR : ends_sets.f k l0 l1 a2 l3 1 = some SR) :
 Calls Tryd.prog 17 #[.agg #[.slice A0 l0.length c0, .slice A1 l1.length c1, .int .i64 a2, .slice A3 l3.length c3]] w fun e w' => ∃ v0 v1, e = .returned (.tuple #[.agg #[v0, v1], .nilIface]) ∧ Kd.R (Kd.int .u64) 45 w' w.heap.size (fun _ => True) v0 SL ∧ Kd.R (Kd.int .u64) 45 w' w.heap.size (fun _ => True) v1 SR ∧ (v0.ownBlock = none ∨ v0.ownBlock ≠ v1.ownBlock) ∧ Below w.heap.size w w' := by
 obtain ⟨cs, hcs⟩ : ∃ cs : Array Value, cs = #[.slice A0 l0.length c0, .slice A1 l1.length c1, .int .i64 a2, .slice A3 l3.length c3] := ⟨_, rfl⟩
 have CE : ∀ W, GO w cs W → CO w (.slice A0 l0.length c0) (.slice A1 l1.length c1) (.int .i64 a2) (.slice A3 l3.length c3) W := by
  intro W hW; subst hcs; exact hW.cells
 have st : GO w cs ((w.alloc (.cells #[.slice A0 l0.length c0, .slice A1 l1.length c1, .int .i64 a2, .slice A3 l3.length c3] 32)).alloc (.cells #[.slice none 0 0, .slice none 0 0] 36)) := by subst hcs; exact GO.start w _
 have kC : ∀ W, GO w cs W → Calls Tryd.prog 52 #[.agg #[.slice A0 l0.length c0, .slice A1 l1.length c1, .int .i64 a2, .slice A3 l3.length c3]] W fun e w' => e = .returned .nilIface ∧ Aside0 (GO w cs w') := fun W hW => (hC W hW.low).mono fun _ _ h => ⟨h.1, ⟨hW.more h.2⟩⟩
 have kF : ∀ W, GO w cs W → Calls Tryd.prog 53 #[.bool false] W fun e w' => e = .returned (fvI 0) ∧ Aside0 (GO w cs w' ∧ Below W.heap.size W w') ∧ CO w (.slice A0 l0.length c0) (.slice A1 l1.length c1) (.int .i64 a2) (.slice A3 l3.length c3) w' := fun W hW => (FromF_calls W).mono fun _ _ h => ⟨h.1, ⟨hW.more h.2, h.2⟩, CE _ (hW.more h.2)⟩
 have kT : ∀ W, GO w cs W → Calls Tryd.prog 53 #[.bool true] W fun e w' => e = .returned (fvI 1) ∧ Aside0 (GO w cs w' ∧ Below W.heap.size W w') ∧ CO w (.slice A0 l0.length c0) (.slice A1 l1.length c1) (.int .i64 a2) (.slice A3 l3.length c3) w' := fun W hW => (FromT_calls W).mono fun _ _ h => ⟨h.1, ⟨hW.more h.2, h.2⟩, CE _ (hW.more h.2)⟩
 have kS : ∀ (a : Int) (S : List Int), ends_sets.f k l0 l1 a2 l3 a = some S → ∀ W, GO w cs W → Calls Tryd.prog 59 #[.agg #[.slice A0 l0.length c0, .slice A1 l1.length c1, .int .i64 a2, .slice A3 l3.length c3], fvI a] W fun e w' => (∃ L C, e = .returned (.slice L S.length C) ∧ Aside0 (Kd.R (Kd.int .u64) 45 w' W.heap.size (fun _ => True) (.slice L S.length C) S ∧ Below W.heap.size W w' ∧ GO w cs w')) ∧ CO w (.slice A0 l0.length c0) (.slice A1 l1.length c1) (.int .i64 a2) (.slice A3 l3.length c3) w' :=
  fun a S hf W hW => (ends_sets.calls k A0 c0 l0 A1 c1 l1 a2 A3 c3 l3 a S W (Kd.C_below hr0 hW.low) hc0 (Kd.C_below hr1 hW.low) hc1 (Kd.C_below hr3 hW.low) hc3 hf).mono fun _ _ ⟨v, he, hv, hb⟩ => by
   obtain ⟨L, C, rfl⟩ := Kd.R_slice hv
   exact ⟨⟨L, C, he, ⟨hv, hb, hW.more hb⟩⟩, CE _ (hW.more hb)⟩
 have kL := kS 0 SL hL
 have kR := kS 1 SR hR
 obtain ⟨f0, f1, f2, f3, f4, f5, f6, f7⟩ := CE _ st
 have ST := Aside0.mk st
 have CE' := Aside0.mk CE
 have HCS := Lib.hid hcs
 have KC := Aside0.mk kC
 have KF := Aside0.mk kF
 have KT := Aside0.mk kT
 have KL := Aside0.mk kL
 have KR := Aside0.mk kR
 clear st CE hcs kC kF kT kS kL kR hr0 hr1 hr3 hC hL hR
 go_enter Tryd.func17, Tryd.ntmps17
 go_wp2_with (first
  | (go_at_call 52; (with_reducible refine (KC.out _ ST.out).mono ?_); rintro e w1 ⟨rfl, t1⟩; clear f0 f1 f2 f3 f4 f5 f6 f7; obtain ⟨f0, f1, f2, f3, f4, f5, f6, f7⟩ := CE'.out _ t1.out))
 go_region_held3 (fun W' => W'.cell? ⟨w.heap.size, 0, none⟩ = some (.slice A0 l0.length c0) ∧ W'.cell? ⟨w.heap.size, 1, none⟩ = some (.slice A1 l1.length c1) ∧ W'.cell? ⟨w.heap.size, 2, none⟩ = some (.int .i64 a2) ∧ W'.cell? ⟨w.heap.size, 3, none⟩ = some (.slice A3 l3.length c3))
  (go_keep)
  ((first
   | (go_at_call 53; (with_reducible refine (KF.out _ ?_).mono ?_); exact (by first | exact t1.out | exact t1.out.more (Below.refl _ _).drew); rintro e w2 ⟨rfl, t2, g0, g1, g2, g3, g4, g5, g6, g7⟩)
   | (go_at_call 59; (with_reducible refine (KL.out _ t2.out.1).mono ?_); rintro e w3 ⟨⟨L, C, rfl, t3⟩, g0, g1, g2, g3, g4, g5, g6, g7⟩)
   | (go_at_call 53; (with_reducible refine (KT.out _ t3.out.2.2).mono ?_); rintro e w4 ⟨rfl, t4, g0, g1, g2, g3, g4, g5, g6, g7⟩)
   | (go_at_call 59; (with_reducible refine (KR.out _ t4.out.1).mono ?_); rintro e w5 ⟨⟨M, D, rfl, t5⟩, g0, g1, g2, g3, g4, g5, g6, g7⟩)))
 go_wp2_with fail
 refine bodyPost_ret (v := .tuple #[.agg #[.slice L SL.length C, .slice M SR.length D], .nilIface]) (by simp [results, Tryd.results17, go_sem, g4, g5]) rfl ⟨.slice L SL.length C, .slice M SR.length D, rfl, ?_, ?_, ?_, ?_⟩
 · have m := Kd.R_mono (Kd.R_bound t3.out.1) (ok' := fun k => w.heap.size + 2 ≤ k) (fun k hk => Nat.le_trans t2.out.1.two hk.2.1)
   exact R_put2 (Kd.R_below (Kd.R_below m t4.out.2) t5.out.2.1) (by have := t2.out.1.two; omega) _ _
 · have m := Kd.R_mono (Kd.R_bound t5.out.1) (ok' := fun k => w.heap.size + 2 ≤ k) (fun k hk => Nat.le_trans t4.out.1.two hk.2.1)
   exact R_put2 m (by have := t4.out.1.two; omega) _ _
 · refine own_apart (n := w4.heap.size) (fun k hk => ?_) (fun k hk => ?_)
   · have := (Kd.R_bound t3.out.1).1 k hk
     exact Nat.lt_of_lt_of_le this.2.2.1 t4.out.2.size
   · exact ((Kd.R_bound t5.out.1).1 k hk).2.1
 · have hb := t5.out.2.2.low
   exact (hb.setCell (p := ⟨w.heap.size + 1, 0, none⟩) (by dsimp only; omega) _).setCell (p := ⟨w.heap.size + 1, 1, none⟩) (by dsimp only; omega) _
end Go.Proofs.YtjkifeladmhkoaaDoor.E8
/- ends.Chain's closure, slices.IndexFunc over it, slices.Clip: walked. -/
set_option linter.unusedVariables false
set_option linter.unusedSimpArgs false
namespace Go.Proofs.YtjkifeladmhkoaaDoor.E8
open Go.RowKit Go.Proofs.YtjkifeladmhkoaaDoorW.PrintWords Go.Proofs.YtjkifeladmhkoaaDoorW.PrintLast Go.Proofs.YtjkifeladmhkoaaDoorW.PrintMore
open Go.Proofs.YtjkifeladmhkoaaDoor.B Go.Proofs.YtjkifeladmhkoaaDoor.Es

set_option maxRecDepth 100000 in
theorem Clip_calls (A : Option Addr) (n c : Nat) (w : World) (hc : n ≤ c) (hm : n ≤ 9223372036854775807) :
 Calls Tryd.prog 58 #[.slice A n c] w fun e w' => e = .returned (.slice A n n) ∧ Below w.heap.size w w' := by
 go_enter Tryd.func58, Tryd.ntmps58
 go_wp2_with fail
 go_ret
 exact ⟨rfl, Below.refl _ w⟩
structure CB (bf bn bc bt bq br : Nat) (r : Bool) (i n tm N : Nat) (far : List Int) (W : World) : Prop where
 f : Box bf #[fv r] 98 W
 i : Box bn #[.int .i64 (i : Int)] 3 W
 n : Box bc #[.int .i64 (n : Int)] 3 W
 t : Box bt #[.int .i64 (tm : Int)] 3 W
 q : Box bq #[.slice (some ⟨br, 0, none⟩) N N] 24 W
 row : Kd.C (Kd.int .i64) W (some ⟨br, 0, none⟩) N far
theorem CB.below {bf bn bc bt bq br : Nat} {r : Bool} {i n tm N : Nat} {far : List Int} {W W' : World} (h : CB bf bn bc bt bq br r i n tm N far W) (hb : Below W.heap.size W W') : CB bf bn bc bt bq br r i n tm N far W' :=
 ⟨h.f.below hb, h.i.below hb, h.n.below hb, h.t.below hb, h.q.below hb, Kd.C_below h.row hb⟩
theorem Box.lt {b : Nat} {cs : Array Value} {t : TypeId} {W : World} (h : Box b cs t W) : b < W.heap.size := by
 have h' : W.heap[b]? = some (.cells cs t (0, 0)) := h
 rcases Nat.lt_or_ge b W.heap.size with h1 | h1
 · exact h1
 · rw [Array.getElem?_eq_none h1] at h'; cases h'
theorem CB.at {bf bn bc bt bq br : Nat} {r : Bool} {i n tm N : Nat} {far : List Int} {W : World} (h : CB bf bn bc bt bq br r i n tm N far W) (m : Nat) (hm : m < N) : W.cell? ⟨br, m, none⟩ = some (.int .i64 (far.getD m 0)) := by
 have hrow := h.row
 have hl : far.length = N := hrow.1
 rw [← hl] at hrow
 obtain ⟨ad, e, hx⟩ := Kd.at_int hrow (m : Int) (by omega) (by omega)
 obtain rfl := Option.some.inj e
 rw [Int.toNat_natCast, rd_D, add_plain] at hx
 exact hx
def condC (r : Bool) (tm : Nat) (far : List Int) (n i : Nat) (x : S41) : Bool := decide (x.f0 = (i : Int)) && hit r tm far n x.f1
theorem hit_case (r : Bool) (tm N : Nat) (far : List Int) (n : Nat) (h1 : 1 ≤ n) (l : List Int) (hl : ∀ m, led r l = some m → m < N) :
 ∃ (a1 : Int) (b1 : Bool) (a2 : Int) (b2 : Bool), shV r l = (a1, b1) ∧ leV r l = (a2, b2) ∧
 ((n = 1 ∧ b1 = false ∧ hit r tm far n l = false) ∨ (n = 1 ∧ b1 = true ∧ a1 ≠ (tm : Int) ∧ hit r tm far n l = false) ∨ (n = 1 ∧ b1 = true ∧ a1 = (tm : Int) ∧ hit r tm far n l = true) ∨
  (1 < n ∧ b2 = false ∧ hit r tm far n l = false) ∨ (1 < n ∧ b2 = true ∧ ∃ m : Nat, a2 = (m : Int) ∧ m < N ∧ ((far.getD m 0 ≠ (n : Int) - 1 ∧ hit r tm far n l = false) ∨ (far.getD m 0 = (n : Int) - 1 ∧ hit r tm far n l = true)))) := by
 refine ⟨_, _, _, _, rfl, rfl, ?_⟩
 by_cases c : n = 1
 · subst c
   cases hs : shw r l with
   | none => left; simp [shV, hs, hit]
   | some t =>
    by_cases ct : t = tm
    · right; right; left; simp [shV, hs, hit, ct]
    · right; left
      refine ⟨rfl, by simp [shV, hs], by simp only [shV, hs]; omega, by simp [hit, hs, ct]⟩
 · have hn : 1 < n := by omega
   right; right; right
   cases hs : led r l with
   | none => left; exact ⟨hn, by simp [leV, hs], by simp [hit, hs, c]⟩
   | some m =>
    right
    refine ⟨hn, by simp [leV, hs], m, by simp [leV, hs], hl m hs, ?_⟩
    by_cases cm : far.getD m 0 = (n : Int) - 1
    · right; exact ⟨cm, by simp only [hit, hs, decide_eq_true hn, decide_eq_true cm]; simp⟩
    · left; exact ⟨cm, by simp only [hit, hs, decide_eq_false cm]; simp [c]⟩

set_option maxHeartbeats 4000000 in
set_option maxRecDepth 100000 in
theorem Cond_calls (bf bn bc bt bq br : Nat) (r : Bool) (i n tm t N : Nat) (far : List Int) (x : S41) (A : Option Addr) (c : Nat) (w : World) (h : CB bf bn bc bt bq br r i n tm N far w) (hn1 : 1 ≤ n) (hn2 : n ≤ 1000) (hok : okR t N x = true) (hr : Kd.C (Kd.int .i64) w A x.f1.length x.f1) (hc : x.f1.length ≤ c) (ht : t ≤ 60) (hN : N ≤ 60) :
 Calls Tryd.prog 57 #[.agg #[.int .i64 x.f0, .slice A x.f1.length c], .pointer (some ⟨bf, 0, none⟩), .pointer (some ⟨bn, 0, none⟩), .pointer (some ⟨bc, 0, none⟩), .pointer (some ⟨bt, 0, none⟩), .pointer (some ⟨bq, 0, none⟩)] w fun e w' => e = .returned (.bool (condC r tm far n i x)) ∧ Below w.heap.size w w' := by
 have hll : ∀ s ∈ x.f1, (-9223372036854775808 : Int) ≤ s := fun s hs => by have := ((okR_sides hok).2.2.2 s hs).2; omega
 have hld : ∀ m, led r x.f1 = some m → m < N := fun m hm => led_lt hok hm
 obtain ⟨x0, x1⟩ := x
 dsimp only at hr hc hll hld ⊢
 obtain ⟨a1, b1, a2, b2, hs1, hs2, hcase⟩ := hit_case r tm N far n hn1 x1 hld
 have hu : condC r tm far n i ⟨x0, x1⟩ = (decide (x0 = (i : Int)) && hit r tm far n x1) := rfl
 rw [hu]
 generalize hit r tm far n x1 = hv at hcase
 obtain ⟨Tw, hT⟩ : ∃ Tw : World → Prop, ∀ W, Tw W ↔ (Below w.heap.size w W ∧ Box w.heap.size #[.int .i64 x0, .slice A x1.length c] 41 W) := ⟨_, fun _ => Iff.rfl⟩
 have start : Tw (w.alloc (.cells #[.int .i64 x0, .slice A x1.length c] 41)) := (hT _).2 ⟨(Below.refl _ w).alloc (Nat.le_refl _) _, Box.new w _ _⟩
 have cells : ∀ W, Tw W → W.cell? ⟨w.heap.size, 0, none⟩ = some (.int .i64 x0) ∧ W.cell? ⟨w.heap.size, 1, none⟩ = some (.slice A x1.length c) ∧ W.cell? ⟨bf, 0, none⟩ = some (fv r) ∧ W.cell? ⟨bn, 0, none⟩ = some (.int .i64 (i : Int)) ∧ W.cell? ⟨bc, 0, none⟩ = some (.int .i64 (n : Int)) ∧ W.cell? ⟨bt, 0, none⟩ = some (.int .i64 (tm : Int)) ∧ W.cell? ⟨bq, 0, none⟩ = some (.slice (some ⟨br, 0, none⟩) N N) := by
  intro W hW
  obtain ⟨hb, hx⟩ := (hT W).1 hW
  have h' := h.below hb
  exact ⟨hx.cell 0 _ rfl, hx.cell 1 _ rfl, h'.f.cell 0 _ rfl, h'.i.cell 0 _ rfl, h'.n.cell 0 _ rfl, h'.t.cell 0 _ rfl, h'.q.cell 0 _ rfl⟩
 have rows : ∀ W, Tw W → ∀ m : Nat, m < N → W.cell? ⟨br, m, none⟩ = some (.int .i64 (far.getD m 0)) := fun W hW m hm => (h.below ((hT W).1 hW).1).at m hm
 have more : ∀ W W', Tw W → Below W.heap.size W W' → Tw W' := fun W W' h hb => (hT W').2 ⟨((hT W).1 h).1.trans (hb.mono ((hT W).1 h).1.size), ((hT W).1 h).2.below hb⟩
 have last : ∀ W, Tw W → Below w.heap.size w W := fun W h => ((hT W).1 h).1
 have kS : ∀ W, Tw W → Calls Tryd.prog 54 #[fv r, .slice A x1.length c] W fun e w' => e = .returned (.tuple #[.int .i64 a1, .bool b1]) ∧ Aside0 (Tw w') := fun W hW => by
  have := Shows_calls r x1 A c W (Kd.C_below hr (last W hW))
  rw [hs1] at this
  exact this.mono fun _ _ ⟨he, hb⟩ => ⟨he, ⟨more _ _ hW hb⟩⟩
 have kL : ∀ W, Tw W → Calls Tryd.prog 55 #[fv r, .slice A x1.length c] W fun e w' => e = .returned (.tuple #[.int .i64 a2, .bool b2]) ∧ Aside0 (Tw w') := fun W hW => by
  have := Leads_calls r x1 A c W (Kd.C_below hr (last W hW)) hll
  rw [hs2] at this
  exact this.mono fun _ _ ⟨he, hb⟩ => ⟨he, ⟨more _ _ hW hb⟩⟩
 have ST := Aside0.mk start
 have CE := Aside0.mk cells
 have RO := Aside0.mk rows
 have LA := Aside0.mk last
 have KS := Aside0.mk kS
 have KL := Aside0.mk kL
 obtain ⟨f0, f1, f2, f3, f4, f5, f6⟩ := cells _ start
 clear h hr start cells more last kS kL rows hT hs1 hs2 hok hll hld hu
 generalize fv r = fr at *
 by_cases cx : x0 = (i : Int)
 · have cx1 : decide (x0 = (i : Int)) = true := decide_eq_true cx
   have cx2 : (x0 == (i : Int)) = true := by simpa using cx
   rw [cx1, Bool.true_and]
   have CX := Lib.hid cx
   clear cx
   rcases hcase with ⟨rfl, rfl, rfl⟩ | ⟨rfl, rfl, h1, rfl⟩ | ⟨rfl, rfl, rfl, rfl⟩ | ⟨h1, rfl, rfl⟩ | ⟨h1, rfl, m, rfl, hm, h2⟩
   · go_enter Tryd.func57, Tryd.ntmps57
     go_wp2_with (first
      | (go_at_call 54; (with_reducible refine (KS.out _ ST.out).mono ?_); clear f0 f1 f2 f3 f4 f5 f6; rintro e w1 ⟨rfl, t1⟩; obtain ⟨f0, f1, f2, f3, f4, f5, f6⟩ := CE.out _ t1.out)
      | (go_at_call 55; (with_reducible refine (KL.out _ t1.out).mono ?_); clear f0 f1 f2 f3 f4 f5 f6; rintro e w2 ⟨rfl, t2⟩; obtain ⟨f0, f1, f2, f3, f4, f5, f6⟩ := CE.out _ t2.out))
     go_quiet (fail)
     go_wp2_with fail
     go_ret
     exact ⟨rfl, pw_below_drewN (LA.out _ t2.out) _⟩
   · have d1 : decide (a1 = (tm : Int)) = false := decide_eq_false h1
     have d2 : (a1 == (tm : Int)) = false := by simpa using h1
     have H1 := Lib.hid h1
     clear h1
     go_enter Tryd.func57, Tryd.ntmps57
     go_wp2_with (first
      | (go_at_call 54; (with_reducible refine (KS.out _ ST.out).mono ?_); clear f0 f1 f2 f3 f4 f5 f6; rintro e w1 ⟨rfl, t1⟩; obtain ⟨f0, f1, f2, f3, f4, f5, f6⟩ := CE.out _ t1.out)
      | (go_at_call 55; (with_reducible refine (KL.out _ t1.out).mono ?_); clear f0 f1 f2 f3 f4 f5 f6; rintro e w2 ⟨rfl, t2⟩; obtain ⟨f0, f1, f2, f3, f4, f5, f6⟩ := CE.out _ t2.out))
     go_quiet (fail)
     go_wp2_with fail
     go_ret
     exact ⟨rfl, pw_below_drewN (LA.out _ t2.out) _⟩
   · go_enter Tryd.func57, Tryd.ntmps57
     go_wp2_with (first
      | (go_at_call 54; (with_reducible refine (KS.out _ ST.out).mono ?_); clear f0 f1 f2 f3 f4 f5 f6; rintro e w1 ⟨rfl, t1⟩; obtain ⟨f0, f1, f2, f3, f4, f5, f6⟩ := CE.out _ t1.out)
      | (go_at_call 55; (with_reducible refine (KL.out _ t1.out).mono ?_); clear f0 f1 f2 f3 f4 f5 f6; rintro e w2 ⟨rfl, t2⟩; obtain ⟨f0, f1, f2, f3, f4, f5, f6⟩ := CE.out _ t2.out))
     go_quiet (fail)
     go_wp2_with fail
     go_ret
     exact ⟨rfl, pw_below_drewN (LA.out _ t2.out) _⟩
   · have d1 : decide ((n : Int) = 1) = false := decide_eq_false (by omega)
     have d2 : ((n : Int) == 1) = false := by simp; omega
     have d3 : decide (1 < (n : Int)) = true := decide_eq_true (by omega)
     have d4 : decide ((1 : Nat) < n) = true := decide_eq_true h1
     go_enter Tryd.func57, Tryd.ntmps57
     go_wp2_with (first
      | (go_at_call 54; (with_reducible refine (KS.out _ ST.out).mono ?_); clear f0 f1 f2 f3 f4 f5 f6; rintro e w1 ⟨rfl, t1⟩; obtain ⟨f0, f1, f2, f3, f4, f5, f6⟩ := CE.out _ t1.out)
      | (go_at_call 55; (with_reducible refine (KL.out _ t1.out).mono ?_); clear f0 f1 f2 f3 f4 f5 f6; rintro e w2 ⟨rfl, t2⟩; obtain ⟨f0, f1, f2, f3, f4, f5, f6⟩ := CE.out _ t2.out))
     go_quiet (fail)
     go_wp2_with fail
     go_ret
     exact ⟨rfl, pw_below_drewN (LA.out _ t2.out) _⟩
   · have d1 : decide ((n : Int) = 1) = false := decide_eq_false (by omega)
     have d2 : ((n : Int) == 1) = false := by simp; omega
     have d3 : decide (1 < (n : Int)) = true := decide_eq_true (by omega)
     have d4 : decide ((1 : Nat) < n) = true := decide_eq_true h1
     rcases h2 with ⟨h2, rfl⟩ | ⟨h2, rfl⟩
     · have d5 : decide (far.getD m 0 = (n : Int) - 1) = false := decide_eq_false h2
       have d6 : (far.getD m 0 == (n : Int) - 1) = false := by simpa using h2
       have H2 := Lib.hid h2
       clear h2
       have rm := fun W hW => RO.out W hW m hm
       generalize far.getD m 0 = fm at d5 d6 rm H2
       have RM := Aside0.mk rm
       clear rm
       go_enter Tryd.func57, Tryd.ntmps57
       go_wp2_with (first
        | (go_at_call 54; (with_reducible refine (KS.out _ ST.out).mono ?_); clear f0 f1 f2 f3 f4 f5 f6; rintro e w1 ⟨rfl, t1⟩; obtain ⟨f0, f1, f2, f3, f4, f5, f6⟩ := CE.out _ t1.out)
        | (go_at_call 55; (with_reducible refine (KL.out _ t1.out).mono ?_); clear f0 f1 f2 f3 f4 f5 f6; rintro e w2 ⟨rfl, t2⟩; obtain ⟨f0, f1, f2, f3, f4, f5, f6⟩ := CE.out _ t2.out))
       have f7 := RM.out _ t2.out
       go_quiet (fail)
       go_wp2_with fail
       go_ret
       exact ⟨rfl, pw_below_drewN (LA.out _ t2.out) _⟩
     · have d5 : decide (far.getD m 0 = (n : Int) - 1) = true := decide_eq_true h2
       have d6 : (far.getD m 0 == (n : Int) - 1) = true := by simpa using h2
       have H2 := Lib.hid h2
       clear h2
       have rm := fun W hW => RO.out W hW m hm
       generalize far.getD m 0 = fm at d5 d6 rm H2
       have RM := Aside0.mk rm
       clear rm
       go_enter Tryd.func57, Tryd.ntmps57
       go_wp2_with (first
        | (go_at_call 54; (with_reducible refine (KS.out _ ST.out).mono ?_); clear f0 f1 f2 f3 f4 f5 f6; rintro e w1 ⟨rfl, t1⟩; obtain ⟨f0, f1, f2, f3, f4, f5, f6⟩ := CE.out _ t1.out)
        | (go_at_call 55; (with_reducible refine (KL.out _ t1.out).mono ?_); clear f0 f1 f2 f3 f4 f5 f6; rintro e w2 ⟨rfl, t2⟩; obtain ⟨f0, f1, f2, f3, f4, f5, f6⟩ := CE.out _ t2.out))
       have f7 := RM.out _ t2.out
       go_quiet (fail)
       go_wp2_with fail
       go_ret
       exact ⟨rfl, pw_below_drewN (LA.out _ t2.out) _⟩
 · have cx1 : decide (x0 = (i : Int)) = false := decide_eq_false cx
   have cx2 : (x0 == (i : Int)) = false := by simpa using cx
   rw [cx1, Bool.false_and]
   have CX := Lib.hid cx
   clear cx hcase
   go_enter Tryd.func57, Tryd.ntmps57
   go_wp2_with (first
    | (go_at_call 54; (with_reducible refine (KS.out _ ST.out).mono ?_); clear f0 f1 f2 f3 f4 f5 f6; rintro e w1 ⟨rfl, t1⟩; obtain ⟨f0, f1, f2, f3, f4, f5, f6⟩ := CE.out _ t1.out)
    | (go_at_call 55; (with_reducible refine (KL.out _ t1.out).mono ?_); clear f0 f1 f2 f3 f4 f5 f6; rintro e w2 ⟨rfl, t2⟩; obtain ⟨f0, f1, f2, f3, f4, f5, f6⟩ := CE.out _ t2.out))
   go_quiet (fail)
   go_wp2_with fail
   go_ret
   exact ⟨rfl, pw_below_drewN (LA.out _ t2.out) _⟩
set_option maxHeartbeats 2000000 in
set_option maxRecDepth 100000 in
theorem Idx_calls (bf bn bc bt bq br : Nat) (r : Bool) (i n tm t N : Nat) (far : List Int) (R : List S41) (A : Option Addr) (c : Nat) (w : World) (h : CB bf bn bc bt bq br r i n tm N far w) (hn1 : 1 ≤ n) (hn2 : n ≤ 1000) (hok : ∀ x ∈ R, okR t N x = true) (hr : Kd.C k41 w A R.length R) (hc : R.length ≤ c) (ht : t ≤ 60) (hN : N ≤ 60) (hex : idxC r tm far R n i < R.length) :
 Calls Tryd.prog 56 #[.slice A R.length c, .func (.func 57) #[] #[.pointer (some ⟨bf, 0, none⟩), .pointer (some ⟨bn, 0, none⟩), .pointer (some ⟨bc, 0, none⟩), .pointer (some ⟨bt, 0, none⟩), .pointer (some ⟨bq, 0, none⟩)]] w fun e w' => e = .returned (.int .i64 (idxC r tm far R n i : Nat)) ∧ Below w.heap.size w w' := by
 have hm := C_max hr
 have hat : condC r tm far n i R[idxC r tm far R n i] = true := List.findIdx_getElem (p := condC r tm far n i) (xs := R) (w := hex)
 have hno : ∀ j (hj : j < idxC r tm far R n i) (hl : j < R.length), condC r tm far n i R[j] = false := fun j hj hl => by
  have := List.not_of_lt_findIdx (p := condC r tm far n i) (xs := R) hj
  simpa using this
 generalize idxC r tm far R n i = q at hex hat hno
 have HR := Aside0.mk hr
 have HC := Aside0.mk h
 have HOK := Aside0.mk hok
 have HAT := Aside0.mk hat
 have HNO := Aside0.mk hno
 clear hr h hok hat hno
 go_enter Tryd.func56, Tryd.ntmps56
 go_wp2_with fail
 go_loopw [5, 8] (fun _ j wr => ∃ k : Nat, k ≤ q ∧ j = .int .i64 k ∧ Aside0 (Below w.heap.size w wr)) (fun _ j _ => R.length - (intOf j).toNat)
 case atStart => exact ⟨0, Nat.zero_le _, rfl, ⟨Below.refl _ w⟩⟩
 case round =>
  obtain ⟨k, hk, rfl, hbe⟩ := hrel
  have hlt : k < R.length := by omega
  obtain ⟨ad', A, cc, rfl, h0, h1, h2, h3⟩ := at_T41 (Kd.C_below HR.out hbe.out) (k : Int) (by omega) (by omega)
  have q0 : rd_T41 R (k : Int) = R[k] := by rw [rdR_D, getD_lt _ _ _ hlt]
  have hx := HOK.out R[k] (List.getElem_mem hlt)
  have hcd : ∀ v, condC r tm far n i R[k] = v → Calls Tryd.prog 57 #[.agg #[.int .i64 R[k].f0, .slice A R[k].f1.length cc], .pointer (some ⟨bf, 0, none⟩), .pointer (some ⟨bn, 0, none⟩), .pointer (some ⟨bc, 0, none⟩), .pointer (some ⟨bt, 0, none⟩), .pointer (some ⟨bq, 0, none⟩)] wr fun e w' => e = .returned (.bool v) ∧ Below w.heap.size w w' := fun v hv => by
   rw [q0] at h2 h3
   subst hv
   exact (Cond_calls bf bn bc bt bq br r i n tm t N far R[k] A cc wr (HC.out.below hbe.out) hn1 hn2 hx h3 h2 ht hN).mono fun _ _ ⟨he, hb⟩ => ⟨he, hbe.out.trans (hb.mono hbe.out.size)⟩
  rw [Int.toNat_natCast] at h0 h1
  rw [q0] at h0 h1
  by_cases hkq : k = q
  · subst hkq
    have HW := Aside0.mk (hcd true HAT.out)
    clear hcd hx q0 h2 h3
    generalize R[k] = x at h0 h1 HW
    go_wp2_with (go_at_call 57; (with_reducible refine HW.out.mono ?_); rintro e w' ⟨rfl, hb'⟩)
    go_ret
    exact ⟨rfl, hb'⟩
  · have HW := Aside0.mk (hcd false (HNO.out k (by omega) hlt))
    clear hcd hx q0 h2 h3
    generalize R[k] = x at h0 h1 HW
    go_wp2_with (go_at_call 57; (with_reducible refine HW.out.mono ?_); rintro e w' ⟨rfl, hb'⟩)
    go_roundw
    case measure => simp [intOf]; omega
    case rel => exact ⟨k + 1, by omega, rfl, ⟨hb'⟩⟩
end Go.Proofs.YtjkifeladmhkoaaDoor.E8
