/-
 dovetaillaw03.GramAbove: whatever the grammar, the call answers true, and the argument reads as it did.
 Conditions: those of the given statement GramAboveCardSaid alone.
-/
import Derived.Test.YteaiejippkikpaaDoorOpen
import Derived.Test.YteaiejippkikpaaDoorGramAx
import Derived.Test.YteaiejippkikpaaDoorLaid
import Derived.Test.YteaiejippkikpaaDoorCards
import Derived.Test.YteaiejippkikpaaDoorTie
import Derived.LaidLaws
import Derived.LaidHandle
import Derived.Lib.LaidTab
import Derived.Lib.LaidIn
import Derived.SevenTiedAt
import Derived.WideShapes
import Derived.JoinedCond
import Derived.Deep.DeepHandedRow
import Derived.Deep.DeepWitnessRowRef
set_option linter.unusedVariables false
namespace Go.Proofs.YteaiejippkikpaaDoor.gramAbove
open Go.ChangeShapes Go.WideShapes Go.ChangeAt Go.RowKit Go.Proofs.YteaiejippkikpaaDoorW.PrintWords Go.Proofs.YteaiejippkikpaaDoor.H Go.Proofs.YteaiejippkikpaaDoor.B

theorem own : ownKnob Tryd.prog.godebug = none := by kernel_rfl
theorem laidOut : laidOutB Tryd.prog = true := by kernel_rfl
theorem bytes_s : Tryd.prog.bytesOf 9 = 16 := by kernel_rfl
theorem bytes_i : Tryd.prog.bytesOf 3 = 8 := by kernel_rfl
theorem bytes_r : Tryd.prog.bytesOf 35 = 32 := by kernel_rfl
theorem cells_s : Tryd.prog.cellsOf 9 = Kd.string.sz := by kernel_rfl
theorem cells_i : Tryd.prog.cellsOf 3 = (Kd.int .i64).sz := by kernel_rfl
theorem cells_r : Tryd.prog.cellsOf 35 = k35.sz := by kernel_rfl
theorem cells_g : Tryd.prog.cellsOf 25 = k25.sz := by kernel_rfl
theorem cells_ss : Tryd.prog.cellsOf 22 = (Kd.slice 9 Kd.string).sz := by kernel_rfl
theorem cells_is : Tryd.prog.cellsOf 33 = (Kd.slice 3 (Kd.int .i64)).sz := by kernel_rfl
theorem cells_rs : Tryd.prog.cellsOf 23 = (Kd.slice 35 k35).sz := by kernel_rfl

abbrev gS (l : List ByteArray) : Prop := l.length ≤ maxLen ∧ ∀ a ∈ l, a.size ≤ maxLen
abbrev gI (l : List Int) : Prop := l.length ≤ maxLen ∧ ∀ a ∈ l, (Lit.int .i64 a).wf = true
set_option maxRecDepth 20000 in
theorem opn_rule : ∃ z m, Opn Tryd.prog 35 k35 (fun x => (Lit.int .i64 x.f0).wf = true ∧ gI x.f1) z m :=
  ⟨_, _, opn_struct (d := Kd.pair (Kd.int .i64) (Kd.slice 3 (Kd.int .i64))) Tryd.underlying35 (by kernel_rfl) (row_cons rfl cells_i rfl (opn_int Tryd.underlying3) (row_one rfl cells_is (opn_slice Tryd.underlying33 cells_i bytes_i (opn_int Tryd.underlying3)))) (fun x : S35 => (x.f0, x.f1)) (fun p => ⟨p.1, p.2⟩) (fun _ => rfl)⟩
set_option maxRecDepth 20000 in
theorem opn_grammar : ∃ z m, Opn Tryd.prog 25 k25 (fun x => gS x.f0 ∧ gS x.f1 ∧ (Lit.int .i64 x.f2).wf = true ∧ x.f3.length ≤ maxLen ∧ ∀ a ∈ x.f3, ((Lit.int .i64 a.f0).wf = true ∧ gI a.f1)) z m := by
  obtain ⟨z, m, h⟩ := opn_rule
  exact ⟨_, _, opn_struct (d := Kd.pair (Kd.slice 9 Kd.string) (Kd.pair (Kd.slice 9 Kd.string) (Kd.pair (Kd.int .i64) (Kd.slice 35 k35)))) Tryd.underlying25 (by kernel_rfl) (row_cons rfl cells_ss rfl (opn_slice Tryd.underlying22 cells_s bytes_s (opn_string Tryd.underlying9))
    (row_cons rfl cells_ss rfl (opn_slice Tryd.underlying22 cells_s bytes_s (opn_string Tryd.underlying9))
    (row_cons rfl cells_i rfl (opn_int Tryd.underlying3)
    (row_one rfl cells_rs (opn_slice Tryd.underlying23 cells_r bytes_r h))))) (fun x : S25 => (x.f0, x.f1, x.f2, x.f3)) (fun p => ⟨p.1, p.2.1, p.2.2.1, p.2.2.2⟩) (fun _ => rfl)⟩

set_option maxRecDepth 100000 in
theorem open_g {W : World} {base : Nat} {v : Value} {H : Type} {enc : TypeId × Value → H} {spare : Nat → Bool} {held : Bool} {x : DataW H} {ps : List MemPlace} (hv : Value.okWide Tryd.prog W .any base 25 v) (h : DataW.Trod enc Tryd.prog W 0 spare held 25 v x ps) :
    ∃ (g : S25) (A0 : Option Addr) (c0 : Nat) (A1 : Option Addr) (c1 : Nat) (A3 : Option Addr) (c3 : Nat), v = .agg #[.slice A0 g.f0.length c0, .slice A1 g.f1.length c1, .int .i64 g.f2, .slice A3 g.f3.length c3] ∧ g.f0.length ≤ c0 ∧ Kd.string.C W A0 g.f0.length g.f0 ∧ g.f1.length ≤ c1 ∧ Kd.string.C W A1 g.f1.length g.f1 ∧ g.f3.length ≤ c3 ∧ k35.C W A3 g.f3.length g.f3 ∧
      g.f0.length ≤ maxLen ∧ g.f1.length ≤ maxLen ∧ g.f3.length ≤ maxLen ∧ ∀ a ∈ g.f3, a.f1.length ≤ maxLen := by
  obtain ⟨z, m, ho⟩ := opn_grammar
  obtain ⟨g, hK, hg, _, _⟩ := opn_trod ho h
  obtain ⟨cs, rfl, _⟩ := okWide_struct Tryd.underlying25 hv
  obtain ⟨A0, c0, A1, c1, A3, c3, hcs, l0, k0, l1, k1, l3, k3⟩ := k25_open hK
  have hcs' : cs.toList = [.slice A0 g.f0.length c0, .slice A1 g.f1.length c1, .int .i64 g.f2, .slice A3 g.f3.length c3] := hcs
  obtain rfl : cs = #[.slice A0 g.f0.length c0, .slice A1 g.f1.length c1, .int .i64 g.f2, .slice A3 g.f3.length c3] := by cases cs; simp_all
  exact ⟨g, A0, c0, A1, c1, A3, c3, rfl, l0, k0, l1, k1, l3, k3, hg.1.1, hg.2.1.1, hg.2.2.2.1, fun a ha => (hg.2.2.2.2 a ha).2.1⟩

def names3 : List (String × List UInt8 × Nat) := [("dovetail/api.ErrArg", [100, 111, 118, 101, 116, 97, 105, 108, 58, 32, 97, 114, 103, 117, 109, 101, 110, 116], 2), ("dovetail/api.ErrBounds", [100, 111, 118, 101, 116, 97, 105, 108, 58, 32, 98, 111, 117, 110, 100, 115], 0), ("dovetail/api.ErrName", [100, 111, 118, 101, 116, 97, 105, 108, 58, 32, 110, 97, 109, 101], 1)]
theorem sents {W : World} (h : laidMetH Tryd.prog Rows.gramAboveRow.laid W) : ∃ ad, Sents ad W := by
  have h' : laidMet Tryd.prog (sentData "*errors.errorString" names3) W := h
  obtain ⟨az, hl, hx, _⟩ := sents_of_laid Tryd.underlying44 es_row Tryd.underlying185 Tryd.underlying205 rfl rfl Tryd.underlying9 (by kernel_rfl) (by kernel_rfl) h' (by
    intro x hx
    simp only [names3, List.mem_cons, List.not_mem_nil, or_false] at hx
    rcases hx with rfl | rfl | rfl <;> exact ⟨by kernel_rfl, by kernel_rfl⟩)
  match az, hl with
  | [a0, a1, a2], _ =>
    exact ⟨fun k => if k = 1 then a0 else if k = 3 then a1 else a2, (hx 1 _ a1 rfl rfl).1, (hx 2 _ a2 rfl rfl).1, (hx 0 _ a0 rfl rfl).1⟩

set_option maxRecDepth 100000 in
theorem contract (H : Type) (enc : TypeId × Value → H) (W : World) (base : Nat) (args : Array Value) (ds gs : List (DataW H)) (before : List MemPlace)
    (hval : ∀ (j : Nat) t v, Tryd.f4.params[j]? = some t → args[j]? = some v → Value.okWide Tryd.prog W .any base t v)
    (ad : Int → Addr) (hs : Sents ad W)
    (hW : DataW.Whole enc Tryd.prog Tryd.f4.params.toList Rows.gramAboveSpec.vars false W args.toList ds gs before) :
    Calls Tryd.prog 4 args W fun e W' => ∃ v, e = .returned v ∧ Rows.gramAboveSpec.post enc Tryd.prog Tryd.f4 false true false false W args v W' := by
  have hW' := hW
  obtain ⟨p, q, hA0, hV, rfl, hfz, hnd⟩ := hW
  have hA : DataW.TrodAll enc Tryd.prog W 0 (fun _ => true) true Tryd.f4.params.toList args.toList ds p := hA0
  rw [Tryd.params4] at hA hval
  obtain ⟨v0, vs0, d0, ds0, p0, q0, hargs, rfl, rfl, h0, r0⟩ := trodAll_cons hA
  obtain ⟨rfl, rfl, rfl⟩ := trodAll_nil r0
  obtain rfl : args = #[v0] := by cases args; simp_all
  obtain ⟨rfl, rfl⟩ := trodVars_none hV
  obtain ⟨g, A0, c0, A1, c1, A3, c3, rfl, l0, k0, l1, k1, l3, k3, m0, m1, m3, mx⟩ := open_g (hval 0 25 v0 rfl rfl) h0
  refine (GramAbove_calls ad A0 c0 g.f0 A1 c1 g.f1 g.f2 A3 c3 g.f3 W hs k0 l0 k1 l1 k3 l3).mono fun e W' ⟨he, bel⟩ => ?_
  subst he
  simp only [List.append_nil] at hW'
  exact ⟨_, rfl, _, _, _, [], _, [], hW', trodAll_mk1 (shut_bool Tryd.underlying4 _),
    (trodAll_cons_mk (Below.trod laidOut (by kernel_rfl) (of_decide_eq_true (by kernel_rfl)) h0 bel (trod_below h0)) trodAll_mk0), rfl, bel.frame _, fun h => by cases h⟩

/-- A WORLD FOR THE WITNESS: the settled one, the three sentinels laid. -/
noncomputable def low : Nat := (World.holding Tryd.prog default ⟨#[], #[], []⟩).heap.size
noncomputable def laidWorld (os : Os) : World :=
  let w0 := World.holding Tryd.prog os ⟨#[.cells #[.string ⟨#[100, 111, 118, 101, 116, 97, 105, 108, 58, 32, 98, 111, 117, 110, 100, 115]⟩] 205, .cells #[.string ⟨#[100, 111, 118, 101, 116, 97, 105, 108, 58, 32, 110, 97, 109, 101]⟩] 205, .cells #[.string ⟨#[100, 111, 118, 101, 116, 97, 105, 108, 58, 32, 97, 114, 103, 117, 109, 101, 110, 116]⟩] 205], #[], []⟩
  let put (h : Array Obj) (g : Nat) (cs : Array Value) : Array Obj := h.modify g fun
    | .cells _ t frozen => .cells cs t frozen
    | o => o
  { w0 with heap := put (put (put w0.heap 0 #[.iface 185 (.pointer (some ⟨low, 0, none⟩))]) 1 #[.iface 185 (.pointer (some ⟨low + 1, 0, none⟩))]) 2 #[.iface 185 (.pointer (some ⟨low + 2, 0, none⟩))] }
theorem laid_met (os : Os) (args : Array Value) : laidMetH Tryd.prog Rows.gramAboveRow.laid ((laidWorld os).forCall (fun _ _ => 0) ⟨#[], args, []⟩).memory :=
  laidMet_of_run' 8 (by kernel_rfl) (by kernel_rfl)
theorem reads (os : Os) {H : Type} (enc : TypeId × Value → H) : ∃ places, DataW.whole enc Tryd.prog ((laidWorld os).forCall (fun _ _ => 0) ⟨#[], #[.agg #[.slice none 0 0, .slice none 0 0, .int .i64 0, .slice none 0 0]], []⟩).memory Tryd.f4.params.toList Rows.gramAboveSpec.vars false #[Value.agg #[.slice none 0 0, .slice none 0 0, .int .i64 0, .slice none 0 0]].toList 8 = some ([.agg [.nil, .nil, .lit (.int .i64 0), .nil]], [], places) :=
  ⟨[], by kernel_rfl⟩

set_option maxRecDepth 100000 in
theorem lifted (os : Os) (started : os.Started) (H : Type) (enc : TypeId × Value → H) (F : Stop.Interp) :
    ReturnsInHanded {} Tryd.checked os 4 .any ((OpenSpec.ofChange Rows.gramAboveSpec).preRow enc Tryd.prog Tryd.f4 Rows.gramAboveRow.domain false Rows.gramAboveRow.laid) (((OpenSpec.ofChange Rows.gramAboveSpec).at F).post enc Tryd.prog Tryd.f4 false true false false) := by
  obtain ⟨places, hx⟩ := reads os enc
  refine returnsInHanded_of_row (C := Tryd.checked) (s := OpenSpec.ofChange Rows.gramAboveSpec) own started (by kernel_rfl) Tryd.func4
    (witness_row_atRef (enc := enc) (C := Tryd.checked) false (laidWorld os) #[.agg #[.slice none 0 0, .slice none 0 0, .int .i64 0, .slice none 0 0]] rfl (by kernel_rfl) (by kernel_rfl) (by kernel_rfl)
      (OpenSpec.preRow_of_cond 8 hx (by kernel_rfl) (fun k hk => by cases hk) (by kernel_rfl) (laid_met os _))) ?_
  intro W base args ds gs before hval hW _ _ _ hL _ _
  obtain ⟨ad, hs⟩ := sents hL
  exact contract H enc W base args ds gs before hval ad hs hW

theorem said : Rows.GramAboveSaid :=
  OpenClaim.holds_of_cond 4 Tryd.f4 rfl rfl rfl rfl rfl rfl rfl ⟨rfl, rfl, rfl, rfl, rfl⟩ rfl rfl rfl rfl rfl (by kernel_rfl) Tryd.func4 (by kernel_rfl)
    (of_decide_eq_true (by kernel_rfl)) (by unfold Func.isWrapper; first | (rw [if_pos (by decide +kernel)]; kernel_rfl) | (rw [if_neg (by decide +kernel)]; exact ⟨rfl, rfl⟩))
    (fun os started H enc _ F => by rw [OpenClaim.pre_eq_preRow]; exact lifted os started H enc F)

theorem plain (f : FuncId) (fn : Func) (hf : Tryd.pinned.checked.prog.funcNamed "dovetail/dovetaillaw03.GramAbove" = some f) (hfn : Tryd.pinned.checked.prog.funcs[f]? = some fn) :
    true = Tryd.pinned.checked.prog.looks [] ∧ ∀ (j : Nat) t, fn.params[j]? = some t → Tryd.pinned.checked.prog.wantsStandIn t = false := by
  obtain rfl : f = 4 := Option.some.inj ((show Tryd.prog.funcNamed "dovetail/dovetaillaw03.GramAbove" = some 4 by kernel_rfl).symm.trans hf) |>.symm
  obtain rfl : fn = Tryd.f4 := (Option.some.inj (Tryd.func4.symm.trans hfn)).symm
  refine ⟨by kernel_rfl, fun j t ht => ?_⟩
  rw [Tryd.params4] at ht
  obtain rfl : t = 25 := by simpa using Array.mem_of_getElem? ht
  exact (show Tryd.prog.wantsStandIn 25 = false by kernel_rfl)

theorem proved : Rows.GramAboveCardSaid :=
  Claim7.holds_tied_plain_at .later [] _ _ _ _ said (fun _ h => by cases h) (by kernel_rfl) (fun _ h => by cases h) gramAbove_row_tie rfl ⟨rfl, rfl⟩ (by kernel_rfl) rfl plain (by kernel_rfl)
#print axioms proved
end Go.Proofs.YteaiejippkikpaaDoor.gramAbove
