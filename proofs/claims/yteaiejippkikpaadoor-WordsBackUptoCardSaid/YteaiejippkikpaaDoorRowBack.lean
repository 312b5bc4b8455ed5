/-
 dovetaillaw02.WordsBack: whatever is handed in, of bulk at most 1048576, the call answers true, and each argument reads as it did.
 Conditions: those of the given statement WordsBackUptoCardSaid alone.
-/
import Derived.Test.YteaiejippkikpaaDoorOpen
import Derived.Test.YteaiejippkikpaaDoorKLaid
import Derived.Test.YteaiejippkikpaaDoorBackL
import Derived.Test.YteaiejippkikpaaDoorCards
import Derived.Test.YteaiejippkikpaaDoorTie
import Derived.LaidLaws
import Derived.LaidHandle
import Derived.Lib.LaidTab
import Derived.Lib.LaidIn
import Derived.SevenTiedAt
import Derived.WideShapes
import Derived.JoinedCond
import Derived.ChangeMaps5
import Derived.SizedLaws
import Derived.Deep.DeepHandedRow
import Derived.Deep.DeepWitnessRowRef
set_option linter.unusedVariables false
namespace Go.Proofs.YteaiejippkikpaaDoor.wordsBack
open Go.ChangeShapes Go.WideShapes Go.ChangeAt Go.RowKit Go.Proofs.YteaiejippkikpaaDoorW.PrintWords Go.Proofs.YteaiejippkikpaaDoor.H Go.Proofs.YteaiejippkikpaaDoor.B Go.Proofs.YteaiejippkikpaaDoor.Bw

theorem own : ownKnob Tryd.prog.godebug = none := by kernel_rfl
theorem laidOut : laidOutB Tryd.prog = true := by kernel_rfl
theorem bytes16 : Tryd.prog.bytesOf 9 = 16 := by kernel_rfl
theorem bytes1 : Tryd.prog.bytesOf 4 = 1 := by kernel_rfl
theorem cells_s : Tryd.prog.cellsOf 9 = Kd.string.sz := by kernel_rfl
theorem cells_b : Tryd.prog.cellsOf 4 = Kd.bool.sz := by kernel_rfl

set_option maxRecDepth 100000 in
theorem contract (H : Type) (enc : TypeId × Value → H) (W : World) (base : Nat) (args : Array Value) (ds gs : List (DataW H)) (before : List MemPlace)
    (hval : ∀ (j : Nat) t v, Tryd.f11.params[j]? = some t → args[j]? = some v → Value.okWide Tryd.prog W .any base t v)
    (ad : Int → Addr) (hs : SentsK ad W) (hg : HandleP W)
    (hW : DataW.Whole enc Tryd.prog Tryd.f11.params.toList Rows.wordsBackSpec.vars false W args.toList ds gs before) (hk : Rows.uptoSmall H (ds ++ gs) = true) :
    Calls Tryd.prog 11 args W fun e W' => ∃ v, e = .returned v ∧ Rows.wordsBackSpec.post enc Tryd.prog Tryd.f11 false true false false W args v W' := by
  have hW' := hW
  obtain ⟨p, q, hA0, hV, rfl, hfz, hnd⟩ := hW
  have hA : DataW.TrodAll enc Tryd.prog W 0 (fun _ => true) true Tryd.f11.params.toList args.toList ds p := hA0
  rw [Tryd.params11] at hA hval
  obtain ⟨v0, vs0, d0, ds0, p0, q0, hargs, rfl, rfl, h0, r0⟩ := trodAll_cons hA
  obtain ⟨v1, vs1, d1, ds1, p1, q1, rfl, rfl, rfl, h1, r1⟩ := trodAll_cons r0
  obtain ⟨v2, vs2, d2, ds2, p2, q2, rfl, rfl, rfl, h2, r2⟩ := trodAll_cons r1
  obtain ⟨rfl, rfl, rfl⟩ := trodAll_nil r2
  obtain rfl : args = #[v0, v1, v2] := by cases args; simp_all
  obtain ⟨rfl, rfl⟩ := trodVars_none hV
  obtain ⟨a1, n1, c1, rfl⟩ := okWide_slice Tryd.underlying22 (hval 0 22 v0 rfl rfl)
  obtain ⟨a2, n2, c2, rfl⟩ := okWide_slice Tryd.underlying84 (hval 1 84 v1 rfl rfl)
  obtain ⟨s0, rfl⟩ := okWide_string Tryd.underlying9 (hval 2 9 v2 rfl rfl)
  obtain ⟨l1, ⟨A1, C1, e1, hc1, k1⟩, _, _, m1⟩ := opn_trod (opn_slice Tryd.underlying22 cells_s bytes16 (opn_string Tryd.underlying9)) h0
  obtain ⟨l2, ⟨A2, C2, e2, hc2, k2⟩, _, _, m2⟩ := opn_trod (opn_slice Tryd.underlying84 cells_b bytes1 (opn_bool Tryd.underlying4)) h1
  obtain ⟨s, e0, _, _, m0⟩ := opn_trod (opn_string Tryd.underlying9) h2
  have e0' : (Value.string s0).cells.toList = [Value.string s] := e0
  obtain rfl : s0 = s := by simpa [Value.cells] using e0'
  obtain ⟨rfl, rfl, rfl⟩ : a1 = A1 ∧ n1 = l1.length ∧ c1 = C1 := by simpa [Value.cells] using e1
  obtain ⟨rfl, rfl, rfl⟩ : a2 = A2 ∧ n2 = l2.length ∧ c2 = C2 := by simpa [Value.cells] using e2
  have hb : Rows.uptoBulkAll ([d0, d1, d2] ++ []) ≤ 1048576 := of_decide_eq_true hk
  simp only [List.append_nil, Rows.uptoBulkAll] at hb
  have hsum : (l1.map fun s : ByteArray => s.size + 1).sum ≤ 1048576 := by omega
  have hlen := len_sum l1
  have hmem := mem_sum l1
  have hbound := mkB_bound l1 l2 l1.length (Nat.le_refl _)
  rw [List.take_length] at hbound
  have hf := back_ev l1 l2 s0 (by omega) (fun x hx => by have := hmem x hx; omega) (by omega)
  refine (dovetaillaw02_WordsBack.calls ad 10000000 a1 c1 l1 a2 c2 l2 s0 true W hs hg k1 hc1 k2 hc2 rfl hf).mono fun e W' ⟨he, bel⟩ => ?_
  subst he
  simp only [List.append_nil] at hW'
  exact ⟨_, rfl, _, _, _, [], _, [], hW', trodAll_mk1 (shut_bool Tryd.underlying4 _),
    (trodAll_cons_mk (Below.trod laidOut (by kernel_rfl) (of_decide_eq_true (by kernel_rfl)) h0 bel (trod_below h0))
      (trodAll_cons_mk (Below.trod laidOut (by kernel_rfl) (of_decide_eq_true (by kernel_rfl)) h1 bel (trod_below h1))
      (trodAll_cons_mk (Below.trod laidOut (by kernel_rfl) (of_decide_eq_true (by kernel_rfl)) h2 bel (trod_below h2)) trodAll_mk0))), rfl, bel.frame _, fun h => by cases h⟩

theorem laid_met (os : Os) (args : Array Value) : laidMetH Tryd.prog Rows.wordsBackUptoRow.laid ((laidWorld16 os).forCall (fun _ _ => 0) ⟨#[], args, []⟩).memory := laid_met16 os args
theorem sents {W : World} (h : laidMetH Tryd.prog Rows.wordsBackUptoRow.laid W) : (∃ ad, SentsK ad W) ∧ HandleP W := sents16 h
theorem reads (os : Os) {H : Type} (enc : TypeId × Value → H) : ∃ places, DataW.whole enc Tryd.prog ((laidWorld16 os).forCall (fun _ _ => 0) ⟨#[], #[Value.slice none 0 0, Value.slice none 0 0, Value.string ⟨#[]⟩], []⟩).memory Tryd.f11.params.toList Rows.wordsBackSpec.vars false #[Value.slice none 0 0, Value.slice none 0 0, Value.string ⟨#[]⟩].toList 8 = some ([.nil, .nil, .lit (.string [])], [], places) :=
  ⟨[], by kernel_rfl⟩

set_option maxRecDepth 100000 in
theorem lifted (os : Os) (started : os.Started) (H : Type) (enc : TypeId × Value → H) (F : Stop.Interp) :
    ReturnsInHanded {} Tryd.checked os 11 .any ((Rows.OpenSpec.upto Rows.wordsBackSpec).preRow enc Tryd.prog Tryd.f11 Rows.wordsBackUptoRow.domain false Rows.wordsBackUptoRow.laid) (((Rows.OpenSpec.upto Rows.wordsBackSpec).at F).post enc Tryd.prog Tryd.f11 false true false false) := by
  obtain ⟨places, hx⟩ := reads os enc
  refine returnsInHanded_of_row (C := Tryd.checked) (s := Rows.OpenSpec.upto Rows.wordsBackSpec) own started (by kernel_rfl) Tryd.func11
    (witness_row_atRef (enc := enc) (C := Tryd.checked) false (laidWorld16 os) #[Value.slice none 0 0, Value.slice none 0 0, Value.string ⟨#[]⟩] rfl (by kernel_rfl) (by kernel_rfl) (by kernel_rfl)
      (OpenSpec.preRow_of_cond 8 hx (by kernel_rfl) (fun k hk => by cases hk; kernel_rfl) (by kernel_rfl) (laid_met os _))) ?_
  intro W base args ds gs before hval hW _ hcond _ hL _ _
  obtain ⟨⟨ad, hs⟩, hg⟩ := sents hL
  exact contract H enc W base args ds gs before hval ad hs hg hW (hcond _ rfl)

theorem said : Rows.WordsBackUptoSaid :=
  OpenClaim.holds_of_cond 11 Tryd.f11 rfl rfl rfl rfl rfl rfl rfl ⟨rfl, rfl, rfl, rfl, rfl⟩ rfl rfl rfl rfl rfl (by kernel_rfl) Tryd.func11 (by kernel_rfl)
    (of_decide_eq_true (by kernel_rfl)) (by unfold Func.isWrapper; first | (rw [if_pos (by decide +kernel)]; kernel_rfl) | (rw [if_neg (by decide +kernel)]; exact ⟨rfl, rfl⟩))
    (fun os started H enc _ F => by rw [OpenClaim.pre_eq_preRow]; exact lifted os started H enc F)

theorem plain (f : FuncId) (fn : Func) (hf : Tryd.pinned.checked.prog.funcNamed "dovetail/dovetaillaw02.WordsBack" = some f) (hfn : Tryd.pinned.checked.prog.funcs[f]? = some fn) :
    true = Tryd.pinned.checked.prog.looks [] ∧ ∀ (j : Nat) t, fn.params[j]? = some t → Tryd.pinned.checked.prog.wantsStandIn t = false := by
  obtain rfl : f = 11 := Option.some.inj ((show Tryd.prog.funcNamed "dovetail/dovetaillaw02.WordsBack" = some 11 by kernel_rfl).symm.trans hf) |>.symm
  obtain rfl : fn = Tryd.f11 := (Option.some.inj (Tryd.func11.symm.trans hfn)).symm
  refine ⟨by kernel_rfl, fun j t ht => ?_⟩
  rw [Tryd.params11] at ht
  have hm : t = 22 ∨ t = 84 ∨ t = 9 := by simpa using Array.mem_of_getElem? ht
  rcases hm with rfl | rfl | rfl
  · exact (show Tryd.prog.wantsStandIn 22 = false by kernel_rfl)
  · exact (show Tryd.prog.wantsStandIn 84 = false by kernel_rfl)
  · exact (show Tryd.prog.wantsStandIn 9 = false by kernel_rfl)

theorem proved : Rows.WordsBackUptoCardSaid :=
  Claim7.holds_tied_plain_at .later [] _ _ _ _ said (fun _ h => by cases h) (by kernel_rfl) (fun _ h => by cases h) wordsBackUpto_row_tie rfl ⟨rfl, rfl⟩ (by kernel_rfl) rfl plain (by kernel_rfl)
#print axioms proved
end Go.Proofs.YteaiejippkikpaaDoor.wordsBack
