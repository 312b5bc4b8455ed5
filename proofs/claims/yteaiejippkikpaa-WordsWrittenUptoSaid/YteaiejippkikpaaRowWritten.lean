/-
 dovetaillaw02.WordsWritten: whatever is handed in, of bulk at most 1048576, the call answers true, and each argument reads as it did.
 Conditions: those of the given statement WordsWrittenUptoSaid alone.
-/
import Derived.Test.YteaiejippkikpaaOpen
import Derived.Test.YteaiejippkikpaaWwPure
import Derived.JoinedCond
set_option linter.unusedVariables false
namespace Go.Proofs.Yteaiejippkikpaa.wordsWritten
open Go.ChangeShapes Go.WideShapes Go.ChangeAt Go.RowKit Go.Proofs.YteaiejippkikpaaW.PrintWords Go.Proofs.Yteaiejippkikpaa.H Go.Proofs.Yteaiejippkikpaa.WW

theorem own : ownKnob Try.prog.godebug = none := by kernel_rfl
theorem laidOut : laidOutB Try.prog = true := by kernel_rfl

theorem bytes16 : Try.prog.bytesOf 9 = 16 := by kernel_rfl
theorem bytes1 : Try.prog.bytesOf 4 = 1 := by kernel_rfl
theorem cells_s : Try.prog.cellsOf 9 = Kd.string.sz := by kernel_rfl
theorem cells_b : Try.prog.cellsOf 4 = Kd.bool.sz := by kernel_rfl

theorem sum_get (l : List ByteArray) (l2 : List Bool) : ∀ n, n ≤ l.length → P.boundL ((mkR l l2 n).map wr) ≤ 4 * ((l.take n).map fun s => s.size + 1).sum := by
  intro n
  induction n with
  | zero => intro _; simp [mkR, P.boundL]
  | succ n ih =>
    intro h
    have h1 := ih (by omega)
    have hR : mkR l l2 (n + 1) = mkR l l2 n ++ [⟨(tq l l2 n).1, (tq l l2 n).2, wrap64 (7 * (n : Int))⟩] := by simp [mkR, List.range_succ]
    rw [hR, List.map_append, List.map_singleton, P.boundL_snoc, List.take_succ_eq_append_getElem (by omega), List.map_append, List.sum_append]
    have : (tq l l2 n).1 = l[n] := by simp [tq, rdOf, List.getD_eq_getElem?_getD, List.getElem?_eq_getElem (show n < l.length by omega)]
    simp only [wr, this, List.map_singleton, List.sum_cons, List.sum_nil]
    have hz : l[n].data.toList.length = l[n].size := by simp
    omega

theorem len_sum (l : List ByteArray) : l.length ≤ (l.map fun s : ByteArray => s.size + 1).sum := by
  induction l with
  | nil => simp
  | cons x r ih => simp only [List.length_cons, List.map_cons, List.sum_cons]; omega

theorem contract (H : Type) (enc : TypeId × Value → H) (W : World) (base : Nat) (args : Array Value) (ds gs : List (DataW H)) (before : List MemPlace)
    (hval : ∀ (j : Nat) t v, Try.f4.params[j]? = some t → args[j]? = some v → Value.okWide Try.prog W .any base t v)
    (hW : DataW.Whole enc Try.prog Try.f4.params.toList Rows.wordsWrittenSpec.vars false W args.toList ds gs before) (hk : Rows.uptoSmall H (ds ++ gs) = true) :
    Calls Try.prog 4 args W fun e W' => ∃ v, e = .returned v ∧ Rows.wordsWrittenSpec.post enc Try.prog Try.f4 false true false false W args v W' := by
  have hW' := hW
  obtain ⟨p, q, hA0, hV, rfl, hfz, hnd⟩ := hW
  have hA : DataW.TrodAll enc Try.prog W 0 (fun _ => true) true Try.f4.params.toList args.toList ds p := hA0
  have hval0 := hval
  rw [Try.params4] at hA hval
  obtain ⟨v0, vs0, d0, ds0, p0, q0, hargs, rfl, rfl, h0, r0⟩ := trodAll_cons hA
  obtain ⟨v1, vs1, d1, ds1, p1, q1, rfl, rfl, rfl, h1, r1⟩ := trodAll_cons r0
  obtain ⟨v2, vs2, d2, ds2, p2, q2, rfl, rfl, rfl, h2, r2⟩ := trodAll_cons r1
  obtain ⟨rfl, rfl, rfl⟩ := trodAll_nil r2
  obtain rfl : args = #[v0, v1, v2] := by cases args; simp_all
  obtain ⟨rfl, rfl⟩ := trodVars_none hV
  obtain ⟨s0, rfl⟩ := okWide_string Try.underlying9 (hval 0 9 v0 rfl rfl)
  obtain ⟨a1, n1, c1, rfl⟩ := okWide_slice Try.underlying25 (hval 1 25 v1 rfl rfl)
  obtain ⟨a2, n2, c2, rfl⟩ := okWide_slice Try.underlying28 (hval 2 28 v2 rfl rfl)
  obtain ⟨s, e0, _, _, m0⟩ := opn_trod (opn_string Try.underlying9) h0
  obtain ⟨l1, ⟨A1, C1, e1, hc1, k1⟩, _, _, m1⟩ := opn_trod (opn_slice Try.underlying25 cells_s bytes16 (opn_string Try.underlying9)) h1
  obtain ⟨l2, ⟨A2, C2, e2, hc2, k2⟩, _, _, m2⟩ := opn_trod (opn_slice Try.underlying28 cells_b bytes1 (opn_bool Try.underlying4)) h2
  have e0' : (Value.string s0).cells.toList = [Value.string s] := e0
  obtain rfl : s0 = s := by simpa [Value.cells] using e0'
  obtain ⟨rfl, rfl, rfl⟩ : a1 = A1 ∧ n1 = l1.length ∧ c1 = C1 := by simpa [Value.cells] using e1
  obtain ⟨rfl, rfl, rfl⟩ : a2 = A2 ∧ n2 = l2.length ∧ c2 = C2 := by simpa [Value.cells] using e2
  have hb : Rows.uptoBulkAll ([d0, d1, d2] ++ []) ≤ 1048576 := of_decide_eq_true hk
  simp only [List.append_nil, Rows.uptoBulkAll] at hb
  have hs : s0.size ≤ 1048576 := by omega
  have hlen := len_sum l1
  have hbound := sum_get l1 l2 l1.length (Nat.le_refl _)
  rw [List.take_length] at hbound
  have hf := law_f s0 l1 l2 hs (by omega) (by omega)
  refine (dovetaillaw02_WordsWritten.calls 200000000 s0 a1 c1 l1 a2 c2 l2 true W k1 hc1 k2 hc2 hf).mono fun e W' ⟨he, bel⟩ => ?_
  subst he
  simp only [List.append_nil] at hW'
  exact ⟨_, rfl, _, _, _, [], _, [], hW', trodAll_mk1 (shut_bool Try.underlying4 _),
    (trodAll_cons_mk (Below.trod laidOut (by kernel_rfl) (of_decide_eq_true (by kernel_rfl)) h0 bel (trod_below h0))
      (trodAll_cons_mk (Below.trod laidOut (by kernel_rfl) (of_decide_eq_true (by kernel_rfl)) h1 bel (trod_below h1))
      (trodAll_cons_mk (Below.trod laidOut (by kernel_rfl) (of_decide_eq_true (by kernel_rfl)) h2 bel (trod_below h2)) trodAll_mk0))), rfl, bel.frame _, fun h => by cases h⟩

set_option maxRecDepth 100000 in
theorem lifted (os : Os) (started : os.Started) (H : Type) (enc : TypeId × Value → H) (F : Stop.Interp) :
    ReturnsInHanded {} Try.checked os 4 .any ((Rows.OpenSpec.upto Rows.wordsWrittenSpec).pre6 enc Try.prog Try.f4 Rows.wordsWrittenUptoRow.domain false) (((Rows.OpenSpec.upto Rows.wordsWrittenSpec).at F).post enc Try.prog Try.f4 false true false false) := by
  refine returnsInHanded_of_cond (C := Try.checked) (s := Rows.OpenSpec.upto Rows.wordsWrittenSpec) (k := Rows.uptoSmall) rfl own started (by kernel_rfl) Try.func4
    (OpenSpec.witness (enc := enc) (C := Try.checked) (s := Rows.OpenSpec.upto Rows.wordsWrittenSpec) (k := Rows.uptoSmall) rfl false ⟨#[], #[.string ⟨#[]⟩, .slice none 0 0, .slice none 0 0], []⟩ 8 (by kernel_rfl) (by kernel_rfl) (by kernel_rfl)
      (x := ([.lit (.string []), .nil, .nil], [], [])) (by kernel_rfl) rfl (by kernel_rfl)) ?_
  intro W base args ds gs before hval hW _ hk _
  exact contract H enc W base args ds gs before hval hW hk

theorem over : Rows.wordsWrittenUptoRow.holds Try.pinned (Rows.OpenSpec.upto Rows.wordsWrittenSpec) :=
  OpenClaim.holds_of_cond 4 Try.f4 rfl rfl rfl rfl rfl rfl rfl ⟨rfl, rfl, rfl, rfl, rfl⟩ rfl rfl rfl rfl rfl (by kernel_rfl) Try.func4 (by kernel_rfl)
    (of_decide_eq_true (by kernel_rfl)) (by unfold Func.isWrapper; first | (rw [if_pos (by decide +kernel)]; kernel_rfl) | (rw [if_neg (by decide +kernel)]; exact ⟨rfl, rfl⟩))
    (fun os started H enc _ F => lifted os started H enc F)
theorem proved : Rows.WordsWrittenUptoSaid := over
#print axioms proved
end Go.Proofs.Yteaiejippkikpaa.wordsWritten
