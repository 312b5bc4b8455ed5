/- gram.Check in the print's form, at grammars that may be. -/
import Derived.Test.YteaiejippkikpaaDoorGramCo
set_option linter.unusedVariables false
namespace Go.Proofs.YteaiejippkikpaaDoor.B
open Go.RowKit Go.Proofs.YteaiejippkikpaaDoorW.PrintWords Go.Proofs.YteaiejippkikpaaDoorW.PrintLast Go.Proofs.YteaiejippkikpaaDoorW.PrintMore

def gram_Check.f (k : Nat) (l0_0 : List ByteArray) (l0_1 : List ByteArray) (a0_2 : Int) (l0_3 : List S35) : Option (Option Int) :=
  if l0_0.length + l0_1.length ≤ 60 ∧ l0_3.length ≤ 120 ∧ 0 ≤ a0_2 ∧ a0_2 < (l0_1.length : Int) ∧ l0_3.all (okR l0_0.length l0_1.length) = true then
    (gram_names.f k l0_0).bind fun b0 => (gram_names.f k l0_1).bind fun b1 => if (b0 && b1) = true then some none else none
  else none
theorem gram_Check.mono : ∀ a0 a1 a2 a3 k, LeO (gram_Check.f k a0 a1 a2 a3) (gram_Check.f (k + 1) a0 a1 a2 a3) := by
  intro a0 a1 a2 a3 k
  unfold gram_Check.f
  refine LeO.ite ?_ (LeO.refl _)
  refine LeO.bind (gram_names.mono _ _) (fun _ => ?_)
  refine LeO.bind (gram_names.mono _ _) (fun _ => ?_)
  exact LeO.refl _
theorem gram_Check.ok {k : Nat} {l0_0 : List ByteArray} {l0_1 : List ByteArray} {a0_2 : Int} {l0_3 : List S35} {r : Option Int} (h : gram_Check.f k l0_0 l0_1 a0_2 l0_3 = some r) : r = none ∧ okG k l0_0 l0_1 a0_2 l0_3 := by
  unfold gram_Check.f at h
  split at h
  · rename_i hc
    obtain ⟨b0, h0, h2⟩ := Option.bind_eq_some_iff.1 h
    obtain ⟨b1, h1, h3⟩ := Option.bind_eq_some_iff.1 h2
    cases b0 <;> cases b1 <;> simp at h3
    exact ⟨h3.symm, hc.1, hc.2.1, h0, h1, hc.2.2.1, hc.2.2.2.1, List.all_eq_true.1 hc.2.2.2.2⟩
  · cases h
theorem gram_Check.calls (k : Nat) (A0_0 : Option Addr) (c0_0 : Nat) (l0_0 : List ByteArray) (A0_1 : Option Addr) (c0_1 : Nat) (l0_1 : List ByteArray) (a0_2 : Int) (A0_3 : Option Addr) (c0_3 : Nat) (l0_3 : List S35) (r : Option Int) (w : World) (hr0_0 : Kd.C Kd.string w A0_0 l0_0.length l0_0) (hc0_0 : l0_0.length ≤ c0_0) (hr0_1 : Kd.C Kd.string w A0_1 l0_1.length l0_1) (hc0_1 : l0_1.length ≤ c0_1) (hr0_3 : Kd.C k35 w A0_3 l0_3.length l0_3) (hc0_3 : l0_3.length ≤ c0_3) (h : gram_Check.f k l0_0 l0_1 a0_2 l0_3 = some r) :
    Calls Tryd.prog 28 #[.agg #[.slice A0_0 l0_0.length c0_0, .slice A0_1 l0_1.length c0_1, .int .i64 a0_2, .slice A0_3 l0_3.length c0_3]] w fun e w' => e = .returned (errW r) ∧ Below w.heap.size w w' := by
  obtain ⟨rfl, ho⟩ := gram_Check.ok h
  exact Check_ok k A0_0 c0_0 l0_0 A0_1 c0_1 l0_1 a0_2 A0_3 c0_3 l0_3 w hr0_0 hc0_0 hr0_1 hc0_1 hr0_3 hc0_3 ho
end Go.Proofs.YteaiejippkikpaaDoor.B
