/- words.Quote and words.Write in the print's form. -/
import Derived.Test.YteaiejippkikpaaWrite
set_option linter.unusedVariables false
namespace Go.Proofs.Yteaiejippkikpaa.WW
open Go.RowKit Go.Proofs.YteaiejippkikpaaW.PrintWords Go.Proofs.YteaiejippkikpaaW.PrintLast Go.Proofs.YteaiejippkikpaaW.PrintMore
open Go.Proofs.Yteaiejippkikpaa.H

def words_Quote.f (a0 : ByteArray) : Option ByteArray := if 4 * a0.size + 2 ≤ 140737488355328 then some ⟨(P.quoteL a0.data.toList).toArray⟩ else none
theorem words_Quote.calls (a0 : ByteArray) (r : ByteArray) (w : World) (h : words_Quote.f a0 = some r) :
    Calls Try.prog 9 #[.string a0] w fun e w' => e = .returned (.string r) ∧ Below w.heap.size w w' := by
  unfold words_Quote.f at h
  split at h
  · rename_i hb
    obtain rfl := Option.some.inj h
    exact Quote_calls a0 w hb
  · cases h
def words_Write.f (l0 : List S32) : Option ByteArray := if P.boundL (l0.map wl) ≤ 140737488355328 then some ⟨(P.writeL (l0.map wl)).toArray⟩ else none
theorem words_Write.calls (A0 : Option Addr) (c0 : Nat) (l0 : List S32) (r : ByteArray) (w : World) (hr0 : Kd.C k32 w A0 l0.length l0) (hc0 : l0.length ≤ c0) (h : words_Write.f l0 = some r) :
    Calls Try.prog 11 #[.slice A0 l0.length c0] w fun e w' => e = .returned (.string r) ∧ Below w.heap.size w w' := by
  unfold words_Write.f at h
  split at h
  · rename_i hb
    obtain rfl := Option.some.inj h
    exact Write_calls A0 c0 l0 w hr0 hc0 hb
  · cases h
end Go.Proofs.Yteaiejippkikpaa.WW
