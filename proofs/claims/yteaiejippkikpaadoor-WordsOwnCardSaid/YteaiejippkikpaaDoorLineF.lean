/- words.Line and known, in the print's form (with a premise: the sentinels lie). -/
import Derived.Test.YteaiejippkikpaaDoorLineK
set_option linter.unusedVariables false
namespace Go.Proofs.YteaiejippkikpaaDoor.Ow
open Go.RowKit Go.Proofs.YteaiejippkikpaaDoorW.PrintWords Go.Proofs.YteaiejippkikpaaDoorW.PrintLast Go.Proofs.YteaiejippkikpaaDoorW.PrintMore Go.Proofs.YteaiejippkikpaaDoor.H
open Go.Proofs.YteaiejippkikpaaDoor.Lw (S82 k82)
open Go.Proofs.YteaiejippkikpaaDoor.B (SentsK SentsK.below HandleP HandleP.below)

def words_Line.f (a0 : ByteArray) : Option (List S82 × Option Int) := some ((lineR a0).1, none)
theorem words_Line.calls (ad : Int → Addr) (a0 : ByteArray) (r1 : List S82) (r2 : Option Int) (w : World) (hs : SentsK ad w) (h : words_Line.f a0 = some (r1, r2)) :
    Calls Tryd.prog 34 #[.string a0] w fun e w' => ∃ v0_ u_ : Value, e = .returned (.tuple #[v0_, u_]) ∧ Kd.R k82 82 w' w.heap.size (fun _ => True) v0_ r1 ∧ Below w.heap.size w w' := by
  obtain ⟨rfl, _⟩ := Prod.mk.inj (Option.some.inj h)
  exact (Line_calls ad a0 w (SentsK.two hs)).mono fun e w' ⟨v, u, he, hx⟩ => ⟨v, u, he, hx.out.1, hx.out.2.2⟩
def dovetaillaw02_known.f : Option Bool := some true
theorem dovetaillaw02_known.calls (ad : Int → Addr) (r : Bool) (w : World) (hs : SentsK ad w) (hg : HandleP w) (h : dovetaillaw02_known.f = some r) :
    Calls Tryd.prog 50 #[] w fun e w' => e = .returned (.bool r) ∧ Below w.heap.size w w' := by
  obtain rfl := Option.some.inj h
  exact known_calls ad w hs hg
end Go.Proofs.YteaiejippkikpaaDoor.Ow
