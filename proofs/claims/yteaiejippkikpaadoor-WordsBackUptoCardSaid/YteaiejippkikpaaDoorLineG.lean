/- words.Line and known, in the print's form, the error told by its number (with a premise: the sentinels lie). -/
import Derived.Test.YteaiejippkikpaaDoorLineK
import Derived.Test.YteaiejippkikpaaDoorWriteL
set_option linter.unusedVariables false
namespace Go.Proofs.YteaiejippkikpaaDoor.Bw
open Go.RowKit Go.Proofs.YteaiejippkikpaaDoorW.PrintWords Go.Proofs.YteaiejippkikpaaDoorW.PrintLast Go.Proofs.YteaiejippkikpaaDoorW.PrintMore Go.Proofs.YteaiejippkikpaaDoor.H
open Go.Proofs.YteaiejippkikpaaDoor.Lw (S82 k82)
open Go.Proofs.YteaiejippkikpaaDoor.B (SentsK SentsK.below HandleP HandleP.below)

/-- An error: none, or some value. -/
def errV (tx : TypeId × Value) : Option Int → Value
  | none => .nilIface
  | some _ => .iface tx.1 tx.2
theorem errV_none (tx : TypeId × Value) : errV tx none = .nilIface := rfl
theorem errV_some (tx : TypeId × Value) (c : Int) : errV tx (some c) = .iface tx.1 tx.2 := rfl
def words_Line.f (a0 : ByteArray) : Option (List S82 × Option Int) := some ((lineR a0).1, if (lineR a0).2.1 = 0 then none else some (lineR a0).2.1)
theorem words_Line.calls (ad : Int → Addr) (a0 : ByteArray) (r1 : List S82) (r2 : Option Int) (w : World) (hs : SentsK ad w) (hg : HandleP w) (h : words_Line.f a0 = some (r1, r2)) :
    Calls Tryd.prog 34 #[.string a0] w fun e w' => ∃ (v0_ : Value) (tx_ : TypeId × Value), e = .returned (.tuple #[v0_, errV tx_ r2]) ∧ Kd.R k82 82 w' w.heap.size (fun _ => True) v0_ r1 ∧ Below w.heap.size w w' := by
  obtain ⟨rfl, rfl⟩ := Prod.mk.inj (Option.some.inj h)
  refine (Line_calls ad a0 w (SentsK.two hs)).mono fun e w' ⟨v, u, he, hx⟩ => ?_
  obtain ⟨hr, hp, hb⟩ := hx.out
  rcases hp with ⟨h0, _, rfl⟩ | ⟨h0, _, rfl⟩ | ⟨h0, b, rfl, _⟩
  · exact ⟨v, (0, undef), by rw [he, if_pos h0]; rfl, hr, hb⟩
  · exact ⟨v, (_, _), by rw [he, if_neg (by have := h0.1; omega)]; rfl, hr, hb⟩
  · exact ⟨v, (_, _), by rw [he, if_neg (by have := h0.1; omega)]; rfl, hr, hb⟩
def dovetaillaw02_known.f : Option Bool := some true
theorem dovetaillaw02_known.calls (ad : Int → Addr) (r : Bool) (w : World) (hs : SentsK ad w) (hg : HandleP w) (h : dovetaillaw02_known.f = some r) :
    Calls Tryd.prog 50 #[] w fun e w' => e = .returned (.bool r) ∧ Below w.heap.size w w' := by
  obtain rfl := Option.some.inj h
  exact known_calls ad w hs hg
def words_Write.f (l0 : List S82) : Option ByteArray := if P.boundL (l0.map wl) ≤ 140737488355328 then some ⟨(P.writeL (l0.map wl)).toArray⟩ else none
theorem words_Write.calls (A0 : Option Addr) (c0 : Nat) (l0 : List S82) (r : ByteArray) (w : World) (hr0 : Kd.C k82 w A0 l0.length l0) (hc0 : l0.length ≤ c0) (h : words_Write.f l0 = some r) :
    Calls Tryd.prog 51 #[.slice A0 l0.length c0] w fun e w' => e = .returned (.string r) ∧ Below w.heap.size w w' := by
  unfold words_Write.f at h
  split at h
  · rename_i hb
    obtain rfl := Option.some.inj h
    exact Write_calls A0 c0 l0 w hr0 hc0 hb
  · cases h
end Go.Proofs.YteaiejippkikpaaDoor.Bw
