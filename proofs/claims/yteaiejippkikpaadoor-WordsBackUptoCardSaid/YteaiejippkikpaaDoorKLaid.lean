/- What the listed variables give: the fifteen sentinels, the handle of the type error; a world in which they lie. -/
import Derived.Test.YteaiejippkikpaaDoorLaid
import Derived.Test.YteaiejippkikpaaDoorKKind
import Derived.Test.YteaiejippkikpaaDoorKPlace
import Derived.Test.YteaiejippkikpaaDoorRows
import Derived.LaidLaws
import Derived.LaidHandle
import Derived.Lib.LaidTab
import Derived.Lib.LaidIn
set_option linter.unusedVariables false
set_option linter.unusedSimpArgs false
namespace Go.Proofs.YteaiejippkikpaaDoor.B
open Go.RowKit Go.ChangeShapes Go.Proofs.YteaiejippkikpaaDoor.H

def names15 : List (String × List UInt8 × Nat) := [("dovetail/api.ErrArg", [100, 111, 118, 101, 116, 97, 105, 108, 58, 32, 97, 114, 103, 117, 109, 101, 110, 116], 2), ("dovetail/api.ErrSyntax", [100, 111, 118, 101, 116, 97, 105, 108, 58, 32, 115, 121, 110, 116, 97, 120], 3), ("dovetail/api.ErrBounds", [100, 111, 118, 101, 116, 97, 105, 108, 58, 32, 98, 111, 117, 110, 100, 115], 0), ("dovetail/api.ErrNotOperator", [100, 111, 118, 101, 116, 97, 105, 108, 58, 32, 110, 111, 116, 32, 97, 110, 32, 111, 112, 101, 114, 97, 116, 111, 114, 32, 103, 114, 97, 109, 109, 97, 114], 4), ("dovetail/api.ErrMatrix", [100, 111, 118, 101, 116, 97, 105, 108, 58, 32, 116, 119, 111, 32, 114, 101, 108, 97, 116, 105, 111, 110, 115], 5), ("dovetail/api.ErrTooBig", [100, 111, 118, 101, 116, 97, 105, 108, 58, 32, 116, 111, 111, 32, 98, 105, 103], 6), ("dovetail/api.ErrRefused", [100, 111, 118, 101, 116, 97, 105, 108, 58, 32, 114, 101, 102, 117, 115, 101, 100], 7), ("dovetail/api.ErrCut", [100, 111, 118, 101, 116, 97, 105, 108, 58, 32, 99, 117, 116], 8), ("dovetail/api.ErrPlan", [100, 111, 118, 101, 116, 97, 105, 108, 58, 32, 112, 108, 97, 110], 9), ("dovetail/api.ErrName", [100, 111, 118, 101, 116, 97, 105, 108, 58, 32, 110, 97, 109, 101], 1), ("dovetail/api.ErrTree", [100, 111, 118, 101, 116, 97, 105, 108, 58, 32, 116, 114, 101, 101], 10), ("dovetail/api.ErrLong", [100, 111, 118, 101, 116, 97, 105, 108, 58, 32, 108, 111, 110, 103], 11), ("dovetail/api.ErrForm", [100, 111, 118, 101, 116, 97, 105, 108, 58, 32, 102, 111, 114, 109], 12), ("dovetail/api.ErrSum", [100, 111, 118, 101, 116, 97, 105, 108, 58, 32, 115, 117, 109], 13), ("dovetail/api.ErrNone", [100, 111, 118, 101, 116, 97, 105, 108, 58, 32, 110, 111, 110, 101], 14)]
/-- The list of the rows. -/
def laid16 : List (String × DataW Unit) := ("errors.errorType", Rows.laid_errors_errorType) :: sentData "*errors.errorString" names15
theorem rt16 : (Tryd.prog.cutTypes.find? (·.1 == "internal/reflectlite.rtype")).map (·.2) = some 168 := by kernel_rfl
theorem oneRow16 : ((List.range Tryd.prog.types.size).filter fun t => Tryd.prog.rowNamed t [101, 114, 114, 111, 114]) = [44] := by kernel_rfl
theorem et16 : Tryd.prog.globalNamed "errors.errorType" = some 15 := by kernel_rfl
theorem handle16 {W : World} (h : handlesMet Tryd.prog [("errors.errorType", Rows.laid_errors_errorType)] W) : HandleP W := by
  obtain ⟨name, u, ty, e1, e2, e3, e4, e5⟩ := h _ (List.mem_singleton.2 rfl)
  have en : name = [101, 114, 114, 111, 114] := (Option.some.inj e1).symm
  subst en
  obtain rfl := Option.some.inj (rt16.symm.trans e2)
  have hm : ty ∈ (List.range Tryd.prog.types.size).filter fun t => Tryd.prog.rowNamed t [101, 114, 114, 111, 114] := List.mem_filter.2 ⟨List.mem_range.2 e3, e4⟩
  rw [oneRow16] at hm
  obtain rfl := List.mem_singleton.1 hm
  have hh : typeHandle Tryd.prog 44 = .pointer (some ⟨17, 44, none⟩) := by kernel_rfl
  rw [hh] at e5
  have := World.var?_cell et16 e5 0
  simpa [HandleP] using this
theorem parts16 {W : World} (h : laidMetH Tryd.prog laid16 W) : laidMet Tryd.prog (sentData "*errors.errorString" names15) W ∧ handlesMet Tryd.prog [("errors.errorType", Rows.laid_errors_errorType)] W := h
set_option maxRecDepth 20000 in
theorem sents16 {W : World} (h : laidMetH Tryd.prog laid16 W) : (∃ ad, SentsK ad W) ∧ HandleP W := by
  obtain ⟨h1, h2⟩ := parts16 h
  refine ⟨?_, handle16 h2⟩
  obtain ⟨az, hl, hx, hnd⟩ := sents_of_laid Tryd.underlying44 es_row Tryd.underlying185 Tryd.underlying205 rfl rfl Tryd.underlying9 (by kernel_rfl) (by kernel_rfl) h1 (by
    intro x hx
    simp only [names15, List.mem_cons, List.not_mem_nil, or_false] at hx
    rcases hx with rfl | rfl | rfl | rfl | rfl | rfl | rfl | rfl | rfl | rfl | rfl | rfl | rfl | rfl | rfl <;> exact ⟨by kernel_rfl, by kernel_rfl⟩)
  match az, hl with
  | [a1, a2, a3, a4, a5, a6, a7, a8, a9, a10, a11, a12, a13, a14, a15], _ =>
    have hg : ∀ i : Nat, i < 15 → ∃ a, [a1, a2, a3, a4, a5, a6, a7, a8, a9, a10, a11, a12, a13, a14, a15][i]? = some a := fun i hi => ⟨_, List.getElem?_eq_getElem (by simpa using hi)⟩
    refine ⟨fun k => ([a1, a2, a3, a4, a5, a6, a7, a8, a9, a10, a11, a12, a13, a14, a15][(k - 1).toNat]?).getD a1, ⟨by simpa using (hx 0 _ a1 rfl rfl).1, by simpa using (hx 1 _ a2 rfl rfl).1, by simpa using (hx 2 _ a3 rfl rfl).1, by simpa using (hx 3 _ a4 rfl rfl).1, by simpa using (hx 4 _ a5 rfl rfl).1, by simpa using (hx 5 _ a6 rfl rfl).1, by simpa using (hx 6 _ a7 rfl rfl).1, by simpa using (hx 7 _ a8 rfl rfl).1, by simpa using (hx 8 _ a9 rfl rfl).1, by simpa using (hx 9 _ a10 rfl rfl).1, by simpa using (hx 10 _ a11 rfl rfl).1, by simpa using (hx 11 _ a12 rfl rfl).1, by simpa using (hx 12 _ a13 rfl rfl).1, by simpa using (hx 13 _ a14 rfl rfl).1, by simpa using (hx 14 _ a15 rfl rfl).1⟩, ?_, ?_⟩
    · intro k h1 h2
      obtain ⟨a, ha⟩ := hg (k - 1).toNat (by omega)
      rw [ha]
      have hn : (k - 1).toNat < names15.length := by show (k - 1).toNat < 15; omega
      exact (hx (k - 1).toNat _ a (List.getElem?_eq_getElem hn) ha).2
    · intro j k h1 h2 h3 h4 hne
      obtain ⟨a, ha⟩ := hg (j - 1).toNat (by omega)
      obtain ⟨b, hb⟩ := hg (k - 1).toNat (by omega)
      rw [ha, hb]
      intro e
      have e' : a = b := e
      subst e'
      have hi1 : (j - 1).toNat < [a1, a2, a3, a4, a5, a6, a7, a8, a9, a10, a11, a12, a13, a14, a15].length := by show _ < 15; omega
      have := (List.getElem?_inj hi1 hnd).1 (ha.trans hb.symm)
      omega

/-- A WORLD FOR THE WITNESS: the settled one, the listed variables laid. -/
noncomputable def low16 : Nat := (World.holding Tryd.prog default ⟨#[], #[], []⟩).heap.size
noncomputable def laidWorld16 (os : Os) : World :=
  let w0 := World.holding Tryd.prog os ⟨#[.cells #[.string ⟨#[100, 111, 118, 101, 116, 97, 105, 108, 58, 32, 97, 114, 103, 117, 109, 101, 110, 116]⟩] 205, .cells #[.string ⟨#[100, 111, 118, 101, 116, 97, 105, 108, 58, 32, 115, 121, 110, 116, 97, 120]⟩] 205, .cells #[.string ⟨#[100, 111, 118, 101, 116, 97, 105, 108, 58, 32, 98, 111, 117, 110, 100, 115]⟩] 205, .cells #[.string ⟨#[100, 111, 118, 101, 116, 97, 105, 108, 58, 32, 110, 111, 116, 32, 97, 110, 32, 111, 112, 101, 114, 97, 116, 111, 114, 32, 103, 114, 97, 109, 109, 97, 114]⟩] 205, .cells #[.string ⟨#[100, 111, 118, 101, 116, 97, 105, 108, 58, 32, 116, 119, 111, 32, 114, 101, 108, 97, 116, 105, 111, 110, 115]⟩] 205, .cells #[.string ⟨#[100, 111, 118, 101, 116, 97, 105, 108, 58, 32, 116, 111, 111, 32, 98, 105, 103]⟩] 205, .cells #[.string ⟨#[100, 111, 118, 101, 116, 97, 105, 108, 58, 32, 114, 101, 102, 117, 115, 101, 100]⟩] 205, .cells #[.string ⟨#[100, 111, 118, 101, 116, 97, 105, 108, 58, 32, 99, 117, 116]⟩] 205, .cells #[.string ⟨#[100, 111, 118, 101, 116, 97, 105, 108, 58, 32, 112, 108, 97, 110]⟩] 205, .cells #[.string ⟨#[100, 111, 118, 101, 116, 97, 105, 108, 58, 32, 110, 97, 109, 101]⟩] 205, .cells #[.string ⟨#[100, 111, 118, 101, 116, 97, 105, 108, 58, 32, 116, 114, 101, 101]⟩] 205, .cells #[.string ⟨#[100, 111, 118, 101, 116, 97, 105, 108, 58, 32, 108, 111, 110, 103]⟩] 205, .cells #[.string ⟨#[100, 111, 118, 101, 116, 97, 105, 108, 58, 32, 102, 111, 114, 109]⟩] 205, .cells #[.string ⟨#[100, 111, 118, 101, 116, 97, 105, 108, 58, 32, 115, 117, 109]⟩] 205, .cells #[.string ⟨#[100, 111, 118, 101, 116, 97, 105, 108, 58, 32, 110, 111, 110, 101]⟩] 205], #[], []⟩
  let put (h : Array Obj) (g : Nat) (cs : Array Value) : Array Obj := h.modify g fun
    | .cells _ t frozen => .cells cs t frozen
    | o => o
  { w0 with heap := put (put (put (put (put (put (put (put (put (put (put (put (put (put (put (put w0.heap 15 #[.iface 168 (.agg #[.pointer (some ⟨17, 44, none⟩)])]) 2 #[.iface 185 (.pointer (some ⟨low16 + 0, 0, none⟩))]) 3 #[.iface 185 (.pointer (some ⟨low16 + 1, 0, none⟩))]) 0 #[.iface 185 (.pointer (some ⟨low16 + 2, 0, none⟩))]) 4 #[.iface 185 (.pointer (some ⟨low16 + 3, 0, none⟩))]) 5 #[.iface 185 (.pointer (some ⟨low16 + 4, 0, none⟩))]) 6 #[.iface 185 (.pointer (some ⟨low16 + 5, 0, none⟩))]) 7 #[.iface 185 (.pointer (some ⟨low16 + 6, 0, none⟩))]) 8 #[.iface 185 (.pointer (some ⟨low16 + 7, 0, none⟩))]) 9 #[.iface 185 (.pointer (some ⟨low16 + 8, 0, none⟩))]) 1 #[.iface 185 (.pointer (some ⟨low16 + 9, 0, none⟩))]) 10 #[.iface 185 (.pointer (some ⟨low16 + 10, 0, none⟩))]) 11 #[.iface 185 (.pointer (some ⟨low16 + 11, 0, none⟩))]) 12 #[.iface 185 (.pointer (some ⟨low16 + 12, 0, none⟩))]) 13 #[.iface 185 (.pointer (some ⟨low16 + 13, 0, none⟩))]) 14 #[.iface 185 (.pointer (some ⟨low16 + 14, 0, none⟩))] }
set_option maxRecDepth 100000 in
theorem laid_met16 (os : Os) (args : Array Value) : laidMetH Tryd.prog laid16 ((laidWorld16 os).forCall (fun _ _ => 0) ⟨#[], args, []⟩).memory :=
  laidMetH_of_parts (laidMet_of_run' 20 (by kernel_rfl) (by kernel_rfl)) (by kernel_rfl)
end Go.Proofs.YteaiejippkikpaaDoor.B
