/- gram.Same in the print's form. -/
import Derived.Test.YteaiejippkikpaaDoorGramSm
set_option linter.unusedVariables false
namespace Go.Proofs.YteaiejippkikpaaDoor.B
open Go.RowKit Go.Proofs.YteaiejippkikpaaDoorW.PrintWords Go.Proofs.YteaiejippkikpaaDoorW.PrintLast Go.Proofs.YteaiejippkikpaaDoorW.PrintMore

def gram_Same.f (l0_0 : List ByteArray) (l0_1 : List ByteArray) (a0_2 : Int) (l0_3 : List S35) (l1_0 : List ByteArray) (l1_1 : List ByteArray) (a1_2 : Int) (l1_3 : List S35) : Option Bool :=
  some (decide (l0_0 = l1_0 ∧ l0_1 = l1_1 ∧ a0_2 = a1_2 ∧ l0_3.map prR = l1_3.map prR))

/-- A block that lies. -/
def Box (b : Nat) (cs : Array Value) (t : TypeId) (W : World) : Prop := W.heap[b]? = some (.cells cs t (0, 0))
theorem Box.cell {b : Nat} {cs : Array Value} {t : TypeId} {W : World} (h : Box b cs t W) (i : Nat) (v : Value) (hi : cs[i]? = some v) : W.cell? ⟨b, i, none⟩ = some v := by
  have h' : W.heap[b]? = some (.cells cs t (0, 0)) := h
  simp [World.cell?, h', hi]
theorem Box.below {b : Nat} {cs : Array Value} {t : TypeId} {W W' : World} (h : Box b cs t W) (hb : Below W.heap.size W W') : Box b cs t W' := by
  have h' : W.heap[b]? = some (.cells cs t (0, 0)) := h
  have hlt : b < W.heap.size := by
    rcases Nat.lt_or_ge b W.heap.size with h1 | h1
    · exact h1
    · rw [Array.getElem?_eq_none h1] at h'; cases h'
  exact (hb.block b hlt).trans h'
theorem Box.new (w : World) (cs : Array Value) (t : TypeId) : Box w.heap.size cs t (w.alloc (.cells cs t)) := heap_alloc_new w _
theorem Box.alloc {b : Nat} {cs : Array Value} {t : TypeId} {W : World} (h : Box b cs t W) (o : Obj) : Box b cs t (W.alloc o) := h.below ((Below.refl _ W).alloc (Nat.le_refl _) o)
set_option maxHeartbeats 1000000 in
set_option maxRecDepth 100000 in
theorem gram_Same.calls (A0_0 : Option Addr) (c0_0 : Nat) (l0_0 : List ByteArray) (A0_1 : Option Addr) (c0_1 : Nat) (l0_1 : List ByteArray) (a0_2 : Int) (A0_3 : Option Addr) (c0_3 : Nat) (l0_3 : List S35) (A1_0 : Option Addr) (c1_0 : Nat) (l1_0 : List ByteArray) (A1_1 : Option Addr) (c1_1 : Nat) (l1_1 : List ByteArray) (a1_2 : Int) (A1_3 : Option Addr) (c1_3 : Nat) (l1_3 : List S35) (r : Bool) (w : World) (hr0_0 : Kd.C Kd.string w A0_0 l0_0.length l0_0) (hc0_0 : l0_0.length ≤ c0_0) (hr0_1 : Kd.C Kd.string w A0_1 l0_1.length l0_1) (hc0_1 : l0_1.length ≤ c0_1) (hr0_3 : Kd.C k35 w A0_3 l0_3.length l0_3) (hc0_3 : l0_3.length ≤ c0_3) (hr1_0 : Kd.C Kd.string w A1_0 l1_0.length l1_0) (hc1_0 : l1_0.length ≤ c1_0) (hr1_1 : Kd.C Kd.string w A1_1 l1_1.length l1_1) (hc1_1 : l1_1.length ≤ c1_1) (hr1_3 : Kd.C k35 w A1_3 l1_3.length l1_3) (hc1_3 : l1_3.length ≤ c1_3) (h : gram_Same.f l0_0 l0_1 a0_2 l0_3 l1_0 l1_1 a1_2 l1_3 = some r) :
    Calls Tryd.prog 30 #[.agg #[.slice A0_0 l0_0.length c0_0, .slice A0_1 l0_1.length c0_1, .int .i64 a0_2, .slice A0_3 l0_3.length c0_3], .agg #[.slice A1_0 l1_0.length c1_0, .slice A1_1 l1_1.length c1_1, .int .i64 a1_2, .slice A1_3 l1_3.length c1_3]] w fun e w' => e = .returned (.bool r) ∧ Below w.heap.size w w' := by
  obtain rfl := Option.some.inj h
  clear h
  obtain ⟨Two, hT⟩ : ∃ Two : World → Prop, ∀ W, Two W ↔ (Below w.heap.size w W ∧ Box w.heap.size #[.slice A0_0 l0_0.length c0_0, .slice A0_1 l0_1.length c0_1, .int .i64 a0_2, .slice A0_3 l0_3.length c0_3] 25 W ∧ Box (w.heap.size + 1) #[.slice A1_0 l1_0.length c1_0, .slice A1_1 l1_1.length c1_1, .int .i64 a1_2, .slice A1_3 l1_3.length c1_3] 25 W) := ⟨_, fun _ => Iff.rfl⟩
  have start : Two ((w.alloc (.cells #[.slice A0_0 l0_0.length c0_0, .slice A0_1 l0_1.length c0_1, .int .i64 a0_2, .slice A0_3 l0_3.length c0_3] 25)).alloc (.cells #[.slice A1_0 l1_0.length c1_0, .slice A1_1 l1_1.length c1_1, .int .i64 a1_2, .slice A1_3 l1_3.length c1_3] 25)) := (hT _).2 ⟨((Below.refl _ w).alloc (Nat.le_refl _) _).alloc (by simp) _, (Box.new w _ _).alloc _, by
    have := Box.new (w.alloc (.cells #[.slice A0_0 l0_0.length c0_0, .slice A0_1 l0_1.length c0_1, .int .i64 a0_2, .slice A0_3 l0_3.length c0_3] 25)) #[.slice A1_0 l1_0.length c1_0, .slice A1_1 l1_1.length c1_1, .int .i64 a1_2, .slice A1_3 l1_3.length c1_3] 25
    simpa using this⟩
  have step : ∀ {F : Nat} {args : Array Value} {v : Value}, (∀ (W : World), Below w.heap.size w W → Calls Tryd.prog F args W fun e w' => e = .returned v ∧ Below W.heap.size W w') → ∀ W, Two W → Calls Tryd.prog F args W fun e w' => e = .returned v ∧ Aside0 (Two w') ∧
      w'.cell? ⟨w.heap.size, 1, none⟩ = some (.slice A0_1 l0_1.length c0_1) ∧ w'.cell? ⟨w.heap.size, 2, none⟩ = some (.int .i64 a0_2) ∧ w'.cell? ⟨w.heap.size, 3, none⟩ = some (.slice A0_3 l0_3.length c0_3) ∧
      w'.cell? ⟨w.heap.size + 1, 1, none⟩ = some (.slice A1_1 l1_1.length c1_1) ∧ w'.cell? ⟨w.heap.size + 1, 2, none⟩ = some (.int .i64 a1_2) ∧ w'.cell? ⟨w.heap.size + 1, 3, none⟩ = some (.slice A1_3 l1_3.length c1_3) := by
    intro F args v h W hW
    obtain ⟨h1, h2, h3⟩ := (hT W).1 hW
    refine (h W h1).mono ?_
    rintro e w' ⟨he, hb⟩
    have h2' := h2.below hb
    have h3' := h3.below hb
    exact ⟨he, ⟨(hT w').2 ⟨h1.trans (hb.mono h1.size), h2', h3'⟩⟩, h2'.cell 1 _ rfl, h2'.cell 2 _ rfl, h2'.cell 3 _ rfl, h3'.cell 1 _ rfl, h3'.cell 2 _ rfl, h3'.cell 3 _ rfl⟩
  have last : ∀ W, Two W → Below w.heap.size w W := fun W h => ((hT W).1 h).1
  clear hT
  have key := step (F := 68) (fun W hW => EqS_calls _ _ _ _ _ _ W (Kd.C_below hr0_0 hW) hc0_0 (Kd.C_below hr1_0 hW) hc1_0)
  have key1 := step (F := 68) (fun W hW => EqS_calls _ _ _ _ _ _ W (Kd.C_below hr0_1 hW) hc0_1 (Kd.C_below hr1_1 hW) hc1_1)
  have key3 := step (F := 69) (fun W hW => EqR_calls _ _ _ _ _ _ W (Kd.C_below hr0_3 hW) hc0_3 (Kd.C_below hr1_3 hW) hc1_3)
  clear step hr0_0 hr0_1 hr0_3 hr1_0 hr1_1 hr1_3
  have LAST := Aside0.mk last
  have ST := Aside0.mk start
  clear last start
  have fin : ∀ (p : Prop) [Decidable p], (∀ (q : Bool), q = decide p → Calls Tryd.prog 30 #[.agg #[.slice A0_0 l0_0.length c0_0, .slice A0_1 l0_1.length c0_1, .int .i64 a0_2, .slice A0_3 l0_3.length c0_3], .agg #[.slice A1_0 l1_0.length c1_0, .slice A1_1 l1_1.length c1_1, .int .i64 a1_2, .slice A1_3 l1_3.length c1_3]] w fun e w' => e = .returned (.bool q) ∧ Below w.heap.size w w') → Calls Tryd.prog 30 #[.agg #[.slice A0_0 l0_0.length c0_0, .slice A0_1 l0_1.length c0_1, .int .i64 a0_2, .slice A0_3 l0_3.length c0_3], .agg #[.slice A1_0 l1_0.length c1_0, .slice A1_1 l1_1.length c1_1, .int .i64 a1_2, .slice A1_3 l1_3.length c1_3]] w fun e w' => e = .returned (.bool (decide p)) ∧ Below w.heap.size w w' := fun p _ h => h _ rfl
  refine fin _ (fun q hq => ?_)
  clear fin
  by_cases h0 : l0_0 = l1_0
  · rw [decide_eq_true h0] at key
    have K0 := Aside0.mk key
    clear key
    by_cases h1 : l0_1 = l1_1
    · rw [decide_eq_true h1] at key1
      have K1 := Aside0.mk key1
      clear key1
      by_cases h2 : a0_2 = a1_2
      · have hb2 : (a0_2 == a1_2) = true := by simpa using h2
        generalize hz : decide (l0_3.map prR = l1_3.map prR) = z at key3
        have K3 := Aside0.mk key3
        clear key3
        have HQ : Hid (q = z) := Lib.hid (by rw [hq, ← hz]; simp [h0, h1, h2])
        clear hq h0 h1 h2 hz
        go_enter Tryd.func30, Tryd.ntmps30
        go_wp2_with (first | (go_at_call 68; (with_reducible refine (K0.out _ ST.out).mono ?_); rintro e w1 ⟨rfl, t1, f1, f2, f3, f4, f5, f6⟩) | (go_at_call 68; (with_reducible refine (K1.out _ t1.out).mono ?_); rintro e w1 ⟨rfl, t2, f1, f2, f3, f4, f5, f6⟩) | (go_at_call 69; (with_reducible refine (K3.out _ t2.out).mono ?_); rintro e w1 ⟨rfl, t3, f1, f2, f3, f4, f5, f6⟩))
        go_ret
        exact ⟨by show Ending.returned (.bool z) = _; rw [HQ.out], LAST.out _ t3.out⟩
      · have hb2 : (a0_2 == a1_2) = false := by simpa using h2
        have HQ : Hid (q = false) := Lib.hid (by rw [hq]; simp [h2])
        clear hq h0 h1 h2 key3
        go_enter Tryd.func30, Tryd.ntmps30
        go_wp2_with (first | (go_at_call 68; (with_reducible refine (K0.out _ ST.out).mono ?_); rintro e w1 ⟨rfl, t1, f1, f2, f3, f4, f5, f6⟩) | (go_at_call 68; (with_reducible refine (K1.out _ t1.out).mono ?_); rintro e w1 ⟨rfl, t2, f1, f2, f3, f4, f5, f6⟩))
        go_ret
        exact ⟨by show Ending.returned (.bool false) = _; rw [HQ.out], LAST.out _ t2.out⟩
    · rw [decide_eq_false h1] at key1
      have K1 := Aside0.mk key1
      have HQ : Hid (q = false) := Lib.hid (by rw [hq]; simp [h1])
      clear key1 hq h0 h1 key3
      go_enter Tryd.func30, Tryd.ntmps30
      go_wp2_with (first | (go_at_call 68; (with_reducible refine (K0.out _ ST.out).mono ?_); rintro e w1 ⟨rfl, t1, f1, f2, f3, f4, f5, f6⟩) | (go_at_call 68; (with_reducible refine (K1.out _ t1.out).mono ?_); rintro e w1 ⟨rfl, t2, f1, f2, f3, f4, f5, f6⟩))
      go_ret
      exact ⟨by show Ending.returned (.bool false) = _; rw [HQ.out], LAST.out _ t2.out⟩
  · rw [decide_eq_false h0] at key
    have K0 := Aside0.mk key
    have HQ : Hid (q = false) := Lib.hid (by rw [hq]; simp [h0])
    clear key hq h0 key1 key3
    go_enter Tryd.func30, Tryd.ntmps30
    go_wp2_with (first | (go_at_call 68; (with_reducible refine (K0.out _ ST.out).mono ?_); rintro e w1 ⟨rfl, t1, f1, f2, f3, f4, f5, f6⟩))
    go_ret
    exact ⟨by show Ending.returned (.bool false) = _; rw [HQ.out], LAST.out _ t1.out⟩
end Go.Proofs.YteaiejippkikpaaDoor.B
