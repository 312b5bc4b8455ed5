/- WordsLines: the law's walk. -/
import Derived.Test.YteaiejippkikpaaDoorKPlace
import Derived.Test.YteaiejippkikpaaDoorLineR
import Derived.Test.YteaiejippkikpaaDoorLwx3
set_option linter.unusedVariables false
set_option linter.unusedSimpArgs false
namespace Go.Proofs.YteaiejippkikpaaDoor.H
open Go.RowKit Go.Proofs.YteaiejippkikpaaDoorW.PrintWords Go.Proofs.YteaiejippkikpaaDoorW.PrintLast Go.Proofs.YteaiejippkikpaaDoorW.PrintMore Go.Proofs.YteaiejippkikpaaDoor.Lw
open Go.Proofs.YteaiejippkikpaaDoor.B (SentsK SentsK.below HandleP HandleP.below Kind_pl Place_pl Box Box.below)

theorem PErrV.below {ad : Int → Addr} {w w' : World} {v : Value} {p : Int × Int} (h : PErrV ad w v p) (hb : Below w.heap.size w w') : PErrV ad w' v p := by
  rcases h with h | h | ⟨h1, b, hv, hx⟩
  · exact .inl h
  · exact .inr (.inl h)
  · exact .inr (.inr ⟨h1, b, hv, Box.below (W := w) (W' := w') hx hb⟩)
theorem SentsK.two {ad : Int → Addr} {w : World} (h : SentsK ad w) : SentW ad w := by
  obtain ⟨⟨h1, h2, h3, h4, h5, h6, h7, h8, h9, h10, h11, h12, h13, h14, h15⟩, _, _⟩ := h
  exact ⟨h2, h12⟩
theorem rdS_at (l : List P.Wd) (i : Nat) (h : i < l.length) : rd_T82 (l.map toS) (i : Int) = toS l[i] := by
  simp [rd_T82, List.getD_eq_getElem?_getD, h]
theorem rdR_at (l : List P.Wd) (i : Nat) (h : i < l.length) : rd_T116 (l.map refT) (i : Int) = refT l[i] := by
  simp [rd_T116, List.getD_eq_getElem?_getD, h]
theorem same_l (l : List P.Wd) (hl : l.length < 9223372036854775807) : ∀ d i, l.length - i ≤ d → i ≤ l.length → ∀ K, d + 1 ≤ K → dovetaillaw02_same.l0 K (l.map toS) (l.map refT) (i : Int) = some true := by
  intro d
  induction d with
  | zero =>
    intro i hd hi K hK
    obtain ⟨K, rfl⟩ : ∃ k, K = k + 1 := ⟨K - 1, by omega⟩
    simp only [dovetaillaw02_same.l0]
    rw [if_neg (by simp; omega)]
  | succ d ih =>
    intro i hd hi K hK
    by_cases hlt : i < l.length
    rotate_left
    · exact ih i (by omega) hi K (by omega)
    obtain ⟨K, rfl⟩ : ∃ k, K = k + 1 := ⟨K - 1, by omega⟩
    simp only [dovetaillaw02_same.l0]
    rw [if_pos (by simp; omega), if_pos (by omega), if_pos (by simp; omega), rdS_at l i hlt, rdR_at l i hlt, if_pos (show (toS l[i]).f0.toList = (refT l[i]).f0.toList from rfl), if_neg (by simp [toS, refT]), if_pos (show (toS l[i]).f2 = (refT l[i]).f2 from rfl), show wrap64 ((i : Int) + 1) = ((i + 1 : Nat) : Int) from wj i 1 (by omega)]
    exact ih (i + 1) (by omega) (by omega) K (by omega)
theorem same_ev (l : List P.Wd) (hl : l.length < 9223372036854775807) : dovetaillaw02_same.f (l.length + 1) (l.map toS) (l.map refT) = some true := by
  unfold dovetaillaw02_same.f
  rw [if_pos (by simp)]
  exact same_l l hl l.length 0 (by omega) (by omega) _ (by omega)
theorem lineF_len : ∀ (k : Nat) (l : List UInt8) (pos : Nat) (out r : List P.Wd), P.lineF k l pos out = .inr r → r.length ≤ out.length + l.length
  | 0, l, pos, out, r, h => by
    obtain rfl := Sum.inr.inj h
    omega
  | k + 1, [], pos, out, r, h => by
    obtain rfl := Sum.inr.inj h
    simp
  | k + 1, c :: t, pos, out, r, h => by
    unfold P.lineF at h
    split at h
    · have := lineF_len k t _ _ _ h
      rw [List.length_cons]; omega
    split at h
    · obtain rfl := Sum.inr.inj h
      omega
    split at h
    · split at h
      · split at h
        · have h1 := lineF_len k _ _ _ _ h
          have h2 := P.quoF_end (t.length + 1) t (pos + 1) []
          rw [show P.quoF (t.length + 1) t (pos + 1) [] = P.quo t (pos + 1) from rfl] at h2
          rw [List.length_append, List.length_singleton, List.length_drop, List.length_cons] at h1
          rw [List.length_cons]; omega
        · cases h
      · cases h
    · split at h
      · have h1 := lineF_len k _ _ _ _ h
        have h2 := congrArg List.length (List.takeWhile_append_dropWhile (p := P.plainB) (l := c :: t))
        rw [List.length_append] at h2
        split at h1
        · omega
        · rename_i hne
          have h3 : 0 < ((c :: t).takeWhile P.plainB).length := List.length_pos_iff.2 hne
          rw [List.length_append, List.length_singleton] at h1
          omega
      · cases h
/-- Both answers. -/
theorem line_both (s : ByteArray) : ∃ (l : List P.Wd) (k p q : Int), l.length ≤ 1048576 ∧ lineR s = (l.map toS, k, p) ∧ dovetailref02_Line.f (3 * s.size + 8) s = some (l.map refT, q, k) ∧ (k = 2 → q = p) := by
  rw [ref_ev s _ (Nat.le_refl _)]
  unfold lineR
  by_cases h : 1048576 < s.size
  · exact ⟨[], 12, -1, 0, by simp, by rw [if_pos h]; rfl, by rw [if_pos h]; rfl, fun h => by cases h⟩
  · rw [if_neg h, if_neg h]
    cases hl : P.lineL s.data.toList with
    | inl p => exact ⟨[], 2, p, p, by simp, rfl, rfl, fun _ => rfl⟩
    | inr l => exact ⟨l, 0, -1, 0, by have := lineF_len _ _ _ _ _ hl; simp at this; omega, rfl, rfl, fun h => by cases h⟩
theorem line_both' (s : ByteArray) : ∃ (ls : List S82) (lr : List S116) (k p q : Int) (K : Nat), dovetaillaw02_same.f K ls lr = some true ∧ lineR s = (ls, k, p) ∧ dovetailref02_Line.f (3 * s.size + 8) s = some (lr, q, k) ∧ (k = 2 → q = p) := by
  obtain ⟨l, k, p, q, hll, hr, hf, hk⟩ := line_both s
  exact ⟨_, _, k, p, q, _, same_ev l (by omega), hr, hf, hk⟩

set_option maxHeartbeats 2000000 in
set_option maxRecDepth 100000 in
theorem WordsLines_calls (ad : Int → Addr) (s : ByteArray) (w : World) (hs : SentsK ad w) (hg : HandleP w) :
    Calls Tryd.prog 7 #[.string s] w fun e w' => e = .returned (.bool true) ∧ Below w.heap.size w w' := by
  obtain ⟨ls, lr, k, p, q, K, hse, hr, hf, hk⟩ := line_both' s
  have SE := Aside0.mk hse
  have hline := Line_calls ad s w (SentsK.two hs)
  unfold LinePost at hline
  rw [hr] at hline
  have HC := Aside0.mk hline
  have HF := Aside0.mk hf
  have HS := Aside0.mk hs
  have HG := Aside0.mk hg
  clear hr hline hf hs hg hse
  have ekk : (k == k) = true := beq_iff_eq.2 rfl
  have ekk' : (k != k) = false := by rw [bne, ekk]; rfl
  by_cases h2 : k = 2
  · have e2 : (k == 2) = true := beq_iff_eq.2 h2
    have e2' : (k != 2) = false := by rw [bne, e2]; rfl
    have epp : (p == q) = true := beq_iff_eq.2 (hk h2).symm
    clear hk h2
    go_enter Tryd.func7, Tryd.ntmps7
    go_wp2_with (first
      | (go_at_call 34; (with_reducible refine HC.out.mono ?_); rintro e w1 ⟨v, u, rfl, ⟨r1, pe, b1⟩⟩; obtain ⟨A, c, rfl⟩ := Kd.R_slice r1; have R1 := Aside0.mk (Kd.R_reads' r1); have PE := Aside0.mk pe; have B1 := Aside0.mk b1; clear r1 pe b1)
      | (go_at_call 35; (with_reducible refine (dovetailref02_Line.calls _ s _ _ _ _ HF.out).mono ?_); rintro e w2 ⟨v, rfl, r2, b2⟩; obtain ⟨A2, c2, rfl⟩ := Kd.R_slice r2; have R2 := Aside0.mk (Kd.R_reads' r2); have B2 := Aside0.mk (B1.out.trans (b2.mono (below_size B1.out))); have PE2 := Aside0.mk (PE.out.below b2); have C1 := Aside0.mk (Kd.C_below R1.out.2.2 b2); clear r2 b2)
      | (go_at_call 32; (with_reducible refine (Kind_pl (HS.out.below B2.out) PE2.out).mono ?_); rintro e w3 ⟨rfl, b3⟩; have B3 := Aside0.mk (B2.out.trans (b3.mono (below_size B2.out))); have PE3 := Aside0.mk (PE2.out.below b3); have C3 := Aside0.mk (Kd.C_below C1.out b3); have D3 := Aside0.mk (Kd.C_below R2.out.2.2 b3); clear b3)
      | (go_at_call 36; (with_reducible refine (dovetaillaw02_same.calls _ A c ls A2 c2 lr true _ C3.out R1.out.2.1 D3.out R2.out.2.1 SE.out).mono ?_); rintro e w4 ⟨rfl, d4⟩; have B4 := Aside0.mk (B3.out.trans (d4.below.mono (below_size B3.out))); have PE4 := Aside0.mk (PE3.out.below d4.below); clear d4)
      | (go_at_call 37; (with_reducible refine (Place_pl (HG.out.below B4.out) PE4.out).mono ?_); rintro e w5 ⟨rfl, b5⟩; have B5 := Aside0.mk (B4.out.trans (b5.mono (below_size B4.out))); clear b5))
    go_ret
    exact ⟨rfl, B5.out⟩
  · have e2 : (k == 2) = false := beq_eq_false_iff_ne.2 h2
    have e2' : (k != 2) = true := by rw [bne, e2]; rfl
    clear hk h2
    go_enter Tryd.func7, Tryd.ntmps7
    go_wp2_with (first
      | (go_at_call 34; (with_reducible refine HC.out.mono ?_); rintro e w1 ⟨v, u, rfl, ⟨r1, pe, b1⟩⟩; obtain ⟨A, c, rfl⟩ := Kd.R_slice r1; have R1 := Aside0.mk (Kd.R_reads' r1); have PE := Aside0.mk pe; have B1 := Aside0.mk b1; clear r1 pe b1)
      | (go_at_call 35; (with_reducible refine (dovetailref02_Line.calls _ s _ _ _ _ HF.out).mono ?_); rintro e w2 ⟨v, rfl, r2, b2⟩; obtain ⟨A2, c2, rfl⟩ := Kd.R_slice r2; have R2 := Aside0.mk (Kd.R_reads' r2); have B2 := Aside0.mk (B1.out.trans (b2.mono (below_size B1.out))); have PE2 := Aside0.mk (PE.out.below b2); have C1 := Aside0.mk (Kd.C_below R1.out.2.2 b2); clear r2 b2)
      | (go_at_call 32; (with_reducible refine (Kind_pl (HS.out.below B2.out) PE2.out).mono ?_); rintro e w3 ⟨rfl, b3⟩; have B3 := Aside0.mk (B2.out.trans (b3.mono (below_size B2.out))); have PE3 := Aside0.mk (PE2.out.below b3); have C3 := Aside0.mk (Kd.C_below C1.out b3); have D3 := Aside0.mk (Kd.C_below R2.out.2.2 b3); clear b3)
      | (go_at_call 36; (with_reducible refine (dovetaillaw02_same.calls _ A c ls A2 c2 lr true _ C3.out R1.out.2.1 D3.out R2.out.2.1 SE.out).mono ?_); rintro e w4 ⟨rfl, d4⟩; have B4 := Aside0.mk (B3.out.trans (d4.below.mono (below_size B3.out))); have PE4 := Aside0.mk (PE3.out.below d4.below); clear d4))
    go_ret
    exact ⟨rfl, B4.out⟩
end Go.Proofs.YteaiejippkikpaaDoor.H
