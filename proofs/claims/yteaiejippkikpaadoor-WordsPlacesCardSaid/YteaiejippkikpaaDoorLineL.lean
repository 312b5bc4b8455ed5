/- WordsPlaces: the law's walk. -/
import Derived.Test.YteaiejippkikpaaDoorLineK
import Derived.Test.YteaiejippkikpaaDoorLineC
set_option linter.unusedVariables false
set_option linter.unusedSimpArgs false
namespace Go.Proofs.YteaiejippkikpaaDoor.H
open Go.RowKit Go.Proofs.YteaiejippkikpaaDoorW.PrintWords Go.Proofs.YteaiejippkikpaaDoorW.PrintLast Go.Proofs.YteaiejippkikpaaDoorW.PrintMore Go.Proofs.YteaiejippkikpaaDoor.Lw
open Go.Proofs.YteaiejippkikpaaDoor.B (SentsK SentsK.below HandleP HandleP.below Kind_pl Place_pl Box Box.below)

theorem asc_at : ∀ (l : List P.Wd) (p : Nat), P.Asc p l → ∀ i (h : i < l.length), p ≤ l[i].2.2 ∧ ∀ h' : i + 1 < l.length, l[i].2.2 < l[i + 1].2.2
  | [], p, _, i, h => by simp at h
  | x :: l, p, ha, 0, h => by
    refine ⟨ha.1, fun h' => ?_⟩
    have := (asc_at l _ ha.2 0 (by simpa using h')).1
    simp only [List.getElem_cons_zero, List.getElem_cons_succ] at *
    omega
  | x :: l, p, ha, i + 1, h => by
    have ih := asc_at l _ ha.2 i (by simpa using h)
    simp only [List.getElem_cons_succ]
    refine ⟨by have := ih.1; have := ha.1; omega, fun h' => ih.2 (by simpa using h')⟩
/-- The place of the word ahead. -/
def lastZ (ls : List S82) : Nat → Int
  | 0 => -1
  | i + 1 => (rd_T82 ls (i : Int)).f2
/-- What holds of a line's words. -/
def GoodL (n : Nat) (ls : List S82) : Prop := ∀ i, i < ls.length → lastZ ls i < (rd_T82 ls (i : Int)).f2 ∧ (rd_T82 ls (i : Int)).f2 < (n : Int)
/-- What holds of the words of a line and of what follows. -/
def PreL (ls lt : List S82) : Prop := ls.length ≤ lt.length ∧ ∀ i, i < ls.length → rd_T82 lt (i : Int) = rd_T82 ls (i : Int)
theorem good_of (s : ByteArray) (ws : List P.Wd) (h : P.lineL s.data.toList = .inr ws) : GoodL s.size (ws.map toS) := by
  have hall := P.lineF_all (s.data.toList.length + 1) s.data.toList 0 [] (by omega)
  rw [show P.lineF (s.data.toList.length + 1) s.data.toList 0 [] = .inr ws from h] at hall
  obtain ⟨v, hv, ha, hb⟩ := hall
  rw [List.nil_append] at hv
  rw [← hv] at ha hb
  clear hv v
  intro i hi
  rw [List.length_map] at hi
  rw [rdS_at ws i hi]
  have h1 := hb ws[i] (List.getElem_mem hi)
  have hsz : s.data.toList.length = s.size := by simp
  refine ⟨?_, by show ((ws[i].2.2 : Nat) : Int) < _; omega⟩
  show _ < ((ws[i].2.2 : Nat) : Int)
  cases i with
  | zero => show (-1 : Int) < _; omega
  | succ i =>
    show (rd_T82 (ws.map toS) (i : Int)).f2 < _
    rw [rdS_at ws i (by omega)]
    have := (asc_at ws 0 ha i (by omega)).2 hi
    show ((ws[i].2.2 : Nat) : Int) < _
    omega
theorem app_of (s b : ByteArray) (ws : List P.Wd) (h : P.lineL s.data.toList = .inr ws) :
    lineR (s ++ ⟨#[32]⟩ ++ b) = ([], 12, -1) ∨ (∃ p : Nat, s.size < p ∧ lineR (s ++ ⟨#[32]⟩ ++ b) = ([], 2, (p : Int))) ∨ ∃ lt, PreL (ws.map toS) lt ∧ lineR (s ++ ⟨#[32]⟩ ++ b) = (lt, 0, -1) := by
  by_cases hl : 1048576 < (s ++ ⟨#[32]⟩ ++ b).size
  · exact .inl (if_pos hl)
  right
  have hd : (s ++ ⟨#[32]⟩ ++ b).data.toList = s.data.toList ++ 32 :: b.data.toList := by
    rw [P.data_append, P.data_append, List.append_assoc]; rfl
  have e : lineR (s ++ ⟨#[32]⟩ ++ b) = lineOf (P.lineF ((s.data.toList.length + 1) + (b.data.toList.length + 1)) (s.data.toList ++ 32 :: b.data.toList) 0 []) := by
    unfold lineR
    rw [if_neg hl, hd, P.lineL, List.length_append, List.length_cons, show s.data.toList.length + (b.data.toList.length + 1) + 1 = (s.data.toList.length + 1) + (b.data.toList.length + 1) by omega]
  have hpre : ∀ v : List P.Wd, PreL (ws.map toS) ((ws ++ v).map toS) := by
    intro v
    refine ⟨by simp, fun i hi => ?_⟩
    rw [List.length_map] at hi
    rw [rdS_at ws i hi, rdS_at (ws ++ v) i (by rw [List.length_append]; omega), List.getElem_append_left hi]
  have hsz : s.data.toList.length = s.size := by simp
  rcases P.lineF_app b.data.toList (s.data.toList.length + 1) s.data.toList 0 [] ws (by omega) h (b.data.toList.length + 1) (by omega) with h1 | ⟨k2, h2, h3⟩
  · rw [h1] at e
    exact .inr ⟨_, by have := hpre []; rwa [List.append_nil] at this, e⟩
  · rw [h3] at e
    have hall := P.lineF_all k2 b.data.toList (0 + s.data.toList.length + 1) ws h2
    revert hall e
    cases P.lineF k2 b.data.toList (0 + s.data.toList.length + 1) ws with
    | inl p => rintro e ⟨h4, _⟩; exact .inl ⟨p, by omega, e⟩
    | inr wt => rintro e ⟨v, rfl, _, _⟩; exact .inr ⟨_, hpre v, e⟩
attribute [local go_sem high] eqW

/-- Line where it answers words. -/
theorem line_ok (ad : Int → Addr) (s : ByteArray) (ls : List S82) (w : World) (hs : SentsK ad w) (hr : lineR s = (ls, 0, -1)) : Calls Tryd.prog 34 #[.string s] w fun e w' => ∃ A c, e = .returned (.tuple #[.slice A ls.length c, .nilIface]) ∧ Aside0 (ls.length ≤ c ∧ Kd.C k82 w' A ls.length ls ∧ Below w.heap.size w w') := by
  refine (Line_calls ad _ w (SentsK.two hs)).mono ?_
  rintro e w' ⟨v, u, rfl, ⟨r, pe, b⟩⟩
  rw [hr] at r pe
  obtain ⟨A, c, rfl⟩ := Kd.R_slice r
  obtain rfl : u = .nilIface := by
    rcases pe with h | h | h
    · exact h.2.2
    · exact absurd h.1.1 (by show ¬ (1 : Int) ≤ 0; decide)
    · exact absurd h.1.1 (by show ¬ (1 : Int) ≤ 0; decide)
  have := Kd.R_reads' r
  exact ⟨A, c, rfl, ⟨this.2.1, this.2.2, b⟩⟩
/-- Line where it answers an error. -/
theorem line_err (ad : Int → Addr) (s : ByteArray) (k p : Int) (w : World) (hs : SentsK ad w) (hr : lineR s = ([], k, p)) (hk : 1 ≤ k) : Calls Tryd.prog 34 #[.string s] w fun e w' => ∃ A c t u, e = .returned (.tuple #[.slice A 0 c, .iface t u]) ∧ Aside0 (PErrV ad w' (.iface t u) (k, p) ∧ Below w.heap.size w w') := by
  refine (Line_calls ad _ w (SentsK.two hs)).mono ?_
  rintro e w' ⟨v, u, rfl, ⟨r, pe, b⟩⟩
  rw [hr] at r pe
  obtain ⟨A, c, rfl⟩ := Kd.R_slice r
  have hu : ∃ t x, u = .iface t x := by
    rcases pe with h | h | ⟨_, b, h, _⟩
    · exact absurd h.1 (by show ¬ k = 0; omega)
    · exact ⟨_, _, h.2.2⟩
    · exact ⟨_, _, h⟩
  obtain ⟨t, x, rfl⟩ := hu
  exact ⟨A, c, t, x, rfl, ⟨pe, b⟩⟩

set_option maxHeartbeats 2000000 in
set_option maxRecDepth 100000 in
theorem Places_err (ad : Int → Addr) (s b : ByteArray) (k p : Int) (w : World) (hs : SentsK ad w) (hg : HandleP w) (hr : lineR s = ([], k, p)) (hk : k = 12 ∨ k = 2 ∧ 0 ≤ p ∧ p ≤ s.size) :
    Calls Tryd.prog 9 #[.string s, .string b] w fun e w' => e = .returned (.bool true) ∧ Below w.heap.size w w' := by
  have HC := Aside0.mk (fun W hW => line_err ad s k p W (hs.below hW) hr (by omega))
  have HK := Aside0.mk (known_calls ad w hs hg)
  have HS := Aside0.mk hs
  have HG := Aside0.mk hg
  clear hs hg hr
  rcases hk with rfl | ⟨rfl, h0, h1⟩
  · go_enter Tryd.func9, Tryd.ntmps9
    go_wp2_with (first
      | (go_at_call 50; go_loud ((with_reducible refine HK.out.mono ?_); rintro e w1 ⟨rfl, b1⟩; have B1 := Aside0.mk b1; clear b1))
      | (go_at_call 34; go_loud ((with_reducible refine (HC.out _ B1.out).mono ?_); rintro e w2 ⟨A, c, t, u, rfl, ⟨pe, b2⟩⟩; have PE2 := Aside0.mk pe; have B2 := Aside0.mk (B1.out.trans (b2.mono (below_size B1.out))); clear pe b2))
      | (go_at_call 32; go_loud ((with_reducible refine (Kind_pl (HS.out.below B2.out) PE2.out).mono ?_); rintro e w3 ⟨rfl, b3⟩; have B3 := Aside0.mk (B2.out.trans (b3.mono (below_size B2.out))); clear b3)))
    go_ret
    exact ⟨rfl, B3.out⟩
  · have d0 : decide ((0 : Int) ≤ p) = true := decide_eq_true h0
    have d1 : decide (p ≤ (s.size : Int)) = true := decide_eq_true h1
    clear h0 h1
    go_enter Tryd.func9, Tryd.ntmps9
    go_wp2_with (first
      | (go_at_call 50; go_loud ((with_reducible refine HK.out.mono ?_); rintro e w1 ⟨rfl, b1⟩; have B1 := Aside0.mk b1; clear b1))
      | (go_at_call 34; go_loud ((with_reducible refine (HC.out _ B1.out).mono ?_); rintro e w2 ⟨A, c, t, u, rfl, ⟨pe, b2⟩⟩; have PE2 := Aside0.mk pe; have B2 := Aside0.mk (B1.out.trans (b2.mono (below_size B1.out))); clear pe b2))
      | (go_at_call 32; go_loud ((with_reducible refine (Kind_pl (HS.out.below B2.out) PE2.out).mono ?_); rintro e w3 ⟨rfl, b3⟩; have B3 := Aside0.mk (B2.out.trans (b3.mono (below_size B2.out))); have PE3 := Aside0.mk (PE2.out.below b3); clear b3 PE2 B2))
      | (go_at_call 37; ((with_reducible refine (Place_pl (HG.out.below B3.out) PE3.out).mono ?_); rintro e w4 ⟨rfl, b4⟩; have B4 := Aside0.mk (B3.out.trans (b4.mono (below_size B3.out))); have PE4 := Aside0.mk (PE3.out.below b4); clear b4 PE3 B3))
      | (go_at_call 37; go_loud ((with_reducible refine (Place_pl (HG.out.below B4.out) PE4.out).mono ?_); rintro e w5 ⟨rfl, b5⟩; have B5 := Aside0.mk (B4.out.trans (b5.mono (below_size B4.out))); clear b5)))
    go_ret
    exact ⟨rfl, B5.out⟩

set_option maxHeartbeats 8000000 in
set_option maxRecDepth 100000 in
theorem Places_ok (ad : Int → Addr) (s b : ByteArray) (ls : List S82) (w : World) (hs : SentsK ad w) (hg : HandleP w) (mb : b.size ≤ 281474976710656) (ms : s.size ≤ 1048576) (hr : lineR s = (ls, 0, -1)) (hgood : GoodL s.size ls)
    (happ : lineR (s ++ ⟨#[32]⟩ ++ b) = ([], 12, -1) ∨ (∃ p : Nat, s.size < p ∧ lineR (s ++ ⟨#[32]⟩ ++ b) = ([], 2, (p : Int))) ∨ ∃ lt, PreL ls lt ∧ lineR (s ++ ⟨#[32]⟩ ++ b) = (lt, 0, -1)) :
    Calls Tryd.prog 9 #[.string s, .string b] w fun e w' => e = .returned (.bool true) ∧ Below w.heap.size w w' := by
  have HC := Aside0.mk (fun W hW => line_ok ad s ls W (hs.below hW) hr)
  have HK := Aside0.mk (known_calls ad w hs hg)
  have HS := Aside0.mk hs
  have HG := Aside0.mk hg
  have HGD := Aside0.mk hgood
  have HAP := Aside0.mk happ
  have MB := Lib.hid mb
  have MS := Lib.hid ms
  clear hs hg hr hgood happ mb ms
  go_enter Tryd.func9, Tryd.ntmps9
  go_wp2_with (first
    | (go_at_call 50; go_loud ((with_reducible refine HK.out.mono ?_); rintro e w1 ⟨rfl, b1⟩; have B1 := Aside0.mk b1; clear b1))
    | (go_at_call 34; go_loud ((with_reducible refine (HC.out _ B1.out).mono ?_); rintro e w2 ⟨A, c, rfl, ⟨hc, r, b2⟩⟩; have HCC := Lib.hid hc; have T2 := Aside0.mk (And.intro r (B1.out.trans (b2.mono (below_size B1.out)))); clear hc r b2)))
  go_loopw [7, 8] (fun z i wr => ∃ k : Nat, k ≤ ls.length ∧ i = .int .i64 k ∧ z = .int .i64 (lastZ ls k) ∧ Aside0 (Kd.C k82 wr A ls.length ls ∧ Below w.heap.size w wr)) (fun _ i _ => ls.length - (intOf i).toNat)
  case atStart => exact ⟨0, Nat.zero_le _, rfl, rfl, T2⟩
  case round =>
    clear T2
    obtain ⟨k, hk, rfl, rfl, T⟩ := hrel
    have hm := T.out.1.2.1
    by_cases hlt : k < ls.length
    · obtain ⟨a, rfl, f0, f1, f2⟩ := at_T82 T.out.1 (k : Int) (by omega) (by omega)
      rw [Int.toNat_natCast] at f0 f1 f2
      obtain ⟨g1, g2⟩ := HGD.out k hlt
      have HZ := Lib.hid (show lastZ ls (k + 1) = (rd_T82 ls (k : Int)).f2 from rfl)
      generalize rd_T82 ls (k : Int) = x at f0 f1 f2 g1 g2 HZ
      generalize hz : lastZ ls k = z at g1
      have d0 : decide (x.f2 ≤ z) = false := decide_eq_false (by omega)
      have d1 : decide ((s.size : Int) ≤ x.f2) = false := decide_eq_false (by omega)
      clear hz g1 g2
      go_wp2_with fail
      go_roundw
      case measure => simp [intOf]; omega
      case rel => exact ⟨k + 1, by omega, rfl, by rw [HZ.out], T⟩
    · have hkn : k = ls.length := by omega
      subst hkn
      have sz1 : (s ++ (⟨#[32]⟩ : ByteArray)).size = s.size + 1 := by rw [ByteArray.size_append]; rfl
      have MS' := MS.out
      have MB' := MB.out
      have hcat : ¬ 9223372036854775807 < s.size + 1 + b.size := by omega
      rcases HAP.out with h | ⟨p, hp, h⟩ | ⟨lt, hpre, h⟩
      · have HT := Aside0.mk (fun W hW => line_err ad _ 12 (-1) W (HS.out.below hW) h (by omega))
        clear h HAP
        go_wp2_with (first
          | (go_at_call 34; go_loud ((with_reducible refine (HT.out _ T.out.2).mono ?_); rintro e w3 ⟨A3, c3, t, u, rfl, ⟨pe, b3⟩⟩; have PE3 := Aside0.mk pe; have B3 := Aside0.mk (T.out.2.trans (b3.mono (below_size T.out.2))); clear pe b3))
          | (go_at_call 32; go_loud ((with_reducible refine (Kind_pl (HS.out.below B3.out) PE3.out).mono ?_); rintro e w4 ⟨rfl, b4⟩; have B4 := Aside0.mk (B3.out.trans (b4.mono (below_size B3.out))); clear b4)))
        go_ret
        exact ⟨rfl, B4.out⟩
      · have HT := Aside0.mk (fun W hW => line_err ad _ 2 p W (HS.out.below hW) h (by omega))
        have d1 : decide ((s.size : Int) < (p : Int)) = true := decide_eq_true (by omega)
        have d1' : decide (s.size < p) = true := decide_eq_true hp
        clear h HAP hp
        go_wp2_with (first
          | (go_at_call 34; go_loud ((with_reducible refine (HT.out _ T.out.2).mono ?_); rintro e w3 ⟨A3, c3, t, u, rfl, ⟨pe, b3⟩⟩; have PE3 := Aside0.mk pe; have B3 := Aside0.mk (T.out.2.trans (b3.mono (below_size T.out.2))); clear pe b3))
          | (go_at_call 32; go_loud ((with_reducible refine (Kind_pl (HS.out.below B3.out) PE3.out).mono ?_); rintro e w4 ⟨rfl, b4⟩; have B4 := Aside0.mk (B3.out.trans (b4.mono (below_size B3.out))); have PE4 := Aside0.mk (PE3.out.below b4); clear b4))
          | (go_at_call 37; go_loud ((with_reducible refine (Place_pl (HG.out.below B4.out) PE4.out).mono ?_); rintro e w5 ⟨rfl, b5⟩; have B5 := Aside0.mk (B4.out.trans (b5.mono (below_size B4.out))); clear b5)))
        go_ret
        exact ⟨rfl, B5.out⟩
      · have HT := Aside0.mk (fun W hW => line_ok ad _ lt W (HS.out.below hW) h)
        have HP := Aside0.mk hpre.2
        have d1 : decide ((lt.length : Int) < (ls.length : Int)) = false := decide_eq_false (by have := hpre.1; omega)
        have d1' : decide (lt.length < ls.length) = false := decide_eq_false (by have := hpre.1; omega)
        have hle := Lib.hid hpre.1
        clear h HAP hpre
        go_wp2_with (first
          | (go_at_call 34; go_loud ((with_reducible refine (HT.out _ T.out.2).mono ?_); rintro e w3 ⟨A3, c3, rfl, ⟨hc3, r3, b3⟩⟩; have HC3 := Lib.hid hc3; have T3 := Aside0.mk (And.intro (Kd.C_below T.out.1 b3) (And.intro r3 (T.out.2.trans (b3.mono (below_size T.out.2))))); clear hc3 r3 b3)))
        go_loopw [11] (fun i wr => ∃ k : Nat, k ≤ ls.length ∧ i = .int .i64 k ∧ Aside0 (Kd.C k82 wr A ls.length ls ∧ Kd.C k82 wr A3 lt.length lt ∧ Below w.heap.size w wr)) (fun i _ => ls.length - (intOf i).toNat)
        case atStart => exact ⟨0, Nat.zero_le _, rfl, T3⟩
        case round =>
          clear T3 d1 d1'
          obtain ⟨k, hk2, rfl, T4⟩ := hrel
          have hm := T4.out.1.2.1
          by_cases hlt2 : k < ls.length
          · have hl2 : k < lt.length := by have := hle.out; omega
            obtain ⟨a, rfl, f0, f1, f2⟩ := at_T82 T4.out.1 (k : Int) (by omega) (by omega)
            obtain ⟨a3, rfl, f3, f4, f5⟩ := at_T82 T4.out.2.1 (k : Int) (by omega) (by omega)
            rw [Int.toNat_natCast] at f0 f1 f2 f3 f4 f5
            rw [HP.out k hlt2] at f3 f4 f5
            generalize rd_T82 ls (k : Int) = x at f0 f1 f2 f3 f4 f5
            go_wp2_with fail
            go_quiet (fail)
            go_wp2_with fail
            go_roundw
            case measure => simp [intOf]; omega
            case rel => exact ⟨k + 1, by omega, rfl, ⟨Kd.C_below T4.out.1 (by first | exact pw_below_drewN (Below.refl _ _) _ | exact Below.refl _ _), Kd.C_below T4.out.2.1 (by first | exact pw_below_drewN (Below.refl _ _) _ | exact Below.refl _ _), by first | exact pw_below_drewN T4.out.2.2 _ | exact T4.out.2.2⟩⟩
          · have hkn : k = ls.length := by omega
            subst hkn
            go_wp2_with fail
            go_ret
            exact ⟨rfl, T4.out.2.2⟩
theorem WordsPlaces_calls (ad : Int → Addr) (s b : ByteArray) (w : World) (hs : SentsK ad w) (hg : HandleP w) (mb : b.size ≤ 281474976710656) :
    Calls Tryd.prog 9 #[.string s, .string b] w fun e w' => e = .returned (.bool true) ∧ Below w.heap.size w w' := by
  by_cases hl : 1048576 < s.size
  · exact Places_err ad s b 12 (-1) w hs hg (if_pos hl) (.inl rfl)
  have hsz : s.data.toList.length = s.size := by simp
  have hall := P.lineF_all (s.data.toList.length + 1) s.data.toList 0 [] (by omega)
  cases h : P.lineL s.data.toList with
  | inl p =>
    rw [show P.lineF (s.data.toList.length + 1) s.data.toList 0 [] = .inl p from h] at hall
    have h1 := hall.2
    exact Places_err ad s b 2 p w hs hg (by unfold lineR; rw [if_neg hl, h]; rfl) (.inr ⟨rfl, by omega, by omega⟩)
  | inr ws => exact Places_ok ad s b (ws.map toS) w hs hg mb (by omega) (by unfold lineR; rw [if_neg hl, h]; rfl) (good_of s ws h) (app_of s b ws h)
end Go.Proofs.YteaiejippkikpaaDoor.H
