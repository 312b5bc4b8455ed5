/- words.Line: a line's words. -/
import Derived.Test.YteaiejippkikpaaDoorLineB
import Derived.Test.YteaiejippkikpaaDoorLwx2
set_option linter.unusedVariables false
set_option linter.unusedSimpArgs false
namespace Go.Proofs.YteaiejippkikpaaDoor.H
open Go.RowKit Go.Proofs.YteaiejippkikpaaDoorW.PrintWords Go.Proofs.YteaiejippkikpaaDoorW.PrintLast Go.Proofs.YteaiejippkikpaaDoorW.PrintMore Go.Proofs.YteaiejippkikpaaDoor.Lw

theorem infoWord : (Tryd.prog.info? 82).map (fun i => (i.zero, i.size, i.bytes)) = some (some (.agg #[(.string ⟨#[]⟩), (.bool false), (.int .i64 0)]), 3, 32) := by kernel_rfl
/-- A word, as the program has it. -/
def toS (x : P.Wd) : S82 := ⟨⟨x.1.toArray⟩, x.2.1, (x.2.2 : Int)⟩
/-- What Line answers: the words, the error's number, its place. -/
def lineOf : Nat ⊕ List P.Wd → List S82 × Int × Int
  | .inl p => ([], 2, (p : Int))
  | .inr l => (l.map toS, 0, -1)
def lineR (s : ByteArray) : List S82 × Int × Int := if 1048576 < s.size then ([], 12, -1) else lineOf (P.lineL s.data.toList)
/-- An error value: none, a sentinel, a place's. -/
def PErrV (ad : Int → Addr) (w : World) (v : Value) (p : Int × Int) : Prop :=
  (p.1 = 0 ∧ p.2 = -1 ∧ v = .nilIface) ∨ ((1 ≤ p.1 ∧ p.1 ≤ 15) ∧ p.2 = -1 ∧ v = .iface 185 (.pointer (some (ad p.1)))) ∨
  ((1 ≤ p.1 ∧ p.1 ≤ 15) ∧ ∃ b, v = .iface 120 (.pointer (some ⟨b, 0, none⟩)) ∧ w.heap[b]? = some (.cells #[.int .i64 p.2, .iface 185 (.pointer (some (ad p.1)))] 123 (0, 0)))
/-- The two sentinels that Line tells. -/
def SentW (ad : Int → Addr) (w : World) : Prop := w.cell? ⟨3, 0, none⟩ = some (.iface 185 (.pointer (some (ad 2)))) ∧ w.cell? ⟨11, 0, none⟩ = some (.iface 185 (.pointer (some (ad 12))))
theorem SentW.below {ad : Int → Addr} {w w' : World} (h : SentW ad w) (hb : Below w.heap.size w w') : SentW ad w' := ⟨(hb.cell (World.block_lt_of_cell? w _ h.1)).trans h.1, (hb.cell (World.block_lt_of_cell? w _ h.2)).trans h.2⟩
def LinePost (ad : Int → Addr) (s : ByteArray) (w : World) (e : Ending) (w' : World) : Prop := ∃ v u, e = .returned (.tuple #[v, u]) ∧ Aside0 (Kd.R k82 82 w' w.heap.size (fun _ => True) v (lineR s).1 ∧ PErrV ad w' u (lineR s).2 ∧ Below w.heap.size w w')
theorem LinePost.err {ad : Int → Addr} {s : ByteArray} {w wr : World} {j : Nat} (hr : lineR s = ([], 2, (j : Int))) (hb : Below w.heap.size w wr) : LinePost ad s w (.returned (.tuple #[.slice none 0 0, .iface 120 (.pointer (some ⟨wr.heap.size, 0, none⟩))])) (wr.alloc (.cells #[.int .i64 (j : Int), .iface 185 (.pointer (some (ad 2)))] 123)) := by
  refine ⟨_, _, rfl, ⟨?_, ?_, hb.alloc (below_size hb) _⟩⟩
  · rw [hr]; exact Kd.R_nil _ _ _ _ _
  · rw [hr]; exact .inr (.inr ⟨by show (1 : Int) ≤ 2 ∧ (2 : Int) ≤ 15; decide, wr.heap.size, rfl, heap_alloc_new wr _⟩)
theorem LinePost.ok {ad : Int → Addr} {s : ByteArray} {w wr : World} {l : List P.Wd} {v : Value} (hr : lineR s = (l.map toS, 0, -1)) (ho : Kd.R k82 82 wr w.heap.size (fun _ => True) v (l.map toS)) (hb : Below w.heap.size w wr) : LinePost ad s w (.returned (.tuple #[v, .nilIface])) wr := by
  refine ⟨_, _, rfl, ⟨?_, ?_, hb⟩⟩
  · rw [hr]; exact ho
  · rw [hr]; exact .inl ⟨rfl, rfl, rfl⟩
theorem after_at (s : ByteArray) (i : Nat) (h : i < s.size) : P.after (s.data.toList.drop i) = P.blankB s[i] := by rw [drop_at s i h]; rfl
theorem extract_lit (s : ByteArray) (i j : Nat) (h : i ≤ j) (hj : j ≤ s.size) : s.extract i j = ⟨((s.data.toList.drop i).take (j - i)).toArray⟩ := by
  have : (s.extract i j).data.toList = (s.data.toList.drop i).take (j - i) := by
    rw [ByteArray.data_extract, Array.toList_extract, List.extract_eq_take_drop]
  rw [← this]
theorem take_while (l : List UInt8) (p : UInt8 → Bool) : l.takeWhile p = l.take (l.takeWhile p).length := (List.prefix_iff_eq_take.1 (List.takeWhile_prefix p))

set_option maxHeartbeats 1000000 in
set_option maxRecDepth 100000 in
theorem Line_long (ad : Int → Addr) (s : ByteArray) (w : World) (hg : SentW ad w) (hs : 1048576 < s.size) :
    Calls Tryd.prog 34 #[.string s] w (LinePost ad s w) := by
  have hr : lineR s = ([], 12, -1) := if_pos hs
  obtain ⟨g1, g2⟩ := hg
  have d1 : decide ((1048576 : Int) < s.size) = true := decide_eq_true (by omega)
  have d1' : decide (1048576 < s.size) = true := decide_eq_true hs
  go_enter Tryd.func34, Tryd.ntmps34
  go_wp2
  go_step3
  go_wp2_with fail
  go_quiet (fail)
  go_wp2_with fail
  (try rw [Exit.noGoto_ret]); go_ret2
  refine ⟨_, _, rfl, ⟨?_, ?_, by first | exact pw_below_drewN (Below.refl _ w) _ | exact Below.refl _ w⟩⟩
  · rw [hr]; exact Kd.R_nil _ _ _ _ _
  · rw [hr]; exact .inr (.inl ⟨by show (1 : Int) ≤ 12 ∧ (12 : Int) ≤ 15; decide, rfl, rfl⟩)

set_option maxHeartbeats 16000000 in
set_option maxRecDepth 100000 in
theorem Line_short (ad : Int → Addr) (s : ByteArray) (w : World) (hg : SentW ad w) (hs : s.size ≤ 1048576) :
    Calls Tryd.prog 34 #[.string s] w (LinePost ad s w) := by
  obtain ⟨q, hq⟩ : ∃ q, P.lineL s.data.toList = q := ⟨_, rfl⟩
  have HR := Lib.hid (show lineR s = lineOf q by rw [← hq]; exact if_neg (by omega))
  have hq' : P.lineF (s.size + 1) (s.data.toList.drop 0) 0 [] = q := by rw [← hq, P.lineL]; simp
  have HQ := Lib.hid hq'
  have HG : Aside0 (∀ W, Below w.heap.size w W → W.cell? ⟨3, 0, none⟩ = some (.iface 185 (.pointer (some (ad 2))))) := ⟨fun W hW => (hg.below hW).1⟩
  have HS := Lib.hid hs
  have d1 : decide ((1048576 : Int) < s.size) = false := decide_eq_false (by omega)
  have d1' : decide (1048576 < s.size) = false := decide_eq_false (by omega)
  clear hq hq' hg
  go_enter Tryd.func34, Tryd.ntmps34
  go_wp2
  go_step3
  go_wp2
  go_step3
  go_wp2_with fail
  go_loopw [4, 5, 6, 7, 8, 9, 10] (fun o i _ _ _ _ _ wr => ∃ (k j : Nat) (out : List P.Wd), j ≤ s.size ∧ i = .int .i64 j ∧ out.length ≤ j ∧ Aside0 (Kd.R k82 82 wr w.heap.size (fun _ => True) o (out.map toS) ∧ Below w.heap.size w wr) ∧ Hid (s.size - j < k) ∧ Hid (P.lineF k (s.data.toList.drop j) j out = q)) (fun _ i _ _ _ _ _ _ => s.size - (intOf i).toNat)
  case atStart => exact ⟨_, 0, [], by omega, rfl, by simp, ⟨Kd.R_nil _ _ _ _ _, Below.refl _ w⟩, Lib.hid (by omega), HQ⟩
  case round =>
    clear HQ d1 d1'
    obtain ⟨k, j, out, hj, rfl, hol, T, hk, HQ⟩ := hrel
    obtain ⟨k, rfl⟩ : ∃ k', k = k' + 1 := ⟨k - 1, by have := hk.out; omega⟩
    have HL := Lib.hid (show out.length ≤ 1048576 by omega)
    by_cases hlt : j < s.size
    · have hd := drop_at s j hlt
      have hcb := s[j].toNat_lt
      have hat0 := s_at s j hlt
      have hq := HQ.out
      have hqd := Quoted_calls s j
      generalize hcc : s[j] = c at *
      have x34 : c = 34 ↔ c.toNat = 34 := u8_iff c 34 (by omega)
      have x35 : c = 35 ↔ c.toNat = 35 := u8_iff c 35 (by omega)
      rw [hd] at hq
      unfold P.lineF at hq
      have BB := fun W => Blank_b c W
      cases hbc : P.blankB c with
      | true =>
        rw [hbc] at BB hq
        rw [if_pos rfl] at hq
        have HE := Lib.hid hq
        have BB' := Aside0.mk BB
        clear hq BB x34 x35 hd HQ hqd
        go_wp2_with (go_at_call 76; (with_reducible refine (BB'.out _).mono ?_); rintro e w' ⟨rfl, rfl⟩)
        go_roundw
        case measure => simp [intOf]; omega
        case rel => exact ⟨k, j + 1, out, by omega, by go_num, by omega, T, Lib.hid (by have := hk.out; omega), HE⟩
      | false =>
      rw [hbc] at BB hq
      rw [if_neg (by decide)] at hq
      have BB' := Aside0.mk BB
      clear BB
      by_cases c35 : c.toNat = 35
      · have e1 : ((c.toNat : Int) == 35) = true := beq_iff_eq.2 (by omega)
        rw [if_pos (x35.2 c35)] at hq
        have HE := Lib.hid (show lineR s = (out.map toS, 0, -1) by rw [HR.out, ← hq]; rfl)
        clear hq x34 x35 hd HQ hqd c35
        go_wp2_with (go_at_call 76; (with_reducible refine (BB'.out _).mono ?_); rintro e w' ⟨rfl, rfl⟩)
        (try rw [Exit.noGoto_ret]); go_ret2
        exact LinePost.ok HE.out T.out.1 T.out.2
      have e1 : ((c.toNat : Int) == 35) = false := beq_eq_false_iff_ne.2 (by omega)
      rw [if_neg (fun h => c35 (x35.1 h))] at hq
      by_cases c34 : c.toNat = 34
      · have e2 : ((c.toNat : Int) == 34) = true := beq_iff_eq.2 (by omega)
        rw [if_pos (x34.2 c34)] at hq
        have hqe := P.quoF_end ((s.data.toList.drop (j + 1)).length + 1) (s.data.toList.drop (j + 1)) (j + 1) []
        rw [show P.quoF ((s.data.toList.drop (j + 1)).length + 1) (s.data.toList.drop (j + 1)) (j + 1) [] = P.quo (s.data.toList.drop (j + 1)) (j + 1) from rfl, List.length_drop, show s.data.toList.length = s.size by simp] at hqe
        rw [← hd] at hq
        have hqd' := hqd wr HS.out hlt
        generalize P.quo (s.data.toList.drop (j + 1)) (j + 1) = r at hq hqe hqd'
        obtain ⟨txt, p, ok⟩ := r
        dsimp only at hq hqe hqd'
        have hcall : Calls Tryd.prog 77 #[.string s, .int .i64 (j : Int)] wr fun e w' => e = .returned (.tuple #[.string ⟨txt.toArray⟩, .int .i64 (p : Int), .bool ok]) ∧ Aside0 (Kd.R k82 82 w' w.heap.size (fun _ => True) u4 (out.map toS) ∧ Below w.heap.size w w') := hqd'.mono fun _ _ h => ⟨h.1, ⟨Kd.R_below T.out.1 h.2, T.out.2.trans (h.2.mono (below_size T.out.2))⟩⟩
        have HC := Aside0.mk hcall
        clear hcall hqd' hqd HQ x34 x35 c34 c35
        cases ok with
        | false =>
          rw [if_neg (by decide)] at hq
          have HE := Lib.hid (show lineR s = ([], 2, (p : Int)) by rw [HR.out, ← hq]; rfl)
          clear hq hd
          go_wp2_with (first
            | (go_at_call 76; (with_reducible refine (BB'.out _).mono ?_); rintro e w' ⟨rfl, rfl⟩)
            | (go_at_call 77; (with_reducible refine HC.out.mono ?_); rintro e w1 ⟨rfl, T1⟩)
            | (go_at_call 78; (with_reducible refine (Wrong_calls _ (ad 2) _ (HG.out _ T1.out.2)).mono ?_); rintro e w9 ⟨rfl, rfl⟩))
          (try rw [Exit.noGoto_ret]); go_ret2
          exact LinePost.err HE.out T1.out.2
        | true =>
          have hp1 := hqe.2.2 rfl
          have hp2 : p ≤ s.size := by have := hqe.2.1; omega
          rw [if_pos rfl, List.drop_drop, show j + (p - j) = p by omega] at hq
          have HN := Aside0.mk (show (out ++ [(txt, true, j)]).map toS = out.map toS ++ [toS (txt, true, j)] by simp)
          clear hd hqe
          by_cases ht : p < s.size
          · have dl : decide ((p : Int) < (s.size : Int)) = true := decide_eq_true (by omega)
            have dl' : decide (p < s.size) = true := decide_eq_true ht
            have haf := after_at s p ht
            have hcb2 := s[p].toNat_lt
            have hat := s_at s p ht
            generalize hdd : s[p] = d at haf hcb2 hat
            have BD := fun W => Blank_b d W
            cases hbd : P.blankB d with
            | true =>
              rw [hbd] at haf BD
              rw [if_pos haf] at hq
              have HE := Lib.hid hq
              clear hq haf
              have BD' := Aside0.mk BD
              clear BD
              go_wp2_with (first | (go_at_call 76; (with_reducible refine (BB'.out wr).mono ?_); rintro e w' ⟨rfl, rfl⟩) | (go_at_call 77; (with_reducible refine HC.out.mono ?_); rintro e w1 ⟨rfl, T1⟩) | ((with_reducible refine gate_builtin (b := .append) (xs := #[.tmp 69, .tmp 73]) rfl ?_); at_builtin; refine Kd.R_append k82 (w0 := w) w.heap.size rfl (.tmp 69) (.tmp 73) 53 82 (.agg #[(.string ⟨#[]⟩), (.bool false), (.int .i64 0)]) 32 rfl Tryd.underlying53 infoWord rfl (by decide) (by omega) u4 (out.map toS) (toS (txt, true, j)) [.string ⟨txt.toArray⟩, .bool true, .int .i64 (j : Int)] (fun _ => True) (fun _ => False) rfl rfl ?aP (fun k_ hk_ => hk_.elim) ?aF ?aO ?aB ?aS ?aL ?_; (case aP => exact k82_mkM _ _ _ (toS (txt, true, j))); (case aB => exact T1.out.2); (case aF => exact (fun _ _ => trivial)); (case aO => exact T1.out.1); (case aS => exact (below_size T1.out.2)); (case aL => have := HL.out; simp only [List.length_map]; omega); intro v8 w8 ho hb hg hat; rw [← HN.out] at ho; have T8 := Aside0.mk (And.intro ho hb); clear ho hb hg hat) | (go_at_call 76; (with_reducible refine (BD'.out _).mono ?_); rintro e w9 ⟨rfl, rfl⟩))
              go_roundw
              case measure => simp [intOf]; omega
              case rel => exact ⟨k, p, out ++ [(txt, true, j)], by omega, rfl, by simp; omega, T8, Lib.hid (by have := hk.out; omega), HE⟩
            | false =>
              rw [hbd] at haf BD
              rw [if_neg (by rw [haf]; decide)] at hq
              have HE := Lib.hid (show lineR s = ([], 2, (((p : Nat)) : Int)) by rw [HR.out, ← hq]; rfl)
              clear hq haf
              have BD' := Aside0.mk BD
              clear BD
              go_wp2_with (first | (go_at_call 76; (with_reducible refine (BB'.out wr).mono ?_); rintro e w' ⟨rfl, rfl⟩) | (go_at_call 77; (with_reducible refine HC.out.mono ?_); rintro e w1 ⟨rfl, T1⟩) | ((with_reducible refine gate_builtin (b := .append) (xs := #[.tmp 69, .tmp 73]) rfl ?_); at_builtin; refine Kd.R_append k82 (w0 := w) w.heap.size rfl (.tmp 69) (.tmp 73) 53 82 (.agg #[(.string ⟨#[]⟩), (.bool false), (.int .i64 0)]) 32 rfl Tryd.underlying53 infoWord rfl (by decide) (by omega) u4 (out.map toS) (toS (txt, true, j)) [.string ⟨txt.toArray⟩, .bool true, .int .i64 (j : Int)] (fun _ => True) (fun _ => False) rfl rfl ?aP (fun k_ hk_ => hk_.elim) ?aF ?aO ?aB ?aS ?aL ?_; (case aP => exact k82_mkM _ _ _ (toS (txt, true, j))); (case aB => exact T1.out.2); (case aF => exact (fun _ _ => trivial)); (case aO => exact T1.out.1); (case aS => exact (below_size T1.out.2)); (case aL => have := HL.out; simp only [List.length_map]; omega); intro v8 w8 ho hb hg hat; rw [← HN.out] at ho; have T8 := Aside0.mk (And.intro ho hb); clear ho hb hg hat) | (go_at_call 76; (with_reducible refine (BD'.out _).mono ?_); rintro e w9 ⟨rfl, rfl⟩) | (go_at_call 78; (with_reducible refine (Wrong_calls _ (ad 2) _ (HG.out _ T8.out.2)).mono ?_); rintro e w9 ⟨rfl, rfl⟩))
              (try rw [Exit.noGoto_ret]); go_ret2
              exact LinePost.err HE.out T8.out.2
          · have hpn : p = s.size := by omega
            have haf : P.after (s.data.toList.drop p) = true := by rw [hpn, drop_end]; rfl
            have dl : decide ((p : Int) < (s.size : Int)) = false := decide_eq_false (by omega)
            have dl' : decide (p < s.size) = false := decide_eq_false ht
            rw [if_pos haf] at hq
            have HE := Lib.hid hq
            clear hq haf
            go_wp2_with (first | (go_at_call 76; (with_reducible refine (BB'.out wr).mono ?_); rintro e w' ⟨rfl, rfl⟩) | (go_at_call 77; (with_reducible refine HC.out.mono ?_); rintro e w1 ⟨rfl, T1⟩) | ((with_reducible refine gate_builtin (b := .append) (xs := #[.tmp 69, .tmp 73]) rfl ?_); at_builtin; refine Kd.R_append k82 (w0 := w) w.heap.size rfl (.tmp 69) (.tmp 73) 53 82 (.agg #[(.string ⟨#[]⟩), (.bool false), (.int .i64 0)]) 32 rfl Tryd.underlying53 infoWord rfl (by decide) (by omega) u4 (out.map toS) (toS (txt, true, j)) [.string ⟨txt.toArray⟩, .bool true, .int .i64 (j : Int)] (fun _ => True) (fun _ => False) rfl rfl ?aP (fun k_ hk_ => hk_.elim) ?aF ?aO ?aB ?aS ?aL ?_; (case aP => exact k82_mkM _ _ _ (toS (txt, true, j))); (case aB => exact T1.out.2); (case aF => exact (fun _ _ => trivial)); (case aO => exact T1.out.1); (case aS => exact (below_size T1.out.2)); (case aL => have := HL.out; simp only [List.length_map]; omega); intro v8 w8 ho hb hg hat; rw [← HN.out] at ho; have T8 := Aside0.mk (And.intro ho hb); clear ho hb hg hat) | fail)
            go_roundw
            case measure => simp [intOf]; omega
            case rel => exact ⟨k, p, out ++ [(txt, true, j)], by omega, by first | rfl | rw [hpn], by simp; omega, T8, Lib.hid (by have := hk.out; omega), HE⟩
      have e2 : ((c.toNat : Int) == 34) = false := beq_eq_false_iff_ne.2 (by omega)
      rw [if_neg (fun h => c34 (x34.1 h)), ← hd] at hq
      have HQ := Lib.hid hq
      have hbad : P.after (s.data.toList.drop j) = false := by rw [hd]; exact hbc
      clear hq x34 x35 c34 c35 hqd
      go_wp2_with (go_at_call 76; (with_reducible refine (BB'.out _).mono ?_); rintro e w' ⟨rfl, rfl⟩)
      go_loopw [5] (fun i wr => ∃ j2 : Nat, j ≤ j2 ∧ j2 ≤ s.size ∧ i = .int .i64 j2 ∧ Aside0 (Kd.R k82 82 wr w.heap.size (fun _ => True) u4 (out.map toS) ∧ Below w.heap.size w wr) ∧ Hid ((s.data.toList.drop j).dropWhile P.plainB = (s.data.toList.drop j2).dropWhile P.plainB) ∧ Hid (((s.data.toList.drop j).takeWhile P.plainB).length = (j2 - j) + ((s.data.toList.drop j2).takeWhile P.plainB).length)) (fun i _ => s.size - (intOf i).toNat)
      case atStart => exact ⟨j, Nat.le_refl _, by omega, rfl, T, Lib.hid rfl, Lib.hid (by omega)⟩
      case round =>
        clear T
        obtain ⟨j2, hj2, hj2s, rfl, T, HD, HT⟩ := hrel
        by_cases hlt2 : j2 < s.size
        · have hd2 := drop_at s j2 hlt2
          have hcb2 := s[j2].toNat_lt
          have hat2 := s_at s j2 hlt2
          have hcd : j2 = j → s[j2] = c := by rintro rfl; exact hcc
          generalize hdd : s[j2] = d at *
          have PD := fun W => Plain_b d W
          cases hpd : P.plainB d with
          | true =>
            rw [hpd] at PD
            have PD' := Aside0.mk PD
            clear PD
            have HD' := Lib.hid (show (s.data.toList.drop j).dropWhile P.plainB = (s.data.toList.drop (j2 + 1)).dropWhile P.plainB by rw [HD.out, hd2, List.dropWhile_cons, if_pos hpd])
            have HT' := Lib.hid (show ((s.data.toList.drop j).takeWhile P.plainB).length = (j2 + 1 - j) + ((s.data.toList.drop (j2 + 1)).takeWhile P.plainB).length by rw [HT.out, hd2, List.takeWhile_cons, if_pos hpd, List.length_cons]; omega)
            clear HD HT hd2 hd hcd hbad
            go_wp2_with (go_at_call 79; (with_reducible refine (PD'.out _).mono ?_); rintro e w' ⟨rfl, rfl⟩)
            go_roundw
            case measure => simp [intOf]; omega
            case rel => exact ⟨j2 + 1, by omega, by omega, by go_num, T, HD', HT'⟩
          | false =>
          rw [hpd] at PD
          have PD' := Aside0.mk PD
          clear PD
          have hdw : (s.data.toList.drop j).dropWhile P.plainB = s.data.toList.drop j2 := by rw [HD.out, hd2, List.dropWhile_cons, if_neg (by rw [hpd]; decide)]
          have htl : ((s.data.toList.drop j).takeWhile P.plainB).length = j2 - j := by rw [HT.out, hd2, List.takeWhile_cons, if_neg (by rw [hpd]; decide)]; simp
          have htw : (s.data.toList.drop j).takeWhile P.plainB = (s.data.toList.drop j).take (j2 - j) := by rw [← htl]; exact take_while _ _
          have hq := HQ.out
          rw [hdw, htw] at hq
          rw [show ((s.data.toList.drop j).take (j2 - j)).length = j2 - j by rw [← htw, htl], show j + (j2 - j) = j2 by omega] at hq
          by_cases hjj : j2 = j
          · subst hjj
            obtain rfl := hcd rfl
            have dg : decide ((j2 : Int) < (j2 : Int)) = false := decide_eq_false (by omega)
            have dg' : decide (j2 < j2) = false := decide_eq_false (by omega)
            rw [if_neg (by rw [hbad]; decide)] at hq
            have HE := Lib.hid (show lineR s = ([], 2, (j2 : Int)) by rw [HR.out, ← hq]; rfl)
            clear hq hdw htl htw HD HT hd2 hd hcd hbad
            go_wp2_with (first
              | (go_at_call 79; (with_reducible refine (PD'.out _).mono ?_); rintro e w' ⟨rfl, rfl⟩)
              | (go_at_call 76; (with_reducible refine (BB'.out _).mono ?_); rintro e w' ⟨rfl, rfl⟩)
              | (go_at_call 78; (with_reducible refine (Wrong_calls _ (ad 2) _ (HG.out _ T.out.2)).mono ?_); rintro e w9 ⟨rfl, rfl⟩))
            (try rw [Exit.noGoto_ret]); go_ret2
            exact LinePost.err HE.out T.out.2
          have dg : decide ((j : Int) < (j2 : Int)) = true := decide_eq_true (by omega)
          have dg' : decide (j < j2) = true := decide_eq_true (by omega)
          have hne : ¬ ((s.data.toList.drop j).take (j2 - j) = []) := by
            intro h
            have := congrArg List.length h
            rw [← htw, htl] at this
            simp at this; omega
          rw [if_neg hne] at hq
          have hxl := extract_lit s j j2 hj2 hj2s
          clear hdw htl htw HD HT hd hcd hbad hne
          generalize (s.data.toList.drop j).take (j2 - j) = txt at hq hxl
          have HN := Aside0.mk (show (out ++ [(txt, false, j)]).map toS = out.map toS ++ [toS (txt, false, j)] by simp)
          have haf : P.after (s.data.toList.drop j2) = P.blankB d := by rw [hd2]; rfl
          clear hd2
          have dl : decide ((j2 : Int) < (s.size : Int)) = true := decide_eq_true (by omega)
          have dl' : decide (j2 < s.size) = true := decide_eq_true hlt2
          have BD := fun W => Blank_b d W
          cases hbd : P.blankB d with
          | true =>
            rw [hbd] at haf BD
            rw [if_pos haf] at hq
            have HE := Lib.hid hq
            have BD' := Aside0.mk BD
            clear hq haf BD
            go_wp2_with (first
              | (go_at_call 79; (with_reducible refine (PD'.out _).mono ?_); rintro e w' ⟨rfl, rfl⟩)
              | ((with_reducible refine gate_builtin (b := .append) (xs := #[.tmp 38, .tmp 45]) rfl ?_); at_builtin; refine Kd.R_append k82 (w0 := w) w.heap.size rfl (.tmp 38) (.tmp 45) 53 82 (.agg #[(.string ⟨#[]⟩), (.bool false), (.int .i64 0)]) 32 rfl Tryd.underlying53 infoWord rfl (by decide) (by omega) u4 (out.map toS) (toS (txt, false, j)) [.string ⟨txt.toArray⟩, .bool false, .int .i64 (j : Int)] (fun _ => True) (fun _ => False) rfl rfl ?aP (fun k_ hk_ => hk_.elim) ?aF ?aO ?aB ?aS ?aL ?_; (case aP => exact k82_mkM _ _ _ (toS (txt, false, j))); (case aB => exact T.out.2); (case aF => exact (fun _ _ => trivial)); (case aO => exact T.out.1); (case aS => exact (below_size T.out.2)); (case aL => have := HL.out; simp only [List.length_map]; omega); intro v8 w8 ho hb hg hat; rw [← HN.out] at ho; have T8 := Aside0.mk (And.intro ho hb); clear ho hb hg hat)
              | (go_at_call 76; (with_reducible refine (BD'.out _).mono ?_); rintro e w' ⟨rfl, rfl⟩))
            go_roundw
            case measure => simp [intOf]; omega
            case rel => exact ⟨k, j2, out ++ [(txt, false, j)], by omega, rfl, by simp; omega, T8, Lib.hid (by have := hk.out; omega), HE⟩
          | false =>
            rw [hbd] at haf BD
            rw [if_neg (by rw [haf]; decide)] at hq
            have HE := Lib.hid (show lineR s = ([], 2, (j2 : Int)) by rw [HR.out, ← hq]; rfl)
            have BD' := Aside0.mk BD
            clear hq haf BD
            go_wp2_with (first
              | (go_at_call 79; (with_reducible refine (PD'.out _).mono ?_); rintro e w' ⟨rfl, rfl⟩)
              | ((with_reducible refine gate_builtin (b := .append) (xs := #[.tmp 38, .tmp 45]) rfl ?_); at_builtin; refine Kd.R_append k82 (w0 := w) w.heap.size rfl (.tmp 38) (.tmp 45) 53 82 (.agg #[(.string ⟨#[]⟩), (.bool false), (.int .i64 0)]) 32 rfl Tryd.underlying53 infoWord rfl (by decide) (by omega) u4 (out.map toS) (toS (txt, false, j)) [.string ⟨txt.toArray⟩, .bool false, .int .i64 (j : Int)] (fun _ => True) (fun _ => False) rfl rfl ?aP (fun k_ hk_ => hk_.elim) ?aF ?aO ?aB ?aS ?aL ?_; (case aP => exact k82_mkM _ _ _ (toS (txt, false, j))); (case aB => exact T.out.2); (case aF => exact (fun _ _ => trivial)); (case aO => exact T.out.1); (case aS => exact (below_size T.out.2)); (case aL => have := HL.out; simp only [List.length_map]; omega); intro v8 w8 ho hb hg hat; rw [← HN.out] at ho; have T8 := Aside0.mk (And.intro ho hb); clear ho hb hg hat)
              | (go_at_call 76; (with_reducible refine (BD'.out _).mono ?_); rintro e w' ⟨rfl, rfl⟩)
              | (go_at_call 78; (with_reducible refine (Wrong_calls _ (ad 2) _ (HG.out _ T8.out.2)).mono ?_); rintro e w9 ⟨rfl, rfl⟩))
            (try rw [Exit.noGoto_ret]); go_ret2
            exact LinePost.err HE.out T8.out.2
        · have hjn : j2 = s.size := by omega
          have hdw : (s.data.toList.drop j).dropWhile P.plainB = s.data.toList.drop j2 := by rw [HD.out, hjn, drop_end]; rfl
          have htl : ((s.data.toList.drop j).takeWhile P.plainB).length = j2 - j := by rw [HT.out, hjn, drop_end]; simp
          have htw : (s.data.toList.drop j).takeWhile P.plainB = (s.data.toList.drop j).take (j2 - j) := by rw [← htl]; exact take_while _ _
          have hq := HQ.out
          rw [hdw, htw] at hq
          rw [show ((s.data.toList.drop j).take (j2 - j)).length = j2 - j by rw [← htw, htl], show j + (j2 - j) = j2 by omega] at hq
          have dg : decide ((j : Int) < (j2 : Int)) = true := decide_eq_true (by omega)
          have dg' : decide (j < j2) = true := decide_eq_true (by omega)
          have dl : decide ((j2 : Int) < (s.size : Int)) = false := decide_eq_false (by omega)
          have dl' : decide (j2 < s.size) = false := decide_eq_false hlt2
          have hne : ¬ ((s.data.toList.drop j).take (j2 - j) = []) := by
            intro h
            have := congrArg List.length h
            rw [← htw, htl] at this
            simp at this; omega
          rw [if_neg hne] at hq
          have hxl := extract_lit s j j2 hj2 hj2s
          have haf : P.after (s.data.toList.drop j2) = true := by rw [hjn, drop_end]; rfl
          rw [if_pos haf] at hq
          clear hdw htl htw HD HT hd hbad hne haf hjn
          generalize (s.data.toList.drop j).take (j2 - j) = txt at hq hxl
          have HN := Aside0.mk (show (out ++ [(txt, false, j)]).map toS = out.map toS ++ [toS (txt, false, j)] by simp)
          have HE := Lib.hid hq
          clear hq
          go_wp2_with (first
            | ((with_reducible refine gate_builtin (b := .append) (xs := #[.tmp 38, .tmp 45]) rfl ?_); at_builtin; refine Kd.R_append k82 (w0 := w) w.heap.size rfl (.tmp 38) (.tmp 45) 53 82 (.agg #[(.string ⟨#[]⟩), (.bool false), (.int .i64 0)]) 32 rfl Tryd.underlying53 infoWord rfl (by decide) (by omega) u4 (out.map toS) (toS (txt, false, j)) [.string ⟨txt.toArray⟩, .bool false, .int .i64 (j : Int)] (fun _ => True) (fun _ => False) rfl rfl ?aP (fun k_ hk_ => hk_.elim) ?aF ?aO ?aB ?aS ?aL ?_; (case aP => exact k82_mkM _ _ _ (toS (txt, false, j))); (case aB => exact T.out.2); (case aF => exact (fun _ _ => trivial)); (case aO => exact T.out.1); (case aS => exact (below_size T.out.2)); (case aL => have := HL.out; simp only [List.length_map]; omega); intro v8 w8 ho hb hg hat; rw [← HN.out] at ho; have T8 := Aside0.mk (And.intro ho hb); clear ho hb hg hat)
            | fail)
          go_roundw
          case measure => simp [intOf]; omega
          case rel => exact ⟨k, j2, out ++ [(txt, false, j)], by omega, rfl, by simp; omega, T8, Lib.hid (by have := hk.out; omega), HE⟩
    · have hjn : j = s.size := by omega
      subst hjn
      have hq := HQ.out
      rw [drop_end] at hq
      unfold P.lineF at hq
      have HE := Lib.hid (show lineR s = (out.map toS, 0, -1) by rw [HR.out, ← hq]; rfl)
      clear hq HQ
      go_wp2_with fail
      (try rw [Exit.noGoto_ret]); go_ret2
      exact LinePost.ok HE.out T.out.1 T.out.2
theorem Line_calls (ad : Int → Addr) (s : ByteArray) (w : World) (hg : SentW ad w) : Calls Tryd.prog 34 #[.string s] w (LinePost ad s w) := by
  by_cases h : 1048576 < s.size
  · exact Line_long ad s w hg h
  · exact Line_short ad s w hg (by omega)
end Go.Proofs.YteaiejippkikpaaDoor.H
