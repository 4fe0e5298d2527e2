/- Layer 1: lives, NumTexts and NumBack, walked: each returns true. -/
import Derived.Test.YtbbojnjagaljmaaDoorNumP
import Derived.Lib.ItoaLen
namespace Go.Proofs.YtbbojnjagaljmaaDoor.Nu
open Go Go.RowKit Go.Shelf Go.Proofs Go.Proofs.YtbbojnjagaljmaaDoor Go.Proofs.YtbbojnjagaljmaaDoorW.PrintWords Go.Proofs.YtbbojnjagaljmaaDoor.Pu Go.Proofs.YtbbojnjagaljmaaDoor.X
set_option linter.unusedVariables false
set_option linter.unusedSimpArgs false
theorem parse40 : numP [45, 52, 48] (-40) 0 = (-40, 0) := by decide +kernel
theorem itoa40 : Sp.mk (Lib.itoa (-40)) = (⟨#[45, 52, 48]⟩ : ByteArray) := by
  have e : Lib.itoa (-40) = [45, 52, 48] := by
    unfold Lib.itoa
    rw [if_pos (by decide), show Int.natAbs (-40) = 40 from rfl, Lib.decDigits_two (by decide) (by decide)]
    rfl
  rw [e]; rfl
theorem nat912 : natB 6 ⟨#[103, 99, 99, 45, 57]⟩ ⟨#[103, 99, 99, 45, 49, 50]⟩ = -1 := by decide +kernel
set_option maxHeartbeats 1000000 in
set_option maxRecDepth 100000 in
theorem lives_calls (w : World) (hW : WT w) : Calls Tryd.prog 10 #[] w fun e w' => e = .returned (.bool true) ∧ Below w.heap.size w w' := by
  have HP : Hid (∀ W, WT W → Calls Tryd.prog 6 #[.string ⟨#[45, 52, 48]⟩, .int .i64 (-40), .int .i64 0] W fun e w' => e = .returned (.tuple #[.int .i64 (-40), .int .i64 0]) ∧ Below W.heap.size W w') := Lib.hid (fun W h => by
    have := parse_calls ⟨#[45, 52, 48]⟩ (-40) 0 W (by decide) h
    rw [show (⟨#[45, 52, 48]⟩ : ByteArray).data.toList = [45, 52, 48] from rfl, parse40] at this
    exact this)
  have HT : Hid (∀ W, WT W → Calls Tryd.prog 8 #[.int .i64 (-40)] W fun e w' => e = .returned (.string ⟨#[45, 52, 48]⟩) ∧ Below W.heap.size W w') := Lib.hid (fun W h => by
    have := text_calls (-40) W (by decide) (by decide) h
    rw [itoa40] at this
    exact this)
  have HN : Hid (∀ W, Calls Tryd.prog 11 #[.string ⟨#[103, 99, 99, 45, 57]⟩, .string ⟨#[103, 99, 99, 45, 49, 50]⟩] W fun e w' => e = .returned (.int .i64 (-1)) ∧ Below W.heap.size W w') := Lib.hid (fun W => by
    have := natural_calls ⟨#[103, 99, 99, 45, 57]⟩ ⟨#[103, 99, 99, 45, 49, 50]⟩ W (by decide) (by decide)
    rw [show (⟨#[103, 99, 99, 45, 57]⟩ : ByteArray).size + 1 = 6 from rfl, nat912] at this
    exact this)
  have HW := Lib.hid hW
  clear hW
  go_enter Tryd.func10, Tryd.ntmps10
  go_wp2_with (first | (go_at_call 6; refine (HP.out _ HW.out).mono ?_; rintro e w2 ⟨rfl, hb2⟩) | (go_at_call 8; refine (HT.out _ (HW.out.below hb2)).mono ?_; rintro e w3 ⟨rfl, hb3⟩) | (go_at_call 11; refine (HN.out _).mono ?_; rintro e w4 ⟨rfl, hb4⟩))
  go_ret
  exact ⟨rfl, hb2.trans ((hb3.mono hb2.size).trans (hb4.mono (Nat.le_trans hb2.size hb3.size)))⟩
theorem wf_in {n : Int} (h : (Lit.int .i64 n).wf = true) : -9223372036854775808 ≤ n ∧ n ≤ 9223372036854775807 := by
  simp only [Lit.wf, Bool.and_eq_true, decide_eq_true_eq] at h
  exact h
set_option maxHeartbeats 1000000 in
set_option maxRecDepth 100000 in
theorem numTexts_calls (n : Int) (s : ByteArray) (low : Int) (w : World) (hW : WT w) (hs : s.size ≤ 1048576) (hn : (Lit.int .i64 n).wf = true) (hl : (Lit.int .i64 low).wf = true) :
    Calls Tryd.prog 3 #[.int .i64 n, .string s, .int .i64 low] w fun e w' => e = .returned (.bool true) ∧ Below w.heap.size w w' := by
  obtain ⟨k1, hk1⟩ := Ev.rounds (ref_parse s low n (by omega))
  obtain ⟨h0, h1⟩ := wf_in hn
  obtain ⟨k2, hk2⟩ := Ev.rounds (ref_text n h0 h1)
  have HP := Lib.hid (fun W h => parse_calls s low n W (by omega) h)
  have HR := Lib.hid (fun W => linhayref01_Parse.calls k1 s low n (numP s.data.toList low n).1 (numP s.data.toList low n).2 W hk1)
  have HT := Lib.hid (fun W h => text_calls n W h0 h1 h)
  have HS := Lib.hid (fun W => linhayref01_Text.calls k2 n (Sp.mk (Lib.itoa n)) W hk2)
  have HL := Lib.hid (fun W h => lives_calls W h)
  have HW := Lib.hid hW
  generalize (numP s.data.toList low n).1 = p1 at *
  generalize (numP s.data.toList low n).2 = p2 at *
  generalize Sp.mk (Lib.itoa n) = tx at *
  clear hk1 hk2 h0 h1 hW
  have e1 : (tx.toList == tx.toList) = true := by simp
  go_enter Tryd.func3, Tryd.ntmps3
  go_wp2_with (first
    | (go_at_call 6; refine (HP.out _ HW.out).mono ?_; rintro e w2 ⟨rfl, hb2⟩; have HB2 := Lib.hid hb2; clear hb2)
    | (go_at_call 7; refine (HR.out _).mono ?_; rintro e w3 ⟨rfl, hd3⟩; have HB3 := Lib.hid (HB2.out.trans (hd3.below.mono HB2.out.size)); clear hd3)
    | (go_at_call 8; refine (HT.out _ (HW.out.below HB3.out)).mono ?_; rintro e w4 ⟨rfl, hb4⟩; have HB4 := Lib.hid (HB3.out.trans (hb4.mono HB3.out.size)); clear hb4)
    | (go_at_call 9; refine (HS.out _).mono ?_; rintro e w5 ⟨rfl, hb5⟩; have HB5 := Lib.hid (HB4.out.trans (hb5.mono HB4.out.size)); clear hb5)
    | (go_at_call 10; refine (HL.out _ (HW.out.below HB5.out)).mono ?_; rintro e w6 ⟨rfl, hb6⟩))
  go_ret
  exact ⟨rfl, HB5.out.trans (hb6.mono HB5.out.size)⟩
set_option maxHeartbeats 1000000 in
set_option maxRecDepth 100000 in
theorem numBack_calls (n low high : Int) (w : World) (hW : WT w) (hn : (Lit.int .i64 n).wf = true) (hl : (Lit.int .i64 low).wf = true) (hh : (Lit.int .i64 high).wf = true) :
    Calls Tryd.prog 4 #[.int .i64 n, .int .i64 low, .int .i64 high] w fun e w' => e = .returned (.bool true) ∧ Below w.heap.size w w' := by
  obtain ⟨h0, h1⟩ := wf_in hn
  obtain ⟨b1, b2, b3⟩ := back_num n low high h0 h1
  have hsz : (Sp.mk (Lib.itoa n)).size < 4294967281 := by
    have := Lib.itoa_length_le n h0 h1
    rw [Sp.mk_size]
    omega
  have hq : numP (Lib.itoa n) low high = if n < low ∨ n > high then (0, 4) else (n, 0) := by
    unfold numP
    rw [if_pos b1, b2, if_neg (by simp), b3]
  have HP := Lib.hid (fun W h => parse_calls (Sp.mk (Lib.itoa n)) low high W hsz h)
  rw [Sp.mk_data, hq] at HP
  have HT := Lib.hid (fun W h => text_calls n W h0 h1 h)
  have HL := Lib.hid (fun W h => lives_calls W h)
  have HW := Lib.hid hW
  generalize Sp.mk (Lib.itoa n) = tx at *
  clear b1 b2 b3 hsz hq h0 h1 hW
  by_cases c : n < low ∨ n > high
  · rw [if_pos c] at HP
    by_cases c1 : n < low
    · clear c
      go_enter Tryd.func4, Tryd.ntmps4
      go_wp2_with (first
        | (go_at_call 8; refine (HT.out _ HW.out).mono ?_; rintro e w4 ⟨rfl, hb4⟩; have HB4 := Lib.hid hb4; clear hb4)
        | (go_at_call 6; refine (HP.out _ (HW.out.below HB4.out)).mono ?_; rintro e w2 ⟨rfl, hb2⟩; have HB2 := Lib.hid (HB4.out.trans (hb2.mono HB4.out.size)); clear hb2)
        | (go_at_call 10; refine (HL.out _ (HW.out.below HB2.out)).mono ?_; rintro e w6 ⟨rfl, hb6⟩))
      go_ret
      exact ⟨rfl, HB2.out.trans (hb6.mono HB2.out.size)⟩
    · have c2 : low ≤ n := by omega
      have c3 : high < n := by omega
      have d3 : decide (n ≤ high) = false := decide_eq_false (by omega)
      clear c c1
      go_enter Tryd.func4, Tryd.ntmps4
      go_wp2_with (first
        | (go_at_call 8; refine (HT.out _ HW.out).mono ?_; rintro e w4 ⟨rfl, hb4⟩; have HB4 := Lib.hid hb4; clear hb4)
        | (go_at_call 6; refine (HP.out _ (HW.out.below HB4.out)).mono ?_; rintro e w2 ⟨rfl, hb2⟩; have HB2 := Lib.hid (HB4.out.trans (hb2.mono HB4.out.size)); clear hb2)
        | (go_at_call 10; refine (HL.out _ (HW.out.below HB2.out)).mono ?_; rintro e w6 ⟨rfl, hb6⟩))
      go_ret
      exact ⟨rfl, HB2.out.trans (hb6.mono HB2.out.size)⟩
  · rw [if_neg c] at HP
    have c2 : low ≤ n := by omega
    have c3 : n ≤ high := by omega
    clear c
    go_enter Tryd.func4, Tryd.ntmps4
    go_wp2_with (first
      | (go_at_call 8; refine (HT.out _ HW.out).mono ?_; rintro e w4 ⟨rfl, hb4⟩; have HB4 := Lib.hid hb4; clear hb4)
      | (go_at_call 6; refine (HP.out _ (HW.out.below HB4.out)).mono ?_; rintro e w2 ⟨rfl, hb2⟩; have HB2 := Lib.hid (HB4.out.trans (hb2.mono HB4.out.size)); clear hb2)
      | (go_at_call 10; refine (HL.out _ (HW.out.below HB2.out)).mono ?_; rintro e w6 ⟨rfl, hb6⟩))
    go_ret
    exact ⟨rfl, HB2.out.trans (hb6.mono HB2.out.size)⟩
end Go.Proofs.YtbbojnjagaljmaaDoor.Nu
