/- Layer 1 walked: padding, and the law NumOrders. -/
import Derived.Test.YtbbojnjagaljmaaDoorNumQ
import Derived.Test.YtbbojnjagaljmaaDoorNumL
namespace Go.Proofs.YtbbojnjagaljmaaDoor.Nu
open Go Go.RowKit Go.Shelf Go.Proofs Go.Proofs.YtbbojnjagaljmaaDoor Go.Proofs.YtbbojnjagaljmaaDoorW.PrintWords Go.Proofs.YtbbojnjagaljmaaDoor.Pu Go.Proofs.YtbbojnjagaljmaaDoor.X Go.Proofs.YtbbojnjagaljmaaDoor.Ext
set_option linter.unusedVariables false
set_option linter.unusedSimpArgs false
theorem rep_calls (c : Nat) (h1 : 1 ≤ c) (h2 : c ≤ 4096) (w : World) :
    Calls Tryd.prog 27 #[.string ⟨#[32]⟩, .int .i64 (c : Int)] w fun e w' => e = .returned (.string (Sp.mk (List.replicate c 32))) ∧ Below w.heap.size w w' := by
  have e : ∀ c, (⟨(Lib.repeatL [32] c).toArray⟩ : ByteArray) = Sp.mk (List.replicate c 32) := by
    intro c
    rw [show ([32] : List UInt8) = List.replicate 1 32 from rfl, Lib.repeatL_replicate, Nat.mul_one]
    rfl
  by_cases h : c = 1
  · subst h
    refine (Tryd.strings_Repeat_one ⟨#[32]⟩ w).mono ?_
    rintro e w' ⟨rfl, rfl⟩
    exact ⟨rfl, Below.refl _ _⟩
  · have := Tryd.strings_Repeat_main ⟨#[32]⟩ c w (by omega) (by omega) (by rw [show (⟨#[32]⟩ : ByteArray).size = 1 from rfl]; omega) (by decide)
    rw [show (⟨#[32]⟩ : ByteArray).data.toList = [32] from rfl, e] at this
    exact this
set_option maxHeartbeats 1000000 in
set_option maxRecDepth 100000 in
theorem pad_calls (s : ByteArray) (n : Int) (w : World) (hs : s.size < 4294967296) :
    Calls Tryd.prog 13 #[.string s, .int .i64 n] w fun e w' => e = .returned (.string (padB s n)) ∧ Below w.heap.size w w' := by
  unfold padB
  by_cases h1 : n > 4096
  · rw [if_pos (.inl h1)]
    go_enter Tryd.func13, Tryd.ntmps13
    go_wp2
    go_ret
    exact ⟨rfl, Below.refl _ _⟩
  · by_cases h2 : n ≤ (s.size : Int)
    · rw [if_pos (.inr h2)]
      have h1' : ¬ 4096 < n := h1
      go_enter Tryd.func13, Tryd.ntmps13
      go_wp2
      go_ret
      exact ⟨rfl, Below.refl _ _⟩
    · rw [if_neg (by omega)]
      obtain ⟨c, rfl⟩ : ∃ c : Nat, n = (s.size : Int) + (c : Int) := ⟨(n - s.size).toNat, by omega⟩
      have hc1 : 1 ≤ c := by omega
      have hc2 : s.size + c ≤ 4096 := by omega
      rw [show ((s.size : Int) + (c : Int)).toNat - s.size = c by omega]
      have HR := Lib.hid (fun W => rep_calls c hc1 (by omega) W)
      have e1 : Sp.mk (s.data.toList ++ List.replicate c 32) = s ++ Sp.mk (List.replicate c 32) := by rw [Sp.mk_append, Sp.mk_of]
      rw [e1]
      have hz : (Sp.mk (List.replicate c 32)).size = c := by rw [Sp.mk_size, List.length_replicate]
      have hz2 : s.size + (Sp.mk (List.replicate c 32)).size ≤ 9223372036854775807 := by omega
      generalize Sp.mk (List.replicate c 32) = bl at *
      have h3 : ¬ 4096 < (s.size : Int) + (c : Int) := by omega
      have h4 : ¬ (s.size : Int) + (c : Int) ≤ (s.size : Int) := by omega
      have h5 : IntKind.i64.wrap ((s.size : Int) + (c : Int) - (s.size : Int)) = (c : Int) := by rw [IntKind.wrap_i64]; omega
      have h6 : IntKind.i64.wrap (c : Int) = (c : Int) := by rw [IntKind.wrap_i64]; omega
      clear e1 hz h1 h2
      go_enter Tryd.func13, Tryd.ntmps13
      go_wp2_with (go_at_call 27; refine (HR.out _).mono ?_; rintro e w2 ⟨rfl, hb2⟩)
      go_ret
      exact ⟨rfl, hb2⟩
theorem cmpL_rng (a b : List UInt8) : -1 ≤ cmpL a b ∧ cmpL a b ≤ 1 := by
  unfold cmpL
  repeat' split
  all_goals omega
theorem cmpI_rng (x y : Int) : -1 ≤ Lib.compareInt x y ∧ Lib.compareInt x y ≤ 1 := by
  unfold Lib.compareInt
  repeat' split
  all_goals omega
theorem or2_rng {c d : Int} (h1 : -1 ≤ c ∧ c ≤ 1) (h2 : -1 ≤ d ∧ d ≤ 1) : -1 ≤ or2 c d ∧ or2 c d ≤ 1 := by
  unfold or2
  split <;> assumption
theorem partF_rng (a b : ByteArray) : -1 ≤ partF a b ∧ partF a b ≤ 1 := by
  unfold partF
  split
  · exact or2_rng (or2_rng (cmpI_rng _ _) (cmpL_rng _ _)) (cmpL_rng _ _)
  · exact cmpL_rng _ _
theorem natB_rng : ∀ (k : Nat) (a b : ByteArray), -1 ≤ natB k a b ∧ natB k a b ≤ 1
  | 0, _, _ => by unfold natB; omega
  | k + 1, a, b => by
    rw [natB_one]
    split
    · exact cmpI_rng _ _
    · split
      · exact partF_rng _ _
      · exact natB_rng k _ _
set_option maxHeartbeats 1000000 in
set_option maxRecDepth 100000 in
theorem numOrders_calls (a b : ByteArray) (n : Int) (w : World) (hW : WT w) (ha : a.size ≤ 1048576) (hb : b.size ≤ 1048576) (hn : (Lit.int .i64 n).wf = true) :
    Calls Tryd.prog 5 #[.string a, .string b, .int .i64 n] w fun e w' => e = .returned (.bool true) ∧ Below w.heap.size w w' := by
  have HL := Lib.hid (fun W h => lives_calls W h)
  have HW := Lib.hid hW
  clear hW
  by_cases h1 : a.size > 2000
  · have h1' : 2000 < (a.size : Int) := by omega
    go_enter Tryd.func5, Tryd.ntmps5
    go_wp2_with (go_at_call 10; refine (HL.out _ HW.out).mono ?_; rintro e w6 ⟨rfl, hb6⟩)
    go_ret
    exact ⟨rfl, hb6⟩
  by_cases h2 : b.size > 2000
  · have h1' : ¬ 2000 < (a.size : Int) := by omega
    have h2' : 2000 < (b.size : Int) := by omega
    clear h1
    go_enter Tryd.func5, Tryd.ntmps5
    go_wp2_with (go_at_call 10; refine (HL.out _ HW.out).mono ?_; rintro e w6 ⟨rfl, hb6⟩)
    go_ret
    exact ⟨rfl, hb6⟩
  have h1' : ¬ 2000 < (a.size : Int) := by omega
  have h2' : ¬ 2000 < (b.size : Int) := by omega
  obtain ⟨k1, hk1⟩ := Ev.rounds (nat_ev (a.size + 1) a b (by omega) (by omega) (by omega))
  obtain ⟨k2, hk2⟩ := Ev.rounds (pad_ev a n)
  have HN := Lib.hid (fun W => natural_calls a b W (by omega) (by omega))
  have HM := Lib.hid (fun W => natural_calls b a W (by omega) (by omega))
  have hneg := natB_neg (a.size + 1) (b.size + 1) a b (by omega) (by omega)
  have hzero := natB_zero (a.size + 1) a b (by omega)
  have hrng := natB_rng (a.size + 1) a b
  rw [hneg] at HM
  have HRN := Lib.hid (fun W => linhayref01_Natural.calls k1 a b _ W hk1)
  have HP := Lib.hid (fun W => pad_calls a n W (by omega))
  have HRP := Lib.hid (fun W => linhayref01_Pad.calls k2 a n _ W hk2)
  generalize natB (a.size + 1) a b = C at *
  generalize padB a n = P at *
  have hPe : (P.toList == P.toList) = true := by simp
  clear hk1 hk2 hneg ha hb h1 h2
  by_cases he : a = b
  · obtain rfl := he
    obtain rfl : C = 0 := hzero.2 rfl
    clear hzero hrng
    have e1 : (a.toList == a.toList) = true := by simp
    rw [Int.neg_zero] at HM
    go_enter Tryd.func5, Tryd.ntmps5
    go_wp2_with (first
      | (go_at_call 11; (first | (refine (HN.out _).mono ?_)); rintro e w2 ⟨rfl, hb2⟩; first | (have HB3 := Lib.hid (HB2.out.trans (hb2.mono HB2.out.size)); clear hb2) | (have HB1 := Lib.hid hb2; clear hb2))
      | (go_at_call 12; refine (HRN.out _).mono ?_; rintro e w2 ⟨rfl, hb2⟩; have HB2 := Lib.hid (HB1.out.trans (hb2.mono HB1.out.size)); clear hb2)
      | (go_at_call 13; refine (HP.out _).mono ?_; rintro e w4 ⟨rfl, hb4⟩; have HB4 := Lib.hid (HB3.out.trans (hb4.mono HB3.out.size)); clear hb4)
      | (go_at_call 14; refine (HRP.out _).mono ?_; rintro e w5 ⟨rfl, hd5⟩; have HB5 := Lib.hid (HB4.out.trans (hd5.below.mono HB4.out.size)); clear hd5)
      | (go_at_call 10; refine (HL.out _ (HW.out.below HB5.out)).mono ?_; rintro e w6 ⟨rfl, hb6⟩))
    go_ret
    exact ⟨rfl, HB5.out.trans (hb6.mono HB5.out.size)⟩
  · have hC : C ≠ 0 := fun h => he (hzero.1 h)
    have e1 : (a.toList == b.toList) = false := by
      rw [beq_eq_false_iff_ne]
      exact fun h => he (toL_inj.1 h)
    have e2 : (C == 0) = false := by rw [beq_eq_false_iff_ne]; exact hC
    have e3 : IntKind.i64.wrap (-C) = -C := by rw [IntKind.wrap_i64]; omega
    have e4 : wrap64 (-C) = -C := by unfold wrap64; omega
    clear hzero hrng he
    go_enter Tryd.func5, Tryd.ntmps5
    go_wp2_with (first
      | (go_at_call 11; first | ((with_reducible refine (HN.out _).mono ?_); rintro e w2 ⟨rfl, hb2⟩; have HB1 := Lib.hid hb2; clear hb2) | ((with_reducible refine (HM.out _).mono ?_); rintro e w2 ⟨rfl, hb2⟩; have HB3 := Lib.hid (HB2.out.trans (hb2.mono HB2.out.size)); clear hb2))
      | (go_at_call 12; refine (HRN.out _).mono ?_; rintro e w2 ⟨rfl, hb2⟩; have HB2 := Lib.hid (HB1.out.trans (hb2.mono HB1.out.size)); clear hb2)
      | (go_at_call 13; refine (HP.out _).mono ?_; rintro e w4 ⟨rfl, hb4⟩; have HB4 := Lib.hid (HB3.out.trans (hb4.mono HB3.out.size)); clear hb4)
      | (go_at_call 14; refine (HRP.out _).mono ?_; rintro e w5 ⟨rfl, hd5⟩; have HB5 := Lib.hid (HB4.out.trans (hd5.below.mono HB4.out.size)); clear hd5)
      | (go_at_call 10; refine (HL.out _ (HW.out.below HB5.out)).mono ?_; rintro e w6 ⟨rfl, hb6⟩))
    go_ret
    exact ⟨rfl, HB5.out.trans (hb6.mono HB5.out.size)⟩
end Go.Proofs.YtbbojnjagaljmaaDoor.Nu
