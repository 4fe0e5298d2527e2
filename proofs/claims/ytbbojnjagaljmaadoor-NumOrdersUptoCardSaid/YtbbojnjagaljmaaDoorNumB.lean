/- The reference of layer 1: a number's text, and what a text is, as plain functions. -/
import Derived.Test.YtbbojnjagaljmaaDoorNumA
import Derived.Test.YtbbojnjagaljmaaDoorX1
import Derived.Test.YtbbojnjagaljmaaDoorX2
namespace Go.Proofs.YtbbojnjagaljmaaDoor.Nu
open Go Go.RowKit Go.Proofs Go.Proofs.YtbbojnjagaljmaaDoor Go.Proofs.YtbbojnjagaljmaaDoorW.PrintWords Go.Proofs.YtbbojnjagaljmaaDoor.Pu Go.Proofs.YtbbojnjagaljmaaDoor.X
set_option linter.unusedVariables false
set_option linter.unusedSimpArgs false
def dgB (l : List UInt8) : Bool := l.all isD && (decide (l ≠ []) && (!(decide (l.head? = some 48)) || decide (l.length = 1)))
theorem digits_l0 (s : ByteArray) (hs : s.size < 4294967296) : ∀ (d i : Nat), i + d = s.size → (s.data.toList.take i).all isD = true → Ev (fun k => linhayref01_digits.l0 k s (i : Int)) (dgB s.data.toList) := by
  intro d
  induction d with
  | zero =>
    intro i hi ht
    rw [List.take_of_length_le (by rw [← Sp.size_eq]; omega)] at ht
    refine Ev.step (fun k => by rw [linhayref01_digits.l0]) ?_
    refine ev_neg (by omega) ?_
    unfold dgB
    rw [ht, Bool.true_and, toL]
    by_cases h0 : s.data.toList = []
    · rw [h0]; exact ev_pos rfl (Ev.now _)
    · have hz : 0 < s.size := by rw [Sp.size_eq]; exact List.length_pos_iff.2 h0
      rw [decide_eq_true h0, Bool.true_and]
      refine ev_neg h0 (ev_pos (by omega) ?_)
      obtain ⟨c, hc, _⟩ := Pu.get_at s (i := 0) hz
      have hb := bt_nat hc
      rw [Int.ofNat_zero] at hb
      rw [hb]
      have hh : s.data.toList.head? = some c := by rw [List.head?_eq_getElem?]; exact hc
      rw [hh, ← Sp.size_eq]
      by_cases h48 : c = 48
      · subst h48
        rw [decide_eq_true rfl]
        refine ev_pos rfl ?_
        have : (((s.size : Nat) : Int) == 1) = (!true || decide (s.size = 1)) := by
          rw [Bool.eq_iff_iff]; simp; omega
        rw [← this]
        exact Ev.now _
      · have hne : ¬ ((c.toNat : Int) = 48) := fun e => h48 (UInt8.toNat_inj.1 (by have : (48 : UInt8).toNat = 48 := rfl; omega))
        rw [decide_eq_false (show ¬ some c = some (48 : UInt8) by simpa using h48)]
        exact ev_neg hne (Ev.now _)
  | succ d ih =>
    intro i hi ht
    have hlt : i < s.size := by omega
    obtain ⟨c, hc, hd⟩ := Pu.get_at s hlt
    have hl : i < s.data.toList.length := by rw [← Sp.size_eq]; exact hlt
    have hci : s.data.toList[i] = c := by rw [List.getElem?_eq_getElem hl] at hc; exact Option.some.inj hc
    refine Ev.step (fun k => by rw [linhayref01_digits.l0]) ?_
    refine ev_pos (by omega) (ev_pos (by omega) ?_)
    rw [bt_nat hc, w1 (by omega)]
    have no : isD c = false → dgB s.data.toList = false := by
      intro h
      unfold dgB
      rw [show s.data.toList.all isD = false by rw [List.all_eq_false]; exact ⟨c, by rw [← hci]; exact List.getElem_mem hl, by rw [h]; simp⟩, Bool.false_and]
    by_cases h1 : (c.toNat : Int) < 48
    · rw [no (decide_eq_false (by omega))]
      exact ev_pos h1 (Ev.now _)
    · by_cases h2 : (c.toNat : Int) > 57
      · rw [no (decide_eq_false (by omega))]
        exact ev_neg h1 (ev_pos h2 (Ev.now _))
      · refine ev_neg h1 (ev_neg h2 (ih (i + 1) (by omega) ?_))
        rw [List.take_succ_eq_append_getElem hl, List.all_append, ht, hci]
        simp [isD]; omega
theorem digits_ev (s : ByteArray) (hs : s.size < 4294967296) : Ev (fun k => linhayref01_digits.f k s) (dgB s.data.toList) := digits_l0 s hs s.size 0 (by omega) (by simp)
def finN (neg : Bool) (u : Nat) (low high : Int) : Int × Int :=
  if (if neg = true then decide (9223372036854775808 < u) else decide (9223372036854775808 ≤ u)) = true then (0, 4)
  else if (if neg = true then -(u : Int) else u) < low ∨ (if neg = true then -(u : Int) else u) > high then (0, 4) else ((if neg = true then -(u : Int) else u), 0)
theorem j4_ev (low high : Int) (neg : Bool) (u : Nat) (hu : u < 18446744073709551616) :
    Ev (fun k => linhayref01_Parse.j4 k low high neg (u : Int) (if neg = true then decide (9223372036854775808 < u) else decide (9223372036854775808 ≤ u))) (finN neg u low high) := by
  refine Ev.step (fun k => by rw [linhayref01_Parse.j4]) ?_
  cases neg with
  | true =>
    by_cases h : 9223372036854775808 < u
    · have e : finN true u low high = (0, 4) := by simp [finN, h]
      rw [e, show (if true = true then decide (9223372036854775808 < u) else decide (9223372036854775808 ≤ u)) = true from decide_eq_true h]; exact ev_pos rfl (Ev.now _)
    · have e : wrap64 (-(wrap64 (u : Int))) = -(u : Int) := by unfold wrap64; omega
      rw [show (if true = true then decide (9223372036854775808 < u) else decide (9223372036854775808 ≤ u)) = false from decide_eq_false h]
      refine ev_neg (by simp) (ev_pos rfl ?_)
      rw [e]
      by_cases h1 : -(u : Int) < low
      · have e : finN true u low high = (0, 4) := by simp [finN, h1]
        rw [e]; exact ev_pos h1 (Ev.now _)
      · by_cases h2 : -(u : Int) > high
        · have e : finN true u low high = (0, 4) := by simp [finN, h2]
          rw [e]; exact ev_neg h1 (ev_pos h2 (Ev.now _))
        · have e : finN true u low high = (-(u : Int), 0) := by simp [finN, h, h1, h2]
          rw [e]; exact ev_neg h1 (ev_neg h2 (Ev.now _))
  | false =>
    by_cases h : 9223372036854775808 ≤ u
    · have e : finN false u low high = (0, 4) := by simp [finN, h]
      rw [e, show (if false = true then decide (9223372036854775808 < u) else decide (9223372036854775808 ≤ u)) = true from decide_eq_true h]; exact ev_pos rfl (Ev.now _)
    · have e : wrap64 (u : Int) = (u : Int) := by unfold wrap64; omega
      rw [show (if false = true then decide (9223372036854775808 < u) else decide (9223372036854775808 ≤ u)) = false from decide_eq_false h]
      refine ev_neg (by simp) (ev_neg (by simp) ?_)
      rw [e]
      by_cases h1 : (u : Int) < low
      · have e : finN false u low high = (0, 4) := by simp [finN, h1]
        rw [e]; exact ev_pos h1 (Ev.now _)
      · by_cases h2 : (u : Int) > high
        · have e : finN false u low high = (0, 4) := by simp [finN, h2]
          rw [e]; exact ev_neg h1 (ev_pos h2 (Ev.now _))
        · have e : finN false u low high = ((u : Int), 0) := by simp [finN, h, h1, h2]
          rw [e]; exact ev_neg h1 (ev_neg h2 (Ev.now _))
theorem decA_fits {l : List UInt8} (h : l.all isD = true) (hl : l.length ≤ 19) : decA 0 l < 18446744073709551616 := by
  have h1 := decA_lt l h
  have h2 : 10 ^ l.length ≤ 10 ^ 19 := Nat.pow_le_pow_right (by omega) hl
  have h3 : (10 : Nat) ^ 19 = 10000000000000000000 := by decide
  omega
theorem parse_l0 (low high : Int) (s : ByteArray) (neg : Bool) (hs : s.size ≤ 19) (ha : s.data.toList.all isD = true) : ∀ (d i : Nat), i + d = s.size →
    Ev (fun k => linhayref01_Parse.l0 k low high s neg (decA 0 (s.data.toList.take i) : Int) (i : Int)) (finN neg (decA 0 s.data.toList) low high) := by
  have hll : s.data.toList.length = s.size := (Sp.size_eq s).symm
  intro d
  induction d with
  | zero =>
    intro i hi
    rw [List.take_of_length_le (by omega)]
    have hu := decA_fits ha (by omega)
    have hj := j4_ev low high neg (decA 0 s.data.toList) hu
    generalize decA 0 s.data.toList = u at hu hj ⊢
    refine Ev.step (fun k => by rw [linhayref01_Parse.l0]) ?_
    refine ev_neg (by omega) ?_
    by_cases h : (u : Int) > 9223372036854775808
    · have e : (if neg = true then decide (9223372036854775808 < u) else decide (9223372036854775808 ≤ u)) = true := by
        cases neg <;> simp <;> omega
      rw [e] at hj
      exact ev_pos h hj
    · refine ev_neg h ?_
      cases neg with
      | true =>
        rw [if_pos rfl, decide_eq_false (by omega)] at hj
        exact ev_pos rfl hj
      | false =>
        rw [if_neg (by simp)] at hj
        have e : ((u : Int) == 9223372036854775808) = decide (9223372036854775808 ≤ u) := by
          rw [Bool.eq_iff_iff]; simp; omega
        rw [← e] at hj
        exact ev_neg (by simp) hj
  | succ d ih =>
    intro i hi
    have hlt : i < s.size := by omega
    obtain ⟨c, hc, hd⟩ := Pu.get_at s hlt
    have hl : i < s.data.toList.length := by omega
    have hci : s.data.toList[i] = c := by rw [List.getElem?_eq_getElem hl] at hc; exact Option.some.inj hc
    have hD : isD c = true := by rw [← hci]; exact List.all_eq_true.1 ha _ (List.getElem_mem hl)
    have hD := of_decide_eq_true hD
    have hta : (s.data.toList.take i).all isD = true := List.all_eq_true.2 (fun x hx => List.all_eq_true.1 ha x (List.mem_of_mem_take hx))
    have hb := decA_lt _ hta
    have hb2 : 10 ^ (s.data.toList.take i).length ≤ 10 ^ 18 := Nat.pow_le_pow_right (by omega) (by rw [List.length_take]; omega)
    have hb3 : (10 : Nat) ^ 18 = 1000000000000000000 := by decide
    have h1 := ih (i + 1) (by omega)
    rw [List.take_succ_eq_append_getElem hl, hci, decA_snoc] at h1
    refine Ev.step (fun k => by rw [linhayref01_Parse.l0]) ?_
    refine ev_pos (by omega) (ev_pos (by omega) ?_)
    rw [bt_nat hc, w1 (by omega)]
    generalize decA 0 (s.data.toList.take i) = v at *
    have e : IntKind.u64.wrap (IntKind.u64.wrap ((v : Int) * 10) + ((c.toNat : Int) - 48) % 256) = ((v * 10 + (c.toNat - 48) : Nat) : Int) := by
      simp only [IntKind.wrap, IntKind.bits, IntKind.signed]
      simp
      omega
    rw [e]
    exact h1
theorem parse_j1 (low high : Int) (f : ByteArray) (neg : Bool) (hs : f.size < 4294967296) :
    Ev (fun k => linhayref01_Parse.j1 k low high f neg) (if dgB f.data.toList = true ∧ ¬ (neg = true ∧ f.data.toList = [48]) then finN neg (decA 0 f.data.toList) low high else (0, 3)) := by
  refine Ev.step (fun k => by rw [linhayref01_Parse.j1]) ?_
  refine ev_bind (digits_ev f hs) ?_
  have bad : Ev (fun k => linhayref01_Parse.j2 k low high f neg true) (0, 3) := by
    refine Ev.step (fun k => by rw [linhayref01_Parse.j2]) ?_
    exact ev_pos rfl (Ev.now _)
  by_cases hd : dgB f.data.toList = true
  · have hd' := hd
    unfold dgB at hd'
    simp only [Bool.and_eq_true, decide_eq_true_eq] at hd'
    have good : Ev (fun k => linhayref01_Parse.j2 k low high f neg false) (finN neg (decA 0 f.data.toList) low high) := by
      refine Ev.step (fun k => by rw [linhayref01_Parse.j2]) ?_
      refine ev_neg (by simp) ?_
      by_cases hz : (f.size : Int) > 19
      · have hlen : f.data.toList.length = f.size := (Sp.size_eq f).symm
        cases hh : f.data.toList.head? with
        | none => rw [List.head?_eq_none_iff] at hh; exact absurd hh hd'.2.1
        | some c =>
          have hc : c ≠ 48 := by
            rintro rfl
            have h3 := hd'.2.2
            rw [hh] at h3
            simp at h3
            omega
          have hbig := decA_big hd'.1 hh hc
          have hpow : 10 ^ 19 ≤ 10 ^ (f.data.toList.length - 1) := Nat.pow_le_pow_right (by omega) (by omega)
          have h19 : (10 : Nat) ^ 19 = 10000000000000000000 := by decide
          have e : finN neg (decA 0 f.data.toList) low high = (0, 4) := by
            unfold finN
            rw [if_pos]
            cases neg <;> simp <;> omega
          rw [e]
          exact ev_pos hz (Ev.now _)
      · exact ev_neg hz (parse_l0 low high f neg (by omega) hd'.1 f.size 0 (by omega))
    refine ev_pos hd ?_
    by_cases hn : neg = true
    · refine ev_pos hn ?_
      rw [toL]
      by_cases h48 : f.data.toList = [48]
      · rw [if_neg (fun h => h.2 ⟨hn, h48⟩), show (f.data.toList == [48]) = true by rw [h48]; rfl]; exact bad
      · rw [if_pos ⟨hd, fun h => h48 h.2⟩, show (f.data.toList == [48]) = false by simpa using h48]; exact good
    · rw [if_pos ⟨hd, fun h => hn h.1⟩]
      exact ev_neg hn good
  · rw [if_neg (fun h => hd h.1)]
    exact ev_neg hd bad
theorem good_iff (s : List UInt8) : goodN s = true ↔ dgB (magL s) = true ∧ ¬ (negB s = true ∧ magL s = [48]) := by
  unfold goodN dgB
  simp only [Bool.and_eq_true, decide_eq_true_eq, Bool.not_eq_true', decide_eq_false_iff_not, Bool.or_eq_true]
  have hone : ∀ l : List UInt8, l.head? = some 48 → (l.length = 1 ↔ l = [48]) := by
    intro l h
    cases l with
    | nil => cases h
    | cons a l =>
      obtain rfl : a = 48 := by simpa using h
      simp
  have hneg : negB s = true → s ≠ [48] := by rintro h rfl; exact absurd h (by decide)
  have hmag : negB s = false → magL s = s := by intro h; unfold magL; rw [h, if_neg (by simp)]
  constructor
  · rintro ⟨h1, h2, h3⟩
    refine ⟨⟨h2, h1, ?_⟩, ?_⟩
    · by_cases hh : (magL s).head? = some 48
      · have : s = [48] := Classical.byContradiction fun e => h3 ⟨hh, e⟩
        subst this
        exact .inr rfl
      · exact .inl hh
    · rintro ⟨hn, hm⟩
      exact h3 ⟨by rw [hm]; rfl, hneg hn⟩
  · rintro ⟨⟨h2, h1, h3⟩, h4⟩
    refine ⟨h1, h2, ?_⟩
    rintro ⟨hh, hs⟩
    rcases h3 with h3 | h3
    · exact h3 hh
    · have hm := (hone _ hh).1 h3
      cases hn : negB s with
      | true => exact h4 ⟨hn, hm⟩
      | false => rw [hmag hn] at hm; exact hs hm
theorem ref_parse (s : ByteArray) (low high : Int) (hs : s.size < 4294967296) : Ev (fun k => linhayref01_Parse.f k s low high) (numP s.data.toList low high) := by
  have key : ∀ (f : ByteArray), f.data.toList = magL s.data.toList → f.size < 4294967296 → Ev (fun k => linhayref01_Parse.j1 k low high f (negB s.data.toList)) (numP s.data.toList low high) := by
    intro f hf hz
    have h := parse_j1 low high f (negB s.data.toList) hz
    rw [hf] at h
    have e : (if dgB (magL s.data.toList) = true ∧ ¬ (negB s.data.toList = true ∧ magL s.data.toList = [48]) then finN (negB s.data.toList) (decA 0 (magL s.data.toList)) low high else (0, 3)) = numP s.data.toList low high := by
      unfold numP
      by_cases hg : goodN s.data.toList = true
      · rw [if_pos hg, if_pos ((good_iff _).1 hg)]; rfl
      · rw [if_neg hg, if_neg (fun h => hg ((good_iff _).2 h))]
    rw [e] at h
    exact h
  unfold linhayref01_Parse.f
  rw [toL]
  by_cases h0 : s.data.toList = []
  · refine ev_pos h0 ?_
    have hn : negB s.data.toList = false := by rw [h0]; rfl
    have := key s (by unfold magL; rw [hn, if_neg (by simp)]) hs
    rw [hn] at this
    refine Ev.step (fun k => by rw [linhayref01_Parse.j0]) ?_
    exact ev_neg (by simp) this
  · have hz : 0 < s.size := by rw [Sp.size_eq]; exact List.length_pos_iff.2 h0
    refine ev_neg h0 (ev_pos (by omega) ?_)
    obtain ⟨c, hc, hd⟩ := Pu.get_at s (i := 0) hz
    have hb := bt_nat hc
    rw [Int.ofNat_zero] at hb
    rw [hb]
    rw [List.drop_zero] at hd
    have hn : ((c.toNat : Int) == 45) = negB s.data.toList := by
      unfold negB
      rw [hd, Bool.eq_iff_iff]
      simp only [List.head?_cons, beq_iff_eq, Option.some.injEq]
      constructor
      · intro h; exact UInt8.toNat_inj.1 (by have : (45 : UInt8).toNat = 45 := rfl; omega)
      · rintro rfl; rfl
    rw [hn]
    refine Ev.step (fun k => by rw [linhayref01_Parse.j0]) ?_
    cases hb2 : negB s.data.toList with
    | true =>
      refine ev_pos rfl (ev_pos (by omega) ?_)
      have hx : (s.extract 1 s.size).data.toList = s.data.toList.drop 1 := by rw [Lib.extract_to_end s 1]
      have := key (s.extract 1 s.size) (by unfold magL; rw [hb2, if_pos rfl, hx]; simp) (by rw [Sp.size_eq, hx, List.length_drop, ← Sp.size_eq]; omega)
      rw [hb2] at this
      exact this
    | false =>
      refine ev_neg (by simp) ?_
      have := key s (by unfold magL; rw [hb2, if_neg (by simp)]) hs
      rw [hb2] at this
      exact this
end Go.Proofs.YtbbojnjagaljmaaDoor.Nu
