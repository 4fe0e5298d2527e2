/- Numbers as texts, as plain functions: digits, values, and what parsing answers. -/
import Derived.Test.YtbbojnjagaljmaaDoorPureN0
import Derived.Lib.ItoaNum
import Derived.Lib.AtoiAll
import Derived.Lib.Strings
namespace Go.Proofs.YtbbojnjagaljmaaDoor.Nu
open Go Go.Proofs Go.Proofs.YtbbojnjagaljmaaDoor Go.Proofs.YtbbojnjagaljmaaDoorW.PrintWords Go.Proofs.YtbbojnjagaljmaaDoor.Pu
set_option linter.unusedVariables false
set_option linter.unusedSimpArgs false
def isD (c : UInt8) : Bool := decide (48 ≤ c.toNat ∧ c.toNat ≤ 57)
def decA (acc : Nat) (l : List UInt8) : Nat := l.foldl (fun a c => a * 10 + (c.toNat - 48)) acc
theorem decA_cons (acc : Nat) (c : UInt8) (l : List UInt8) : decA acc (c :: l) = decA (acc * 10 + (c.toNat - 48)) l := by unfold decA; rw [List.foldl_cons]
theorem decA_snoc (acc : Nat) (l : List UInt8) (c : UInt8) : decA acc (l ++ [c]) = decA acc l * 10 + (c.toNat - 48) := by simp [decA]
theorem decA_ge : ∀ (l : List UInt8) (acc : Nat), acc ≤ decA acc l
  | [], acc => Nat.le_refl _
  | c :: l, acc => by rw [decA_cons]; have := decA_ge l (acc * 10 + (c.toNat - 48)); omega
theorem decA_lt : ∀ (l : List UInt8), l.all isD = true → decA 0 l < 10 ^ l.length := by
  intro l
  rw [← List.reverse_reverse l]
  generalize l.reverse = l
  induction l with
  | nil => intro _; decide
  | cons c l ih =>
    intro h
    rw [List.reverse_cons, List.all_append, Bool.and_eq_true] at h
    have h1 := ih h.1
    have h2 : isD c = true := by simpa using h.2
    have h3 := of_decide_eq_true h2
    rw [List.reverse_cons, decA_snoc, List.length_append, List.length_singleton, Nat.pow_succ]
    omega
theorem decA_big {l : List UInt8} (h : l.all isD = true) {c : UInt8} (hc : l.head? = some c) (h48 : c ≠ 48) : 10 ^ (l.length - 1) ≤ decA 0 l := by
  cases l with
  | nil => cases hc
  | cons a l =>
    obtain rfl : a = c := by simpa using hc
    have ha : isD a = true := by simp at h; exact h.1
    have ha := of_decide_eq_true ha
    have hne : a.toNat ≠ 48 := fun e => h48 (UInt8.toNat_inj.1 e)
    rw [decA_cons, List.length_cons, Nat.add_sub_cancel, Nat.zero_mul, Nat.zero_add]
    have key : ∀ (l : List UInt8) (acc : Nat), 1 ≤ acc → 10 ^ l.length ≤ decA acc l := by
      intro l
      induction l with
      | nil => intro acc h; simpa [decA] using h
      | cons b l ih =>
        intro acc h
        rw [decA_cons, List.length_cons, Nat.pow_succ]
        have h1 := ih 1 (Nat.le_refl _)
        have mono : ∀ (l : List UInt8) (x y k : Nat), x * k ≤ y → decA x l * 1 ≤ decA x l := fun _ _ _ _ _ => by omega
        clear mono
        have step : ∀ (l : List UInt8) (x : Nat), x * 10 ^ l.length ≤ decA x l := by
          intro l
          induction l with
          | nil => intro x; simp [decA]
          | cons d l ih2 =>
            intro x
            rw [decA_cons, List.length_cons, Nat.pow_succ]
            have := ih2 (x * 10 + (d.toNat - 48))
            have e : x * (10 ^ l.length * 10) = x * 10 * 10 ^ l.length := by rw [Nat.mul_comm (10 ^ l.length) 10, ← Nat.mul_assoc]
            rw [e]
            exact Nat.le_trans (Nat.mul_le_mul_right _ (by omega)) this
        have := step l (acc * 10 + (b.toNat - 48))
        have h3 : 10 * 10 ^ l.length ≤ (acc * 10 + (b.toNat - 48)) * 10 ^ l.length := Nat.mul_le_mul_right _ (by omega)
        omega
    exact key l _ (by omega)
theorem pu_dec : ∀ (l : List UInt8) (acc : Nat), l.all isD = true → acc < 18446744073709551616 → Lib.parseUint10 acc l = if decA acc l < 18446744073709551616 then .ok (decA acc l) else .range
  | [], acc, _, h => by show Lib.NumEnd.ok acc = _; rw [show decA acc [] = acc by unfold decA; rw [List.foldl_nil], if_pos h]
  | c :: l, acc, h, ha => by
    rw [List.all_cons, Bool.and_eq_true] at h
    have hc := of_decide_eq_true h.1
    rw [Lib.parseUint10, if_pos hc, decA_cons]
    have hge := decA_ge l (acc * 10 + (c.toNat - 48))
    by_cases h1 : 1844674407370955162 ≤ acc
    · rw [if_pos h1, if_neg (by omega)]
    · rw [if_neg h1]
      by_cases h2 : 18446744073709551616 ≤ acc * 10 + (c.toNat - 48)
      · rw [if_pos h2, if_neg (by omega)]
      · rw [if_neg h2]
        exact pu_dec l _ h.2 (by omega)
def negB (s : List UInt8) : Bool := s.head? == some 45
def magL (s : List UInt8) : List UInt8 := if negB s = true then s.tail else s
theorem trim_mag (s : List UInt8) : Lib.trimPrefix s [45] = magL s := by
  unfold Lib.trimPrefix magL negB
  cases s with
  | nil => rfl
  | cons c s =>
    have e : Lib.hasPrefix (c :: s) [45] = (c == 45) := by
      simp [Lib.hasPrefix, List.isPrefixOf]
      exact Bool.eq_iff_iff.2 (by rw [beq_iff_eq, beq_iff_eq]; exact eq_comm)
    rw [e]
    have e2 : (((c :: s).head? == some (45 : UInt8)) = true) = ((c == 45) = true) := by simp
    by_cases h : (c == 45) = true
    · rw [if_pos h, if_pos (e2.symm ▸ h)]; rfl
    · rw [if_neg h, if_neg (fun q => h (e2 ▸ q))]
/-- A text is a numeral as it is written. -/
def goodN (s : List UInt8) : Bool := decide (magL s ≠ []) && ((magL s).all isD && !(decide ((magL s).head? = some 48 ∧ s ≠ [48])))
def valN (s : List UInt8) : Int := if negB s = true then -(decA 0 (magL s) : Int) else (decA 0 (magL s) : Int)
def overN (s : List UInt8) : Bool := if negB s = true then decide (9223372036854775808 < decA 0 (magL s)) else decide (9223372036854775808 ≤ decA 0 (magL s))
def numP (s : List UInt8) (low high : Int) : Int × Int :=
  if goodN s = true then (if overN s = true then (0, 4) else if valN s < low ∨ valN s > high then (0, 4) else (valN s, 0)) else (0, 3)
theorem atoi_good {s : List UInt8} (h : goodN s = true) : Lib.atoiAll s = if overN s = true then .range else .ok (valN s) := by
  unfold goodN at h
  simp only [Bool.and_eq_true, decide_eq_true_eq] at h
  obtain ⟨h1, h2, -⟩ := h
  cases s with
  | nil => exact absurd rfl h1
  | cons c r =>
    have hneg : negB (c :: r) = decide (c.toNat = 45) := by
      unfold negB
      simp only [List.head?_cons]
      by_cases e : c = 45
      · subst e; rfl
      · have : c.toNat ≠ 45 := fun q => e (UInt8.toNat_inj.1 q)
        rw [decide_eq_false this]; simpa using e
    have hm : (if c.toNat = 43 ∨ c.toNat = 45 then r else c :: r) = magL (c :: r) := by
      unfold magL
      rw [hneg]
      by_cases e : c.toNat = 45
      · rw [if_pos (.inr e), if_pos (decide_eq_true e)]; rfl
      · have h43 : c.toNat ≠ 43 := by
          intro q
          have : magL (c :: r) = c :: r := by unfold magL; rw [hneg, if_neg (by simpa using e)]
          rw [this, List.all_cons, Bool.and_eq_true] at h2
          have := of_decide_eq_true h2.1
          omega
        rw [if_neg (by omega), if_neg (by simpa using e)]
    unfold Lib.atoiAll
    simp only []
    rw [hm]
    have hpu := pu_dec (magL (c :: r)) 0 h2 (by omega)
    have hpm : Lib.parseMag (magL (c :: r)) = if decA 0 (magL (c :: r)) < 18446744073709551616 then .ok (decA 0 (magL (c :: r))) else .range := by
      unfold Lib.parseMag; rw [if_neg h1, hpu]
    rw [hpm]
    unfold overN valN
    rw [hneg]
    generalize decA 0 (magL (c :: r)) = u
    by_cases e : c.toNat = 45
    · rw [decide_eq_true e]
      by_cases h3 : u < 18446744073709551616
      · rw [if_pos h3]
        simp only [e, not_true_eq_false, false_and, if_false, true_and, if_true]
        by_cases h4 : 9223372036854775808 < u
        · rw [if_pos h4, if_pos (decide_eq_true h4)]
        · rw [if_neg h4, if_neg (by simpa using h4)]
      · rw [if_neg h3]
        simp only [if_true]
        rw [if_pos (decide_eq_true (by omega))]
    · rw [decide_eq_false e]
      by_cases h3 : u < 18446744073709551616
      · rw [if_pos h3]
        simp only [e, not_false_eq_true, true_and, false_and, if_false]
        by_cases h4 : 9223372036854775808 ≤ u
        · rw [if_pos h4]; simp [h4]
        · rw [if_neg h4]; simp [h4]
      · rw [if_neg h3]
        simp [show 9223372036854775808 ≤ u by omega]
end Go.Proofs.YtbbojnjagaljmaaDoor.Nu
