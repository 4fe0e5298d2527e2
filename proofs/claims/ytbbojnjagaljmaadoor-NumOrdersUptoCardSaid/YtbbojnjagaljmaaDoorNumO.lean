/- The natural order, as plain functions: the reference's is the same; of two unlike texts one is ahead. -/
import Derived.Test.YtbbojnjagaljmaaDoorNumV
import Derived.Test.YtbbojnjagaljmaaDoorExtLess
import Derived.Test.YtbbojnjagaljmaaDoorX4
import Derived.Test.YtbbojnjagaljmaaDoorX3
import Derived.Lib.Repeat
namespace Go.Proofs.YtbbojnjagaljmaaDoor.Nu
open Go Go.RowKit Go.Proofs Go.Proofs.YtbbojnjagaljmaaDoor Go.Proofs.YtbbojnjagaljmaaDoorW.PrintWords Go.Proofs.YtbbojnjagaljmaaDoor.Pu Go.Proofs.YtbbojnjagaljmaaDoor.X Go.Proofs.YtbbojnjagaljmaaDoor.Ext
set_option linter.unusedVariables false
set_option linter.unusedSimpArgs false
theorem cmpL_neg (a b : List UInt8) : cmpL b a = -(cmpL a b) := by
  unfold cmpL
  cases h1 : Op.bytesLess a b with
  | true => rw [bl_asym _ _ h1]; rfl
  | false => cases h2 : Op.bytesLess b a <;> simp
theorem cmpL_zero {a b : List UInt8} : cmpL a b = 0 ↔ a = b := by
  unfold cmpL
  constructor
  · intro h
    cases h1 : Op.bytesLess a b with
    | true => rw [h1] at h; simp at h
    | false =>
      cases h2 : Op.bytesLess b a with
      | true => rw [h1, h2] at h; simp at h
      | false => exact bl_tot _ _ h1 h2
  · rintro rfl
    rw [bl_irr]; simp
theorem cmpB_L (a b : ByteArray) : cmpB a b = cmpL a.toList b.toList := rfl
theorem toL_inj {a b : ByteArray} : a.toList = b.toList ↔ a = b := by
  rw [toL, toL]
  constructor
  · intro h; rw [← Sp.mk_of a, ← Sp.mk_of b, h]
  · intro h; rw [h]
theorem cmpB_neg (a b : ByteArray) : cmpB b a = -(cmpB a b) := cmpL_neg _ _
theorem cmpB_zero {a b : ByteArray} : cmpB a b = 0 ↔ a = b := by rw [cmpB_L, cmpL_zero, toL_inj]
theorem cmpI_neg (x y : Int) : Lib.compareInt y x = -(Lib.compareInt x y) := by
  unfold Lib.compareInt
  repeat' split
  all_goals omega
theorem or2_neg (c d : Int) : or2 (-c) (-d) = -(or2 c d) := by
  unfold or2
  by_cases h : c = 0
  · subst h; simp
  · rw [if_pos h, if_pos (by omega)]
theorem partF_neg (a b : ByteArray) : partF b a = -(partF a b) := by
  unfold partF
  by_cases h : headD a = true ∧ headD b = true
  · rw [if_pos h, if_pos ⟨h.2, h.1⟩, ← or2_neg, ← or2_neg, ← cmpI_neg, ← cmpB_neg, ← cmpB_neg]
  · rw [if_neg h, if_neg (fun g => h ⟨g.2, g.1⟩), cmpB_neg]
theorem or2_zero {c d : Int} (h : or2 c d = 0) : c = 0 ∧ d = 0 := by
  unfold or2 at h
  by_cases e : c = 0
  · rw [if_neg (by omega)] at h; exact ⟨e, h⟩
  · rw [if_pos e] at h; exact absurd h e
theorem partF_zero {a b : ByteArray} : partF a b = 0 ↔ a = b := by
  constructor
  · intro h
    unfold partF at h
    split at h
    · exact cmpB_zero.1 (or2_zero h).2
    · exact cmpB_zero.1 h
  · rintro rfl
    have h0 : cmpB a a = 0 := cmpB_zero.2 rfl
    have h1 : cmpB (tlB a) (tlB a) = 0 := cmpB_zero.2 rfl
    have h2 : Lib.compareInt ((tlB a).size : Int) ((tlB a).size : Int) = 0 := by unfold Lib.compareInt; rw [if_neg (by omega), if_neg (by omega)]
    unfold partF
    rw [h0, h1, h2]
    split <;> rfl
theorem fst_rst (a : ByteArray) : a.data.toList = (fst a).data.toList ++ (rst a).data.toList := by
  unfold fst rst
  rw [Lib.extract_data, Lib.extract_to_end]
  simp
theorem natB_neg : ∀ (k k' : Nat) (a b : ByteArray), a.size < k → b.size < k' → natB k' b a = -(natB k a b) := by
  intro k
  induction k with
  | zero => intro k' a b h; omega
  | succ k ih =>
    intro k' a b h h'
    obtain ⟨k', rfl⟩ : ∃ m, k' = m + 1 := ⟨k' - 1, by omega⟩
    rw [natB_one, natB_one]
    by_cases he : a.toList = [] ∨ b.toList = []
    · rw [if_pos he, if_pos he.symm, cmpI_neg]
    · rw [if_neg he, if_neg (fun h => he h.symm), partF_neg (fst a) (fst b)]
      simp only [not_or] at he
      have ha := ne_size he.1
      have hb := ne_size he.2
      have ca := cutN_in ha
      have cb := cutN_in hb
      by_cases hp : partF (fst a) (fst b) = 0
      · rw [hp, if_neg (by simp), if_neg (by simp)]
        exact ih k' (rst a) (rst b) (by rw [rst_size ha]; omega) (by rw [rst_size hb]; omega)
      · rw [if_pos hp, if_pos (by omega)]
theorem natB_zero : ∀ (k : Nat) (a b : ByteArray), a.size < k → (natB k a b = 0 ↔ a = b) := by
  intro k
  induction k with
  | zero => intro a b h; omega
  | succ k ih =>
    intro a b h
    rw [natB_one]
    by_cases he : a.toList = [] ∨ b.toList = []
    · rw [if_pos he]
      have hsz : ∀ x : ByteArray, x.toList = [] ↔ x.size = 0 := by
        intro x
        rw [toL, Sp.size_eq]
        exact List.length_eq_zero_iff.symm
      have hci : Lib.compareInt (a.size : Int) (b.size : Int) = 0 ↔ a.size = b.size := by
        unfold Lib.compareInt
        by_cases h1 : (a.size : Int) < (b.size : Int)
        · rw [if_pos h1]; constructor <;> intro; omega; omega
        · rw [if_neg h1]
          by_cases h2 : (a.size : Int) > (b.size : Int)
          · rw [if_pos h2]; constructor <;> intro; omega; omega
          · rw [if_neg h2]; constructor <;> intro; omega; rfl
      rw [hci]
      constructor
      · intro hs
        have h1 : a.toList = [] := by rcases he with h | h; exact h; rw [hsz]; rw [hsz] at h; omega
        have h2 : b.toList = [] := by rcases he with h | h; rw [hsz]; rw [hsz] at h; omega; exact h
        exact toL_inj.1 (h1.trans h2.symm)
      · rintro rfl; rfl
    · rw [if_neg he]
      simp only [not_or] at he
      have ha := ne_size he.1
      have ca := cutN_in ha
      by_cases hp : partF (fst a) (fst b) = 0
      · rw [hp, if_neg (by simp), ih (rst a) (rst b) (by rw [rst_size ha]; omega)]
        have hf := partF_zero.1 hp
        constructor
        · intro hr
          rw [← toL_inj, toL, toL, fst_rst a, fst_rst b, hf, hr]
        · rintro rfl; rfl
      · rw [if_pos hp]
        constructor
        · intro h; exact absurd h hp
        · rintro rfl; exact absurd (partF_zero.2 rfl) hp
theorem natB_fuel : ∀ (k k' : Nat) (a b : ByteArray), a.size < k → a.size < k' → natB k a b = natB k' a b := by
  intro k
  induction k with
  | zero => intro k' a b h; omega
  | succ k ih =>
    intro k' a b h h'
    obtain ⟨k', rfl⟩ : ∃ m, k' = m + 1 := ⟨k' - 1, by omega⟩
    rw [natB_one, natB_one]
    by_cases he : a.toList = [] ∨ b.toList = []
    · rw [if_pos he, if_pos he]
    · rw [if_neg he, if_neg he]
      simp only [not_or] at he
      have ha := ne_size he.1
      have ca := cutN_in ha
      by_cases hp : partF (fst a) (fst b) = 0
      · rw [hp, if_neg (by simp), if_neg (by simp)]
        exact ih k' (rst a) (rst b) (by rw [rst_size ha]; omega) (by rw [rst_size ha]; omega)
      · rw [if_pos hp, if_pos hp]
end Go.Proofs.YtbbojnjagaljmaaDoor.Nu
