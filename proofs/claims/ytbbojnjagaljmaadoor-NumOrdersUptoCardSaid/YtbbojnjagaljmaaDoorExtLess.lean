/- linhayref01.less, walked by hand. -/
import Derived.Test.YtbbojnjagaljmaaDoorProg
import Derived.Test.YtbbojnjagaljmaaDoorWWords
import Derived.WalkKit
import Derived.WalkLawsBesides
namespace Go.Proofs.YtbbojnjagaljmaaDoor.Ext
open Go Go.RowKit Go.Proofs Go.Proofs.YtbbojnjagaljmaaDoor Go.Proofs.YtbbojnjagaljmaaDoorW.PrintWords
set_option linter.unusedVariables false
set_option linter.unusedSimpArgs false
def cmpL (a b : List UInt8) : Int := if Op.bytesLess a b = true then -1 else if Op.bytesLess b a = true then 1 else 0
theorem bl_irr : ∀ a : List UInt8, Op.bytesLess a a = false
  | [] => by simp [Op.bytesLess]
  | c :: a => by simp [Op.bytesLess, bl_irr a]
theorem bl_tot : ∀ a b : List UInt8, Op.bytesLess a b = false → Op.bytesLess b a = false → a = b
  | [], [], _, _ => rfl
  | _ :: _, [], _, h => by simp [Op.bytesLess] at h
  | [], _ :: _, h, _ => by simp [Op.bytesLess] at h
  | c :: a, d :: b, h, h2 => by
    simp [Op.bytesLess] at h h2
    obtain ⟨h3, h4⟩ := h
    obtain ⟨h5, h6⟩ := h2
    have e : c = d := UInt8.le_antisymm h5 h3
    subst e
    rw [bl_tot a b (h4 rfl) (h6 rfl)]
theorem bl_asym : ∀ a b : List UInt8, Op.bytesLess a b = true → Op.bytesLess b a = false
  | _, [], h => by simp [Op.bytesLess] at h
  | [], _ :: _, _ => by simp [Op.bytesLess]
  | c :: a, d :: b, h => by
    simp [Op.bytesLess] at h ⊢
    rcases h with h | ⟨rfl, h⟩
    · exact ⟨UInt8.le_of_lt h, fun e => absurd h (by rw [e]; exact UInt8.lt_irrefl _)⟩
    · exact ⟨UInt8.le_refl _, fun _ => bl_asym a b h⟩
def linhayref01_less.f (a0 : ByteArray) (a1 : ByteArray) : Option Int := some (cmpL a0.toList a1.toList)
set_option maxHeartbeats 1000000 in
theorem linhayref01_less.calls (a0 : ByteArray) (a1 : ByteArray) (r : Int) (w : World) (h : linhayref01_less.f a0 a1 = some r) :
    Calls Tryd.prog 24 #[.string a0, .string a1] w fun e w' => e = .returned (.int .i64 r) ∧ Below w.heap.size w w' := by
  obtain rfl := Option.some.inj h
  unfold cmpL
  cases h1 : Op.bytesLess a0.toList a1.toList with
  | true =>
    rw [if_pos rfl]
    go_enter Tryd.func24, Tryd.ntmps24
    go_wp2
    go_ret
    exact ⟨rfl, Below.refl _ _⟩
  | false =>
    rw [if_neg (by simp)]
    cases h2 : Op.bytesLess a1.toList a0.toList with
    | true =>
      rw [if_pos rfl]
      have h3 : (a0.toList == a1.toList) = false := by
        rw [beq_eq_false_iff_ne]
        intro e
        rw [e, bl_irr] at h2
        cases h2
      go_enter Tryd.func24, Tryd.ntmps24
      go_wp2
      go_ret
      exact ⟨rfl, Below.refl _ _⟩
    | false =>
      rw [if_neg (by simp)]
      have h3 : (a0.toList == a1.toList) = true := by rw [bl_tot _ _ h1 h2]; simp
      go_enter Tryd.func24, Tryd.ntmps24
      go_wp2
      go_ret
      exact ⟨rfl, Below.refl _ _⟩
end Go.Proofs.YtbbojnjagaljmaaDoor.Ext
