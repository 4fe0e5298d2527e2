/- The reference's Same of two lists of strings. -/
import Derived.Test.YtocpdhbkfgolfaaDoorPure0
import Derived.Test.YtocpdhbkfgolfaaDoorX6
namespace Go.Proofs.YtocpdhbkfgolfaaDoor.Pu
open Go Go.RowKit Go.Proofs Go.Proofs.YtocpdhbkfgolfaaDoor Go.Proofs.YtocpdhbkfgolfaaDoorW.PrintWords Go.Proofs.YtocpdhbkfgolfaaDoor.Ext Go.Proofs.YtocpdhbkfgolfaaDoor.X
set_option linter.unusedVariables false
set_option linter.unusedSimpArgs false

theorem r02_same_l0 (a b : List ByteArray) (hl : a.length = b.length) (hb : a.length < 4611686018427387904) : ∀ (d i : Nat), i + d = a.length →
    Ev (fun k => linhayref02_Same.l0 k a b (i : Int)) (decide (a.drop i = b.drop i)) := by
  intro d
  induction d with
  | zero =>
    intro i hi
    refine Ev.step (fun k => by rw [linhayref02_Same.l0]) ?_
    refine ev_neg (by omega) ?_
    have e1 : a.drop i = [] := List.drop_eq_nil_of_le (by omega)
    have e2 : b.drop i = [] := List.drop_eq_nil_of_le (by omega)
    rw [e1, e2]
    exact Ev.now _
  | succ d ih =>
    intro i hi
    have h1 : i < a.length := by omega
    have h2 : i < b.length := by omega
    refine Ev.step (fun k => by rw [linhayref02_Same.l0]) ?_
    refine ev_pos (by omega) (ev_pos (by omega) (ev_pos (by omega) ?_))
    rw [rd_nat (List.getElem?_eq_getElem h1), rd_nat (List.getElem?_eq_getElem h2), List.drop_eq_getElem_cons h1, List.drop_eq_getElem_cons h2]
    by_cases e : a[i] = b[i]
    · refine ev_pos (by rw [e]) ?_
      rw [w1 (by omega), e]
      have := ih (i + 1) (by omega)
      generalize a.drop (i + 1) = X at *
      generalize b.drop (i + 1) = Y at *
      have e2 : decide (b[i] :: X = b[i] :: Y) = decide (X = Y) := by simp
      rw [e2]
      exact this
    · refine ev_neg (fun h => e ?_) ?_
      · rw [toL, toL] at h
        rw [← Sp.mk_of a[i], h, Sp.mk_of]
      · have : decide (a[i] :: a.drop (i + 1) = b[i] :: b.drop (i + 1)) = false := decide_eq_false (fun h => e (List.cons.inj h).1)
        rw [this]
        exact Ev.now _
theorem r02_same (a b : List ByteArray) (hb : a.length < 4611686018427387904) : Ev (fun k => linhayref02_Same.f k a b) (decide (a = b)) := by
  unfold linhayref02_Same.f
  by_cases hl : a.length = b.length
  · refine ev_pos (by omega) ?_
    have := r02_same_l0 a b hl hb a.length 0 (by omega)
    simpa using this
  · refine ev_neg (by omega) ?_
    have : decide (a = b) = false := decide_eq_false (fun e => hl (by rw [e]))
    rw [this]
    exact Ev.now _
end Go.Proofs.YtocpdhbkfgolfaaDoor.Pu
