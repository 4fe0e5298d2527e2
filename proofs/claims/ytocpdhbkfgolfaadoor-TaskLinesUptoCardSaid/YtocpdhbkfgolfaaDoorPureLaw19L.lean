/- The law TaskLines. -/
import Derived.Test.YtocpdhbkfgolfaaDoorPureLines
import Derived.Test.YtocpdhbkfgolfaaDoorX20
namespace Go.Proofs.YtocpdhbkfgolfaaDoor.Pu
open Go Go.RowKit Go.Proofs Go.Proofs.YtocpdhbkfgolfaaDoor Go.Proofs.YtocpdhbkfgolfaaDoorW.PrintWords Go.Proofs.YtocpdhbkfgolfaaDoor.Ext Go.Proofs.YtocpdhbkfgolfaaDoor.X
set_option linter.unusedVariables false
set_option linter.unusedSimpArgs false

theorem task_lines_j (K : Int) (p t : ByteArray) (hp : p.size ≤ 1048576) (ht : t.size ≤ 1048576) (b : Bool) (hb : b = false → p.size ≤ 2000 ∧ t.size ≤ 2000) : Ev (fun k => linhaylaw19_TaskLines.j0 k b K p t) true := by
  refine Ev.step (fun k => by rw [linhaylaw19_TaskLines.j0]) ?_
  cases b with
  | true => exact ev_pos rfl (ev_bind l19_lives (Ev.now _))
  | false =>
    obtain ⟨h1, h2⟩ := hb rfl
    refine ev_neg (by simp) (ev_bind (line_ev K p t (by omega) (by omega)) (ev_bind (right K p t (by omega) (by omega)) (ev_bind (r_right K p t (by omega) (by omega)) (ev_neg (by simp) (ev_bind (r_right K p t (by omega) (by omega)) ?_)))))
    cases hr : rightT K p.data.toList t.data.toList with
    | false => 
      refine ev_neg (by simp) ?_
      rw [if_neg (by simp)]
      exact ev_pos (by rw [toL]) (ev_pos rfl (ev_bind l19_lives (Ev.now _)))
    | true =>
      refine ev_pos rfl ?_
      rw [if_pos rfl]
      have hl := lineT_len K p.data.toList t.data.toList
      rw [← Sp.size_eq, ← Sp.size_eq] at hl
      have hpv := parse_ev (Sp.mk (lineT K p.data.toList t.data.toList)) (by rw [Sp.mk_size]; omega)
      rw [Sp.mk_data, parse_line19 hr] at hpv
      refine ev_bind hpv (ev_bind (r_line K (right_K hr) p t (by omega) (by omega)) (ev_pos rfl (ev_pos rfl (ev_pos (by simp) (ev_pos rfl ?_)))))
      exact ev_bind l19_lives (Ev.now _)
theorem task_lines (K : Int) (p t : ByteArray) (hp : p.size ≤ 1048576) (ht : t.size ≤ 1048576) : Ev (fun k => linhaylaw19_TaskLines.f k K p t) true := by
  unfold linhaylaw19_TaskLines.f
  by_cases h : (p.size : Int) > 2000
  · exact ev_pos h (task_lines_j K p t hp ht true (by simp))
  · refine ev_neg h (task_lines_j K p t hp ht _ (fun e => ?_))
    have := of_decide_eq_false e
    omega
end Go.Proofs.YtocpdhbkfgolfaaDoor.Pu
