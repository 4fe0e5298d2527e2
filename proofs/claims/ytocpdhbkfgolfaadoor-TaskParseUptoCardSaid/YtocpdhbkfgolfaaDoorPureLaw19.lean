/- The law TaskParse. -/
import Derived.Test.YtocpdhbkfgolfaaDoorPureParse
import Derived.Test.YtocpdhbkfgolfaaDoorX18
namespace Go.Proofs.YtocpdhbkfgolfaaDoor.Pu
open Go Go.RowKit Go.Proofs Go.Proofs.YtocpdhbkfgolfaaDoor Go.Proofs.YtocpdhbkfgolfaaDoorW.PrintWords Go.Proofs.YtocpdhbkfgolfaaDoor.Ext Go.Proofs.YtocpdhbkfgolfaaDoor.X
set_option linter.unusedVariables false
set_option linter.unusedSimpArgs false

theorem task_parse (s : ByteArray) (hs : s.size ≤ 1048576) : Ev (fun k => linhaylaw19_TaskParse.f k s) true := by
  unfold linhaylaw19_TaskParse.f
  by_cases h : (s.size : Int) > 4000
  · exact ev_pos h (ev_bind l19_lives (Ev.now _))
  · have hb := bare_ev (Sp.mk (sh s.data.toList)) (by rw [Sp.mk_size]; have := sh_len s.data.toList; rw [← Sp.size_eq] at this; omega)
    rw [Sp.mk_data] at hb
    have eb : bareR (sh s.data.toList) = (s, true) := by unfold bareR; rw [bare_sh]; simp [Sp.mk_of]
    rw [eb] at hb
    refine ev_neg h (ev_bind (parse_ev s (by omega)) (ev_bind (r_parse s (by omega)) (ev_bind (bare_ev s (by omega)) (ev_bind (r_bare s (by omega)) (ev_bind (shield s (by omega)) (ev_bind hb ?_))))))
    refine ev_pos (by simp) (ev_pos rfl (ev_pos rfl (ev_pos (by simp) (ev_bind (shield s (by omega)) (ev_bind (r_shield s (by omega)) (ev_pos rfl (ev_pos rfl (ev_pos rfl ?_))))))))
    exact ev_bind l19_lives (Ev.now _)
end Go.Proofs.YtocpdhbkfgolfaaDoor.Pu
