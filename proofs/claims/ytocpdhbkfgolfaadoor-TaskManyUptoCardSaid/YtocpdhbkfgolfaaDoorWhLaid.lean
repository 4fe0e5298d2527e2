/- The words of task.verbs, out of what the row lays. -/
import Derived.Test.YtocpdhbkfgolfaaDoorRows
import Derived.Test.YtocpdhbkfgolfaaDoorExtTask
import Derived.LaidMore
import Derived.LaidSub
import Derived.Lay
import Derived.OpenShut
import Derived.Lib.LaidTab
import Derived.RowKit
namespace Go.Proofs.YtocpdhbkfgolfaaDoor.Ext
open Go Go.RowKit Go.Proofs Go.Proofs.YtocpdhbkfgolfaaDoor Go.ChangeShapes Go.WideShapes
set_option linter.unusedVariables false
set_option linter.unusedSimpArgs false

theorem Wh.of_laid {W : World} {l : List (String × DataW Unit)} (hl : (l.filter fun x => x.1 == "linhay/task.verbs") = [("linhay/task.verbs", Rows.laid_linhay_task_verbs)]) (h : laidMetH Tryd.prog l W) : Wh W := by
  have h := laidMetH.filter (fun x => x.1 == "linhay/task.verbs") h
  rw [hl] at h
  rw [MakeChecks.laidMetH_plain _ _ _ (by kernel_rfl)] at h
  obtain ⟨ps, ⟨g, t, cs, fuel, p, q, hg, ht, hv, hd, _, _⟩, _, _⟩ := h
  obtain rfl := Option.some.inj ((show Tryd.prog.globalNamed "linhay/task.verbs" = some 0 by kernel_rfl).symm.trans hg)
  obtain rfl := Option.some.inj ((show (Tryd.prog.globals[0]?).map (·.type) = some 78 by kernel_rfl).symm.trans ht)
  have c1 : Tryd.prog.cellsOf 9 = 1 := by kernel_rfl
  obtain ⟨xs, m, _, ex, hlen, hl, hel⟩ := DataW.trod_array Tryd.underlying78 hd
  have e3 := (DataW.agg.inj (Prod.mk.inj ex).1)
  intro j x hx
  have hj : j < 7 := (List.getElem?_eq_some_iff.1 hx).1
  have hE := hel j hj
  rw [c1, Nat.mul_one, List.getElem?_eq_getElem (by omega)] at hE
  obtain ⟨z, e1, e2, _⟩ := DataW.trod_string Tryd.underlying9 hE
  rw [World.var?_cell hg hv j]
  have e4 : (xs.map (·.1))[j]? = some (DataW.lit (.string z.data.toList)) := by rw [List.getElem?_map, List.getElem?_eq_getElem (show j < xs.length by omega), Option.map_some, e2]
  rw [← e3] at e4
  have hz : z = x := by
    have hv : (vb.map fun s => (DataW.lit (.string s.data.toList) : DataW Unit))[j]? = some (.lit (.string x.data.toList)) := by rw [List.getElem?_map, hx]; rfl
    have : (vb.map fun s => (DataW.lit (.string s.data.toList) : DataW Unit)) = [.lit (.string []), .lit (.string [109, 107, 100, 105, 114]), .lit (.string [114, 109, 100, 105, 114]), .lit (.string [108, 105, 110, 107]), .lit (.string [117, 110, 108, 105, 110, 107]), .lit (.string [109, 111, 118, 101]), .lit (.string [119, 114, 105, 116, 101])] := rfl
    rw [this] at hv
    rw [hv] at e4
    have e5 := Lit.string.inj (DataW.lit.inj (Option.some.inj e4))
    apply ByteArray.ext
    apply Array.toList_inj.1
    exact e5.symm
  rw [← hz]
  have : cs.toList[j]? = some (.string z) := by
    have h0 : ((cs.toList.drop j).take 1)[0]? = some (.string z) := by rw [e1]; rfl
    simpa using h0
  simpa using this
end Go.Proofs.YtocpdhbkfgolfaaDoor.Ext
