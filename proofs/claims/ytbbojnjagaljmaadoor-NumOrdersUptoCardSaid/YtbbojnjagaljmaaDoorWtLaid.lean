/- The error and the table of layer 1, out of what the row lays. -/
import Derived.Test.YtbbojnjagaljmaaDoorRows
import Derived.Test.YtbbojnjagaljmaaDoorNumL
import Derived.LaidMore
import Derived.LaidSub
import Derived.Lay
import Derived.OpenShut
import Derived.Lib.LaidTab
import Derived.Stop.LaidErr
import Derived.RowKit
namespace Go.Proofs.YtbbojnjagaljmaaDoor.Nu
open Go Go.RowKit Go.Shelf Go.Proofs Go.Proofs.YtbbojnjagaljmaaDoor Go.ChangeShapes Go.WideShapes
set_option linter.unusedVariables false
set_option linter.unusedSimpArgs false
theorem starE : "*" ++ "errors.errorString" = "*errors.errorString" := by decide
theorem rowE (u : TypeId) (h : Tryd.prog.typeName? 3 u = some "*errors.errorString") : u = 107 :=
  typeName_ptr_named (nm := "errors.errorString") (by rw [starE]; kernel_rfl) (by kernel_rfl) (by decide) u (by rw [starE]; exact h)
theorem WT.of_laid {W : World} {l : List (String × DataW Unit)} (h1 : (l.filter fun x => x.1 == "strconv.ErrRange") = [("strconv.ErrRange", Rows.laid_strconv_ErrRange)]) (h2 : (l.filter fun x => x.1 == "internal/strconv.uint64pow10") = [("internal/strconv.uint64pow10", Rows.laid_internal_strconv_uint64pow10)]) (h : laidMetH Tryd.prog l W) : WT W := by
  have he := laidMetH.filter (fun x => x.1 == "strconv.ErrRange") h
  rw [h1] at he
  rw [MakeChecks.laidMetH_plain _ _ _ (by kernel_rfl)] at he
  have ht := laidMetH.filter (fun x => x.1 == "internal/strconv.uint64pow10") h
  rw [h2] at ht
  rw [MakeChecks.laidMetH_plain _ _ _ (by kernel_rfl)] at ht
  refine ⟨?_, ?_⟩
  · obtain ⟨a, s, hv, _⟩ := laid_sentinel (P := Tryd.prog) (ti := 36) (tp := 107) (te := 109) (ts := 9) he (g := 1) (by kernel_rfl) (by kernel_rfl) Tryd.underlying36 rowE Tryd.underlying107 Tryd.underlying109 rfl rfl Tryd.underlying9 (by kernel_rfl) (by kernel_rfl)
    exact ⟨_, _, hv⟩
  · have e : (Rows.laid_internal_strconv_uint64pow10 : DataW Unit) = Lib.tabData .u64 Lib.pow10Tab := rfl
    rw [e] at ht
    exact Lib.tabIs_of_head (g := 4) (by kernel_rfl) (by kernel_rfl) Tryd.underlying111 Tryd.underlying40 (by kernel_rfl) (by kernel_rfl) ht
end Go.Proofs.YtbbojnjagaljmaaDoor.Nu
